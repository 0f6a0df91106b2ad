/-
  LawFnVersors: part 2 of the texts that the proof needs. No condition.
-/
import Derived.Test.YtggigolkncckoaaGreatP1
namespace Go.Proofs.YtggigolkncckoaaGreat
open Go.RowKit
theorem swaps_le (a b : Nat) (ha : a < 64) (k : Nat) : swaps a b k ≤ 6 * k := by
  induction k with
  | zero => simp [swaps]
  | succ k ih =>
    have : pc (a / 2 ^ (k + 1)) ≤ 6 := pc_le 6 _ (Nat.lt_of_le_of_lt (Nat.div_le_self _ _) (by omega))
    simp only [swaps]
    split <;> omega
theorem and_bit_all : ∀ k : Nat, k < 6 → ∀ x : Nat, x < 64 → bits BinOp.and IntKind.i64 ((x : Int) / 2 ^ k) 1 = (bit x k : Int) := by decide +kernel
theorem and_bit {x k : Nat} (hk : k < 6) (hx : x < 64) : bits BinOp.and IntKind.i64 ((x : Int) / 2 ^ k) 1 = (bit x k : Int) := and_bit_all k hk x hx
theorem bit_lt (x k : Nat) : bit x k < 2 := Nat.mod_lt _ (by omega)
theorem bit1 {x k : Nat} (hk : k < 6) (hx : x < 64) (h : (bits BinOp.and IntKind.i64 ((x : Int) / 2 ^ k) 1 == 1) = true) : bit x k = 1 := by
  rw [and_bit hk hx] at h; have := beq_iff_eq.1 h; omega
theorem bit0 {x k : Nat} (hk : k < 6) (hx : x < 64) (h : (bits BinOp.and IntKind.i64 ((x : Int) / 2 ^ k) 1 == 1) = false) : ¬ bit x k = 1 := by
  rw [and_bit hk hx] at h; intro hh; rw [hh] at h; simp at h
theorem shr_u64 (x k : Nat) (hx : x < 64) : IntKind.u64.wrap ((x : Int) / 2 ^ k) = ((x / 2 ^ k : Nat) : Int) := by
  have h : x / 2 ^ k ≤ x := Nat.div_le_self _ _
  have he : ((x : Int) / 2 ^ k) = ((x / 2 ^ k : Nat) : Int) := by simp
  rw [he]
  exact IntWalk.u64_in _ ⟨Int.natCast_nonneg _, by omega⟩
theorem keepB3 {B : Nat} {W0 w1 w2 : World} {p q r : Addr} {u v x : Value} (h : w1.cell? p = some u ∧ w1.cell? q = some v ∧ w1.cell? r = some x ∧ Below B W0 w1) (hb : Below w1.heap.size w1 w2) (hB : B ≤ W0.heap.size) :
    w2.cell? p = some u ∧ w2.cell? q = some v ∧ w2.cell? r = some x ∧ Below B W0 w2 :=
  ⟨(hb.cell (World.block_lt_of_cell? _ _ h.1)).trans h.1, (hb.cell (World.block_lt_of_cell? _ _ h.2.1)).trans h.2.1, (hb.cell (World.block_lt_of_cell? _ _ h.2.2.1)).trans h.2.2.1, h.2.2.2.trans (hb.mono (Nat.le_trans hB h.2.2.2.size))⟩
set_option maxRecDepth 2000 in
set_option maxHeartbeats 1600000 in
theorem factor_any (P : Int) (A : Option Addr) (n c : Nat) (sq : List Int) (a b : Nat) (w : World) (hp : 2 ≤ P) (hp2 : P ≤ 13) (hn : n ≤ 6) (ha : Rd w A n (ints sq)) (hs : NumsL P sq) (h1 : a < 64) (h2 : b < 64) :
    Calls Tryz.prog 355 #[.agg #[.int .i64 P, .slice A n c], .int .i64 a, .int .i64 b] w fun e w' => e = .returned (.int .i64 (fac P sq a b)) ∧ Below w.heap.size w w' := by
  have hxl : sq.length = n := by have := ha.1; rwa [ints_length] at this
  have Hx := Lib.hid hxl; clear hxl
  go_enter Tryz.func355, Tryz.ntmps355
  go_wp2_with (go_at_call 139; refine (dim_any _ _ _ _ _).mono ?_; rintro e w1 ⟨rfl, hb1⟩)
  have hk0 : Blk w1 w.heap.size 26 #[.int .i64 P, .slice A n c] := (Blk.new w _ _).below hb1 (by simp)
  have hB1 : Below w.heap.size w w1 := ((Below.refl _ w).alloc (Nat.le_refl _) _).trans (hb1.mono (by simp))
  have ha1 := ha.below hB1
  clear ha hb1
  go_loopw [7, 8, 9, 12] (fun sw out _ i wr => ∃ (k : Nat), k ≤ n ∧ i = .int .i64 k ∧ sw = .int .i64 (swaps a b k) ∧ out = .int .i64 (common P sq a b k) ∧ Below w1.heap.size w1 wr) (fun _ _ _ i _ => n - (intOf i).toNat)
  case atStart => exact ⟨0, by omega, rfl, rfl, rfl, Below.refl _ _⟩
  case round =>
    obtain ⟨k, hk, rfl, rfl, rfl, hM⟩ := hrel
    have hkr := hk0.below hM hk0.lt
    have har := ha1.below hM
    have hsl := swaps_le a b h1 k
    obtain ⟨cb1, cb2⟩ := common_bound P sq a b hp k
    by_cases hlt : k < n
    · cases hb : (bits BinOp.and IntKind.i64 ((b : Int) / 2 ^ k) 1 == 1)
      · have hb' := Lib.hid (bit0 (by omega) h2 hb)
        go_wp2
        go_roundw
        case rel => exact ⟨k + 1, by omega, by go_num, by simp only [swaps, if_neg hb'.out]; rfl, by simp only [common, if_neg (fun hh : bit b k = 1 ∧ bit a k = 1 => hb'.out hh.1)], hM⟩
        case measure => simp [intOf]; omega
      · have hb' := Lib.hid (bit1 (by omega) h2 hb)
        have hv := Lib.hid (shr_u64 a (k + 1) h1)
        have hpc : pc (a / 2 ^ (k + 1)) ≤ 6 := pc_le 6 _ (Nat.lt_of_le_of_lt (Nat.div_le_self _ _) (by omega))
        have hlt2 : a / 2 ^ (k + 1) < 64 := Nat.lt_of_le_of_lt (Nat.div_le_self _ _) h1
        have HL := Lib.hid hlt2; clear hlt2
        cases hba : (bits BinOp.and IntKind.i64 ((a : Int) / 2 ^ k) 1 == 1)
        · have hba' := Lib.hid (bit0 (by omega) h1 hba)
          go_wp2_with (go_at_call 323; rw [hv.out]; refine (ones_any _ _ HL.out).mono ?_; rintro e w' ⟨rfl, rfl⟩)
          go_roundw
          case rel => exact ⟨k + 1, by omega, by go_num, by simp only [swaps, if_pos hb'.out]; rfl, by simp only [common, if_neg (fun hh : bit b k = 1 ∧ bit a k = 1 => hba'.out hh.2)], hM⟩
          case measure => simp [intOf]; omega
        · have hba' := Lib.hid (bit1 (by omega) h1 hba)
          obtain ⟨g, o, rfl, hx, hcx⟩ := har.int hlt
          obtain ⟨sx1, sx2⟩ := hs _ (List.getElem_mem hx)
          obtain ⟨m1, m2⟩ := mul_small cb1 (show common P sq a b k ≤ 13 by omega) sx1 (show sq[k] ≤ 13 by omega)
          obtain ⟨kc0, kc1⟩ := hkr.two
          clear har ha1 hk0
          go_wp2_with (go_at_call 323; rw [hv.out]; refine (ones_any _ _ HL.out).mono ?_; rintro e w' ⟨rfl, rfl⟩)
          go_region_held3 (fun w' => w'.cell? ⟨w.heap.size, 0, none⟩ = some (.int .i64 P) ∧ w'.cell? ⟨w.heap.size, 1, none⟩ = some (.slice (some ⟨g, o, none⟩) n c) ∧ w'.cell? ⟨g, o + k, none⟩ = some (.int .i64 sq[k]) ∧ Below w1.heap.size w1 w')
            (first | with_reducible assumption | with_reducible exact keepB3 (by assumption) hb9 (Nat.le_refl _) | exact ⟨kc0, kc1, hcx, hM.drew⟩)
            (first
              | (go_at_call 152; refine (field_any _ _ _ _ _).mono ?_; rintro e w' ⟨rfl, hb9⟩)
              | (go_at_call 200; refine (num_iw P (common P sq a b k * sq[k]) _ (by omega) hp2 (by omega) (by omega)).mono ?_; rintro e w' ⟨rfl, rfl⟩))
          have hM2 := (by assumption : _ ∧ _ ∧ _ ∧ Below w1.heap.size w1 w').2.2.2
          go_wp2
          go_roundw
          case rel => exact ⟨k + 1, by omega, by go_num, by simp only [swaps, if_pos hb'.out]; rfl, by simp only [common, if_pos (And.intro hb'.out hba'.out)]; rw [List.getD_eq_getElem?_getD, List.getElem?_eq_getElem hx]; rfl, hM2⟩
          case measure => simp [intOf]; omega
    · obtain rfl : k = n := by omega
      have hBB : Below w.heap.size w wr := hB1.trans (hM.mono hB1.size)
      clear har ha1
      cases hsw : ((swaps a b k : Int) % 2 == 1)
      · go_wp2
        go_ret
        refine ⟨ret_int ?_, hBB⟩
        unfold fac
        rw [Hx.out, if_neg (by intro hh; have : (swaps a b k : Int) % 2 = 1 := by omega
                               rw [this] at hsw; simp at hsw)]
      · obtain ⟨kc0, kc1⟩ := hkr.two
        go_wp2_with (first
              | (go_at_call 152; refine (field_any _ _ _ _ _).mono ?_; rintro e w' ⟨rfl, hb9⟩)
              | (go_at_call 200; refine (num_any P (-common P sq a b k) _ (by omega) hp2 (by omega) (by omega)).mono ?_; rintro e w' ⟨rfl, rfl⟩))
        go_ret
        refine ⟨ret_int ?_, hBB.trans (hb9.mono hBB.size)⟩
        unfold fac
        rw [Hx.out, if_pos (by have := beq_iff_eq.1 hsw; omega)]
end Go.Proofs.YtggigolkncckoaaGreat
namespace Go.Proofs.YtggigolkncckoaaGreat
open Go.RowKit
theorem xor_all : ∀ x : Nat, x < 64 → ∀ y : Nat, y < 64 → bits BinOp.xor IntKind.i64 (x : Int) (y : Int) = ((x ^^^ y : Nat) : Int) := by decide +kernel
theorem xor_lt {n x y : Nat} (hx : x < pw n) (hy : y < pw n) : x ^^^ y < pw n := Nat.xor_lt_two_pow hx hy
theorem i64_fit (n : Int) (h1 : -1000000000000 ≤ n) (h2 : n ≤ 1000000000000) : IntKind.i64.wrap n = n := by rw [IntWalk.i64_left]; exact wrap_in n h1 h2
/-- A row of numbers of the call's own: place i. -/
theorem mkI_at {w w' : World} {g n c : Nat} {L : List Int} (h : MkI w w' (some ⟨g, 0, none⟩) n c L) {i : Nat} (hi : i < n) : w'.cell? ⟨g, i, none⟩ = some (.int .i64 (L.getD i 0)) ∧ w'.frozen? ⟨g, i, none⟩ = false := by
  have hl : L.length = n := by have := h.2.len; rwa [ints_length] at this
  obtain ⟨g', o, e, hx, hc⟩ := Rd.int h.rd hi
  injection e with e; injection e with e1 e2 _
  subst e1; subst e2
  rw [Nat.zero_add] at hc
  exact ⟨by rw [hc, List.getD_eq_getElem?_getD, List.getElem?_eq_getElem hx]; rfl, h.2.frozen_ i⟩
/-- A function of two masks that tells whether their product is taken. -/
def Takes (f : FuncId) (t : Nat → Nat → Bool) : Prop := ∀ (a b : Nat) (w : World), a < 64 → b < 64 → Calls Tryz.prog f #[.int .i64 a, .int .i64 b] w fun e w' => e = .returned (.bool (t a b)) ∧ w = w'
set_option maxRecDepth 2000 in
set_option maxHeartbeats 3200000 in
theorem product_any (f : FuncId) (t : Nat → Nat → Bool) (hf : Takes f t) (hcf : ∀ (args : Array Value) (w : World), (callFunc f args).run Tryz.prog w = .ok (.enter f args) w)
    (P : Int) (A : Option Addr) (n c : Nat) (sq : List Int) (X : Option Addr) (cx : Nat) (xs : List Int) (Y : Option Addr) (cy : Nat) (ys : List Int) (w : World) (hp : 2 ≤ P) (hp2 : P ≤ 13) (hn : n ≤ 6)
    (ha : Rd w A n (ints sq)) (hs : NumsL P sq) (hx : Rd w X (pw n) (ints xs)) (hxs : NumsL P xs) (hy : Rd w Y (pw n) (ints ys)) (hys : NumsL P ys) :
    Calls Tryz.prog 306 #[.agg #[.int .i64 P, .slice A n c], .slice X (pw n) cx, .slice Y (pw n) cy, .func (.func f) #[] #[]] w fun e w' => ∃ A' c', e = .returned (.slice A' (pw n) c') ∧ MkI w w' A' (pw n) c' (prodL P sq t xs ys) := by
  have hxl : xs.length = pw n := by have := hx.1; rwa [ints_length] at this
  have hyl : ys.length = pw n := by have := hy.1; rwa [ints_length] at this
  have Hx := Lib.hid hxl; clear hxl
  have Hy := Lib.hid hyl; clear hyl
  have hpw : pw n ≤ 64 := pw_le hn
  go_enter Tryz.func306, Tryz.ntmps306
  go_wp2_with (go_at_call 199; refine (nothing_any _ _ _ _ _ (by omega)).mono ?_; rintro e w1 ⟨G, c1, rfl, hM1⟩)
  have hB0 : Below w.heap.size w (w.alloc (.cells #[.int .i64 P, .slice A n c] 26)) := (Below.refl _ w).alloc (Nat.le_refl _) _
  have hk0 : Blk w1 w.heap.size 26 #[.int .i64 P, .slice A n c] := (Blk.new w _ _).below hM1.b (by simp)
  have hpos := pw_pos n
  rcases hM1.2.form with ⟨_, h0⟩ | ⟨g, rfl, hg, _⟩
  · omega
  have hg' : w.heap.size + 1 ≤ g := by simpa using hg
  have hM := hM1.after hB0
  clear hM1 hB0 hg hpos
  go_loopw [10, 11, 18] (fun _ _ i wr => ∃ k : Nat, k ≤ pw n ∧ i = .int .i64 k ∧ MkI w wr (some ⟨g, 0, none⟩) (pw n) c1 (addRows P sq t xs ys (List.replicate (pw n) 0) k) ∧ Blk wr w.heap.size 26 #[.int .i64 P, .slice A n c]) (fun _ _ i _ => pw n - (intOf i).toNat)
  case atStart => exact ⟨0, by omega, rfl, by simpa [addRows] using hM, hk0⟩
  case round =>
    obtain ⟨k, hk, rfl, hM2, hk2⟩ := hrel
    clear hM hk0
    have hrx := hx.below hM2.b
    by_cases hlt : k < pw n
    · obtain ⟨gx, ox, hX, hxk, hcx⟩ := hrx.int hlt
      subst hX
      obtain ⟨x1, x2⟩ := hxs _ (List.getElem_mem hxk)
      clear hrx
      cases h0 : (xs[k] == 0)
      · have hxn : Hid (xs.getD k 0 = xs[k]) := Lib.hid (by rw [List.getD_eq_getElem?_getD, List.getElem?_eq_getElem hxk]; rfl)
        have hR0 : MkI w wr (some ⟨g, 0, none⟩) (pw n) c1 (addRow P sq t xs ys k (addRows P sq t xs ys (List.replicate (pw n) 0) k) 0) := by simpa [addRow] using hM2
        have hN0 : NumsL P (addRows P sq t xs ys (List.replicate (pw n) 0) k) := addRows_nums sq t xs ys k (by omega) (NumsL.replicate (by omega) _)
        obtain ⟨L0, hL0⟩ : ∃ L, L = addRows P sq t xs ys (List.replicate (pw n) 0) k := ⟨_, rfl⟩
        rw [← hL0] at hR0 hN0
        have HL0 := Lib.hid hL0
        clear hM2 hL0
        have hcw : w.cell? ⟨gx, ox + k, none⟩ = some (.int .i64 xs[k]) := by
          obtain ⟨g', o', e, hx', hc'⟩ := hx.int hlt
          injection e with e; injection e with e1 e2 _
          subst e1; subst e2; exact hc'
        have HCW := Lib.hid hcw
        clear hcw
        go_wp2
        clear hcx
        go_loopw [12, 13, 27] (fun _ _ i wr => ∃ j : Nat, j ≤ pw n ∧ i = .int .i64 j ∧ MkI w wr (some ⟨g, 0, none⟩) (pw n) c1 (addRow P sq t xs ys k L0 j) ∧ Blk wr w.heap.size 26 #[.int .i64 P, .slice A n c]) (fun _ _ i _ => pw n - (intOf i).toNat)
        case atStart => exact ⟨0, by omega, rfl, hR0, hk2⟩
        case round =>
          clear hR0 hk2
          obtain ⟨j, hj, rfl, hM3, hk3⟩ := hrel
          have hry := hy.below hM3.b
          by_cases hlj : j < pw n
          · obtain ⟨gy, oy, hY, hyj, hcy⟩ := hry.int hlj
            subst hY
            obtain ⟨y1, y2⟩ := hys _ (List.getElem_mem hyj)
            clear hry
            have hyn : Hid (ys.getD j 0 = ys[j]) := Lib.hid (by rw [List.getD_eq_getElem?_getD, List.getElem?_eq_getElem hyj]; rfl)
            cases h1 : (ys[j] != 0)
            · have hz : Hid (ys.getD j 0 = 0) := Lib.hid (by rw [hyn.out]; simpa using h1)
              go_wp2
              go_roundw
              case rel => exact ⟨j + 1, by omega, by go_num, by rw [addRow_succ]; unfold addPair; rw [if_neg (fun hh => hh.2.1 hz.out)]; exact hM3, hk3⟩
              case measure => simp [intOf]; omega
            · cases ht : t k j
              · have HT := Lib.hid ht; clear ht
                go_wp2_with fail
                refine (hf k j _ (by omega) (by omega)).mono ?_
                rintro e w' ⟨rfl, rfl⟩
                rw [HT.out]
                go_wp2
                go_roundw
                case rel => exact ⟨j + 1, by omega, by go_num, by rw [addRow_succ]; unfold addPair; rw [if_neg (fun hh => by rw [HT.out] at hh; exact absurd hh.2.2 (by decide))]; exact hM3, hk3⟩
                case measure => simp [intOf]; omega
              · have HT := Lib.hid ht; clear ht
                have hidx : k ^^^ j < pw n := xor_lt hlt hlj
                have hxo := xor_all k (by omega) j (by omega)
                have hvb := (addRow_nums sq t xs ys k j (by omega) hN0).getD (by omega) (k ^^^ j)
                obtain ⟨hoc, hof⟩ := mkI_at hM3.drew hidx
                obtain ⟨v0, hv0⟩ : ∃ v, v = (addRow P sq t xs ys k L0 j).getD (k ^^^ j) 0 := ⟨_, rfl⟩
                rw [← hv0] at hvb hoc
                obtain ⟨v1, v2⟩ := hvb
                have HV0 := Lib.hid hv0
                have hAt : Hid (∀ w', MkI w w' (some ⟨g, 0, none⟩) (pw n) c1 (addRow P sq t xs ys k L0 j) → w'.cell? ⟨g, k ^^^ j, none⟩ = some (.int .i64 v0) ∧ w'.frozen? ⟨g, k ^^^ j, none⟩ = false) :=
                  Lib.hid (fun w' h => by rw [HV0.out]; exact mkI_at h hidx)
                clear hv0
                obtain ⟨f1, f2⟩ := fac_bound P sq k j hp
                obtain ⟨m1, m2⟩ := mul_small x1 (show xs[k] ≤ 13 by omega) y1 (show ys[j] ≤ 13 by omega)
                obtain ⟨m3, m4⟩ := mul_small m1 (show xs[k] * ys[j] ≤ 169 by omega) f1 (show fac P sq k j ≤ 13 by omega)
                have HNE : Hid (g ≠ w.heap.size) := Lib.hid (by omega)
                have HP : Hid (0 < P) := Lib.hid (by omega)
                have hV : Hid (∀ w', Calls Tryz.prog 200 #[.int .i64 P, .int .i64 (v0 + xs[k] * ys[j] * fac P sq k j)] w' fun e w'' => e = .returned (.int .i64 ((v0 + xs[k] * ys[j] * fac P sq k j) % P)) ∧ w' = w'') :=
                  Lib.hid (fun w' => num_any P _ w' (by omega) hp2 (by omega) (by omega))
                have hF : Hid (∀ w', MkI w w' (some ⟨g, 0, none⟩) (pw n) c1 (addRow P sq t xs ys k L0 j) → Calls Tryz.prog 355 #[.agg #[.int .i64 P, .slice A n c], .int .i64 k, .int .i64 j] w' fun e w'' => e = .returned (.int .i64 (fac P sq k j)) ∧ Below w'.heap.size w' w'') :=
                  Lib.hid (fun w' h => factor_any P A n c sq k j w' hp hp2 hn (ha.below h.b) hs (by omega) (by omega))
                have W1 := i64_fit (xs[k] * ys[j]) (by omega) (by omega)
                have W2 := i64_fit (xs[k] * ys[j] * fac P sq k j) (by omega) (by omega)
                have W3 := i64_fit (v0 + xs[k] * ys[j] * fac P sq k j) (by omega) (by omega)
                obtain ⟨kc0, kc1⟩ := hk3.two
                go_wp2_with fail
                refine (hf k j _ (by omega) (by omega)).mono ?_
                rintro e w' ⟨rfl, rfl⟩
                rw [HT.out]
                have hO := hM3.drew
                have hk4 := hk3.drew
                have HPair : Hid (xs.getD k 0 ≠ 0 ∧ ys.getD j 0 ≠ 0 ∧ t k j = true) := Lib.hid ⟨by rw [hxn.out]; simpa using h0, by rw [hyn.out]; simpa using h1, HT.out⟩
                go_wp2
                have i1 : (0 : Int) ≤ ((k ^^^ j : Nat) : Int) := by omega
                have i2 : ((k ^^^ j : Nat) : Int) < ((pw n : Nat) : Int) := by omega
                refine wp_obs 23 [[], [], [], [1, 2], [], [4], [], [], [], [7, 8], [6, 7, 8, 9], [6, 7, 8, 9, 10], [], [], [12, 13], [], [], [], [15, 16, 17], [12, 13, 14, 15, 16, 17, 18], [6, 7, 8, 9, 10, 11, 12, 13, 14, 15, 16, 17, 18, 19], [4, 5, 6, 7, 8, 9, 10, 11, 12, 13, 14, 15, 16, 17, 18, 19, 20], [0, 1, 2, 3], [0, 1, 2, 3, 4, 5, 6, 7, 8, 9, 10, 11, 12, 13, 14, 15, 16, 17, 18, 19, 20, 21, 22]] [VIs (.slice (some ⟨g, 0, none⟩) (pw n) c1), VIs (.int .i64 (k)), VIs (.int .i64 (j)), VIs (.int .i64 ((k ^^^ j : Nat))), VIs (.agg #[.int .i64 P, .slice A n c]), VIs (.int .i64 (P)), VIs (.slice (some ⟨g, 0, none⟩) (pw n) c1), VIs (.int .i64 (k)), VIs (.int .i64 (j)), VIs (.int .i64 ((k ^^^ j : Nat))), VIs (.pointer (some ⟨g, k ^^^ j, none⟩)), VIs (.int .i64 (v0)), VIs (.int .i64 (xs[k])), VIs (.int .i64 (ys[j])), VIs (.int .i64 (xs[k] * ys[j])), VIs (.agg #[.int .i64 P, .slice A n c]), VIs (.int .i64 (k)), VIs (.int .i64 (j)), VIs (.int .i64 (fac P sq k j)), VIs (.int .i64 (xs[k] * ys[j] * fac P sq k j)), VIs (.int .i64 (v0 + xs[k] * ys[j] * fac P sq k j)), VIs (.int .i64 ((v0 + xs[k] * ys[j] * fac P sq k j) % P)), VIs (.pointer (some ⟨g, k ^^^ j, none⟩))] (fun w' => Blk w' w.heap.size 26 #[.int .i64 P, .slice A n c] ∧ MkI w w' (some ⟨g, 0, none⟩) (pw n) c1 (addRow P sq t xs ys k L0 j)) (by kernel_rfl) (by kernel_rfl) (fun _ _ h hb => ⟨h.1.below hb h.1.lt, h.2.below hb⟩) (⟨hk4, hO⟩) (fun x => ?_)
                refine obs_step (Eq.trans (by simp only [List.getElem?_toArray, List.getElem?_cons_zero]; exact rfl) rfl) rfl (fun w' hS hV K hK => ?_) ?_
                · obtain ⟨q0, q1⟩ := hS.1.two; obtain ⟨hoc, hof⟩ := hAt.out _ hS.2
                  go_simp
                  exact hK.out _ _ _ rfl rfl rfl (Below.refl _ _)
                simp only [List.setIfInBounds_toArray, List.set_cons_zero, List.set_cons_succ]
                refine obs_step (Eq.trans (by simp only [List.getElem?_toArray, List.getElem?_cons_succ, List.getElem?_cons_zero]; exact rfl) rfl) rfl (fun w' hS hV K hK => ?_) ?_
                · obtain ⟨q0, q1⟩ := hS.1.two; obtain ⟨hoc, hof⟩ := hAt.out _ hS.2
                  go_simp
                  exact hK.out _ _ _ rfl rfl rfl (Below.refl _ _)
                simp only [List.setIfInBounds_toArray, List.set_cons_zero, List.set_cons_succ]
                refine obs_step (Eq.trans (by simp only [List.getElem?_toArray, List.getElem?_cons_succ, List.getElem?_cons_zero]; exact rfl) rfl) rfl (fun w' hS hV K hK => ?_) ?_
                · obtain ⟨q0, q1⟩ := hS.1.two; obtain ⟨hoc, hof⟩ := hAt.out _ hS.2
                  go_simp
                  exact hK.out _ _ _ rfl rfl rfl (Below.refl _ _)
                simp only [List.setIfInBounds_toArray, List.set_cons_zero, List.set_cons_succ]
                refine obs_step (Eq.trans (by simp only [List.getElem?_toArray, List.getElem?_cons_succ, List.getElem?_cons_zero]; exact rfl) rfl) rfl (fun w' hS hV K hK => ?_) ?_
                · simp only [List.mem_cons, List.not_mem_nil, or_false, forall_eq_or_imp, forall_eq, List.getD_cons_succ, List.getD_cons_zero, VIs, VAny] at hV
                  obtain ⟨e1, e2⟩ := hV
                  obtain ⟨q0, q1⟩ := hS.1.two; obtain ⟨hoc, hof⟩ := hAt.out _ hS.2
                  go_simp
                  exact hK.out _ _ _ rfl rfl rfl (Below.refl _ _)
                simp only [List.setIfInBounds_toArray, List.set_cons_zero, List.set_cons_succ]
                refine obs_step (Eq.trans (by simp only [List.getElem?_toArray, List.getElem?_cons_succ, List.getElem?_cons_zero]; exact rfl) rfl) rfl (fun w' hS hV K hK => ?_) ?_
                · obtain ⟨q0, q1⟩ := hS.1.two; obtain ⟨hoc, hof⟩ := hAt.out _ hS.2
                  go_simp
                  exact hK.out _ _ _ rfl rfl rfl (Below.refl _ _)
                simp only [List.setIfInBounds_toArray, List.set_cons_zero, List.set_cons_succ]
                refine obs_step (Eq.trans (by simp only [List.getElem?_toArray, List.getElem?_cons_succ, List.getElem?_cons_zero]; exact rfl) rfl) rfl (fun w' hS hV K hK => ?_) ?_
                · simp only [List.mem_cons, List.not_mem_nil, or_false, forall_eq, List.getD_cons_succ, List.getD_cons_zero, VIs, VAny] at hV
                  obtain e4 := hV
                  obtain ⟨q0, q1⟩ := hS.1.two; obtain ⟨hoc, hof⟩ := hAt.out _ hS.2
                  go_simp
                  refine (field_any _ _ _ _ _).mono ?_
                  rintro e v1 ⟨rfl, hb⟩
                  exact hK.out _ _ _ rfl rfl rfl hb
                simp only [List.setIfInBounds_toArray, List.set_cons_zero, List.set_cons_succ]
                refine obs_step (Eq.trans (by simp only [List.getElem?_toArray, List.getElem?_cons_succ, List.getElem?_cons_zero]; exact rfl) rfl) rfl (fun w' hS hV K hK => ?_) ?_
                · obtain ⟨q0, q1⟩ := hS.1.two; obtain ⟨hoc, hof⟩ := hAt.out _ hS.2
                  go_simp
                  exact hK.out _ _ _ rfl rfl rfl (Below.refl _ _)
                simp only [List.setIfInBounds_toArray, List.set_cons_zero, List.set_cons_succ]
                refine obs_step (Eq.trans (by simp only [List.getElem?_toArray, List.getElem?_cons_succ, List.getElem?_cons_zero]; exact rfl) rfl) rfl (fun w' hS hV K hK => ?_) ?_
                · obtain ⟨q0, q1⟩ := hS.1.two; obtain ⟨hoc, hof⟩ := hAt.out _ hS.2
                  go_simp
                  exact hK.out _ _ _ rfl rfl rfl (Below.refl _ _)
                simp only [List.setIfInBounds_toArray, List.set_cons_zero, List.set_cons_succ]
                refine obs_step (Eq.trans (by simp only [List.getElem?_toArray, List.getElem?_cons_succ, List.getElem?_cons_zero]; exact rfl) rfl) rfl (fun w' hS hV K hK => ?_) ?_
                · obtain ⟨q0, q1⟩ := hS.1.two; obtain ⟨hoc, hof⟩ := hAt.out _ hS.2
                  go_simp
                  exact hK.out _ _ _ rfl rfl rfl (Below.refl _ _)
                simp only [List.setIfInBounds_toArray, List.set_cons_zero, List.set_cons_succ]
                refine obs_step (Eq.trans (by simp only [List.getElem?_toArray, List.getElem?_cons_succ, List.getElem?_cons_zero]; exact rfl) rfl) rfl (fun w' hS hV K hK => ?_) ?_
                · simp only [List.mem_cons, List.not_mem_nil, or_false, forall_eq_or_imp, forall_eq, List.getD_cons_succ, List.getD_cons_zero, VIs, VAny] at hV
                  obtain ⟨e7, e8⟩ := hV
                  obtain ⟨q0, q1⟩ := hS.1.two; obtain ⟨hoc, hof⟩ := hAt.out _ hS.2
                  go_simp
                  exact hK.out _ _ _ rfl rfl rfl (Below.refl _ _)
                simp only [List.setIfInBounds_toArray, List.set_cons_zero, List.set_cons_succ]
                refine obs_step (Eq.trans (by simp only [List.getElem?_toArray, List.getElem?_cons_succ, List.getElem?_cons_zero]; exact rfl) rfl) rfl (fun w' hS hV K hK => ?_) ?_
                · simp only [List.mem_cons, List.not_mem_nil, or_false, forall_eq_or_imp, forall_eq, List.getD_cons_succ, List.getD_cons_zero, VIs, VAny] at hV
                  obtain ⟨e6, e7, e8, e9⟩ := hV
                  obtain ⟨q0, q1⟩ := hS.1.two; obtain ⟨hoc, hof⟩ := hAt.out _ hS.2
                  go_simp
                  exact hK.out _ _ _ rfl rfl rfl (Below.refl _ _)
                simp only [List.setIfInBounds_toArray, List.set_cons_zero, List.set_cons_succ]
                refine obs_step (Eq.trans (by simp only [List.getElem?_toArray, List.getElem?_cons_succ, List.getElem?_cons_zero]; exact rfl) rfl) rfl (fun w' hS hV K hK => ?_) ?_
                · simp only [List.mem_cons, List.not_mem_nil, or_false, forall_eq_or_imp, forall_eq, List.getD_cons_succ, List.getD_cons_zero, VIs, VAny] at hV
                  obtain ⟨e6, e7, e8, e9, e10⟩ := hV
                  obtain ⟨q0, q1⟩ := hS.1.two; obtain ⟨hoc, hof⟩ := hAt.out _ hS.2
                  go_simp
                  exact hK.out _ _ _ rfl rfl rfl (Below.refl _ _)
                simp only [List.setIfInBounds_toArray, List.set_cons_zero, List.set_cons_succ]
                refine obs_step (Eq.trans (by simp only [List.getElem?_toArray, List.getElem?_cons_succ, List.getElem?_cons_zero]; exact rfl) rfl) rfl (fun w' hS hV K hK => ?_) ?_
                · obtain ⟨q0, q1⟩ := hS.1.two; obtain ⟨hoc, hof⟩ := hAt.out _ hS.2
                  go_simp
                  exact hK.out _ _ _ rfl rfl rfl (Below.refl _ _)
                simp only [List.setIfInBounds_toArray, List.set_cons_zero, List.set_cons_succ]
                refine obs_step (Eq.trans (by simp only [List.getElem?_toArray, List.getElem?_cons_succ, List.getElem?_cons_zero]; exact rfl) rfl) rfl (fun w' hS hV K hK => ?_) ?_
                · obtain ⟨q0, q1⟩ := hS.1.two; obtain ⟨hoc, hof⟩ := hAt.out _ hS.2
                  go_simp
                  exact hK.out _ _ _ rfl rfl rfl (Below.refl _ _)
                simp only [List.setIfInBounds_toArray, List.set_cons_zero, List.set_cons_succ]
                refine obs_step (Eq.trans (by simp only [List.getElem?_toArray, List.getElem?_cons_succ, List.getElem?_cons_zero]; exact rfl) rfl) rfl (fun w' hS hV K hK => ?_) ?_
                · simp only [List.mem_cons, List.not_mem_nil, or_false, forall_eq_or_imp, forall_eq, List.getD_cons_succ, List.getD_cons_zero, VIs, VAny] at hV
                  obtain ⟨e12, e13⟩ := hV
                  obtain ⟨q0, q1⟩ := hS.1.two; obtain ⟨hoc, hof⟩ := hAt.out _ hS.2
                  go_simp
                  exact hK.out _ _ _ rfl rfl rfl (Below.refl _ _)
                simp only [List.setIfInBounds_toArray, List.set_cons_zero, List.set_cons_succ]
                refine obs_step (Eq.trans (by simp only [List.getElem?_toArray, List.getElem?_cons_succ, List.getElem?_cons_zero]; exact rfl) rfl) rfl (fun w' hS hV K hK => ?_) ?_
                · obtain ⟨q0, q1⟩ := hS.1.two; obtain ⟨hoc, hof⟩ := hAt.out _ hS.2
                  go_simp
                  exact hK.out _ _ _ rfl rfl rfl (Below.refl _ _)
                simp only [List.setIfInBounds_toArray, List.set_cons_zero, List.set_cons_succ]
                refine obs_step (Eq.trans (by simp only [List.getElem?_toArray, List.getElem?_cons_succ, List.getElem?_cons_zero]; exact rfl) rfl) rfl (fun w' hS hV K hK => ?_) ?_
                · obtain ⟨q0, q1⟩ := hS.1.two; obtain ⟨hoc, hof⟩ := hAt.out _ hS.2
                  go_simp
                  exact hK.out _ _ _ rfl rfl rfl (Below.refl _ _)
                simp only [List.setIfInBounds_toArray, List.set_cons_zero, List.set_cons_succ]
                refine obs_step (Eq.trans (by simp only [List.getElem?_toArray, List.getElem?_cons_succ, List.getElem?_cons_zero]; exact rfl) rfl) rfl (fun w' hS hV K hK => ?_) ?_
                · obtain ⟨q0, q1⟩ := hS.1.two; obtain ⟨hoc, hof⟩ := hAt.out _ hS.2
                  go_simp
                  exact hK.out _ _ _ rfl rfl rfl (Below.refl _ _)
                simp only [List.setIfInBounds_toArray, List.set_cons_zero, List.set_cons_succ]
                refine obs_step (Eq.trans (by simp only [List.getElem?_toArray, List.getElem?_cons_succ, List.getElem?_cons_zero]; exact rfl) rfl) rfl (fun w' hS hV K hK => ?_) ?_
                · simp only [List.mem_cons, List.not_mem_nil, or_false, forall_eq_or_imp, forall_eq, List.getD_cons_succ, List.getD_cons_zero, VIs, VAny] at hV
                  obtain ⟨e15, e16, e17⟩ := hV
                  obtain ⟨q0, q1⟩ := hS.1.two; obtain ⟨hoc, hof⟩ := hAt.out _ hS.2
                  go_simp
                  refine (hF.out _ hS.2).mono ?_
                  rintro e v1 ⟨rfl, hb⟩
                  exact hK.out _ _ _ rfl rfl rfl hb
                simp only [List.setIfInBounds_toArray, List.set_cons_zero, List.set_cons_succ]
                refine obs_step (Eq.trans (by simp only [List.getElem?_toArray, List.getElem?_cons_succ, List.getElem?_cons_zero]; exact rfl) rfl) rfl (fun w' hS hV K hK => ?_) ?_
                · simp only [List.mem_cons, List.not_mem_nil, or_false, forall_eq_or_imp, forall_eq, List.getD_cons_succ, List.getD_cons_zero, VIs, VAny] at hV
                  obtain ⟨e12, e13, e14, e15, e16, e17, e18⟩ := hV
                  obtain ⟨q0, q1⟩ := hS.1.two; obtain ⟨hoc, hof⟩ := hAt.out _ hS.2
                  go_simp
                  exact hK.out _ _ _ rfl rfl rfl (Below.refl _ _)
                simp only [List.setIfInBounds_toArray, List.set_cons_zero, List.set_cons_succ]
                refine obs_step (Eq.trans (by simp only [List.getElem?_toArray, List.getElem?_cons_succ, List.getElem?_cons_zero]; exact rfl) rfl) rfl (fun w' hS hV K hK => ?_) ?_
                · simp only [List.mem_cons, List.not_mem_nil, or_false, forall_eq_or_imp, forall_eq, List.getD_cons_succ, List.getD_cons_zero, VIs, VAny] at hV
                  obtain ⟨e6, e7, e8, e9, e10, e11, e12, e13, e14, e15, e16, e17, e18, e19⟩ := hV
                  obtain ⟨q0, q1⟩ := hS.1.two; obtain ⟨hoc, hof⟩ := hAt.out _ hS.2
                  go_simp
                  exact hK.out _ _ _ rfl rfl rfl (Below.refl _ _)
                simp only [List.setIfInBounds_toArray, List.set_cons_zero, List.set_cons_succ]
                refine obs_step (Eq.trans (by simp only [List.getElem?_toArray, List.getElem?_cons_succ, List.getElem?_cons_zero]; exact rfl) rfl) rfl (fun w' hS hV K hK => ?_) ?_
                · simp only [List.mem_cons, List.not_mem_nil, or_false, forall_eq_or_imp, forall_eq, List.getD_cons_succ, List.getD_cons_zero, VIs, VAny] at hV
                  obtain ⟨e4, e5, e6, e7, e8, e9, e10, e11, e12, e13, e14, e15, e16, e17, e18, e19, e20⟩ := hV
                  obtain ⟨q0, q1⟩ := hS.1.two; obtain ⟨hoc, hof⟩ := hAt.out _ hS.2
                  go_simp
                  refine (hV.out _).mono ?_
                  rintro e v1 ⟨rfl, rfl⟩
                  exact hK.out _ _ _ rfl rfl rfl (Below.refl _ _)
                simp only [List.setIfInBounds_toArray, List.set_cons_zero, List.set_cons_succ]
                refine obs_step (Eq.trans (by simp only [List.getElem?_toArray, List.getElem?_cons_succ, List.getElem?_cons_zero]; exact rfl) rfl) rfl (fun w' hS hV K hK => ?_) ?_
                · simp only [List.mem_cons, List.not_mem_nil, or_false, forall_eq_or_imp, forall_eq, List.getD_cons_succ, List.getD_cons_zero, VIs, VAny] at hV
                  obtain ⟨e0, e1, e2, e3⟩ := hV
                  obtain ⟨q0, q1⟩ := hS.1.two; obtain ⟨hoc, hof⟩ := hAt.out _ hS.2
                  go_simp
                  exact hK.out _ _ _ rfl rfl rfl (Below.refl _ _)
                simp only [List.setIfInBounds_toArray, List.set_cons_zero, List.set_cons_succ]
                refine fun w' hS hV => ?_
                have hV := fun i hi => hV i (List.mem_range.1 hi)
                simp only [List.range, List.range.loop, List.mem_cons, List.not_mem_nil, or_false, forall_eq_or_imp, forall_eq, List.getD_cons_succ, List.getD_cons_zero, VIs, VAny] at hV
                obtain ⟨e0, e1, e2, e3, e4, e5, e6, e7, e8, e9, e10, e11, e12, e13, e14, e15, e16, e17, e18, e19, e20, e21, e22⟩ := hV
                simp only [e0, e1, e2, e3, e4, e5, e6, e7, e8, e9, e10, e11, e12, e13, e14, e15, e16, e17, e18, e19, e20, e21, e22]
                clear e0 e1 e2 e3 e4 e5 e6 e7 e8 e9 e10 e11 e12 e13 e14 e15 e16 e17 e18 e19 e20 e21 e22
                obtain ⟨hk4, hO⟩ := hS
                obtain ⟨hoc, hof⟩ := hAt.out _ hO
                refine any_one (j := 23) (by kernel_rfl) (Eq.trans (by simp only [List.getElem?_toArray, List.getElem?_cons_succ, List.getElem?_cons_zero]; exact rfl) rfl) (fun K hK => ?_)
                go_simp
                refine hK.out _ _ (wpAny_done (by kernel_rfl) ?_ _)
                have hset := (hO.set (k ^^^ j) (.int .i64 ((v0 + xs[k] * ys[j] * fac P sq k j) % P))).1
                rw [ints_set] at hset
                have hkn := hk4.far (p := ⟨g, k ^^^ j, none⟩) HNE.out.symm (.int .i64 ((v0 + xs[k] * ys[j] * fac P sq k j) % P))
                clear W1 W2 W3 hoc hof hO hk4
                go_wp2
                go_roundw
                case rel => exact ⟨j + 1, by omega, by go_num, by rw [addRow_succ]; unfold addPair; rw [if_pos HPair.out, ← HV0.out, hxn.out, hyn.out]; exact hset, hkn⟩
                case measure => simp [intOf]; omega
          · obtain rfl : j = pw n := by omega
            have HM := Lib.hid hM3
            clear hry hM3
            go_wp2
            go_roundw
            case rel => exact ⟨k + 1, by omega, by go_num, by rw [addRows_succ, Hy.out, ← HL0.out]; exact HM.out, hk3⟩
            case measure => simp [intOf]; omega
      · have hz : xs.getD k 0 = 0 := by rw [List.getD_eq_getElem?_getD, List.getElem?_eq_getElem hxk]; simpa using h0
        have HM := Lib.hid hM2
        clear hM2
        go_wp2
        go_roundw
        case rel => exact ⟨k + 1, by omega, by go_num, by rw [addRows_succ, addRow_zero _ _ _ _ _ _ _ _ hz]; exact HM.out, hk2⟩
        case measure => simp [intOf]; omega
    · obtain rfl : k = pw n := by omega
      go_wp2
      go_ret
      exact ⟨_, _, rfl, by unfold prodL; rw [Hx.out]; exact hM2⟩
end Go.Proofs.YtggigolkncckoaaGreat
namespace Go.Proofs.YtggigolkncckoaaGreat
open Go.RowKit
theorem mul_range {x k : Int} (x1 : 0 ≤ x) (x2 : x ≤ 13) (k1 : -1000 ≤ k) (k2 : k ≤ 1000) : -13000 ≤ k * x ∧ k * x ≤ 13000 := by
  have h1 := Int.mul_le_mul_of_nonneg_right k2 x1
  have h2 := Int.mul_le_mul_of_nonneg_right k1 x1
  omega
set_option maxHeartbeats 800000 in
theorem plus_any (p : Int) (A : Option Addr) (n c : Nat) (B : Option Addr) (m d : Nat) (k : Int) (xs ys : List Int) (w : World) (hp : 2 ≤ p) (hp2 : p ≤ 13) (hn : n ≤ 65536) (hnm : n ≤ m) (ha : Rd w A n (ints xs)) (hx : NumsL p xs) (hb : Rd w B m (ints ys)) (hy : NumsL p ys) (hk1 : -1000 ≤ k) (hk2 : k ≤ 1000) :
    Calls Tryz.prog 153 #[.int .i64 p, .slice A n c, .slice B m d, .int .i64 k] w fun e w' => ∃ A' c', e = .returned (.slice A' n c') ∧ MkI w w' A' n c' (plusL p xs ys k) := by
  have hxl : xs.length = n := by have := ha.1; rwa [ints_length] at this
  have Hx := Lib.hid hxl; clear hxl
  have hM0 := Mk.lit (E := 2) (Below.refl w.heap.size w) #[] (by simp)
  go_enter Tryz.func153, Tryz.ntmps153
  go_wp2
  go_loopw [9, 10, 11, 15] (fun out _ _ i wr => ∃ (j : Nat) (A' : Option Addr) (c' : Nat), j ≤ n ∧ i = .int .i64 j ∧ out = .slice A' j c' ∧ MkI w wr A' j c' (tab j fun i => (xs.getD i 0 + k * ys.getD i 0) % p)) (fun _ _ _ i _ => n - (intOf i).toNat)
  case atStart => exact ⟨0, _, _, by omega, rfl, rfl, by simpa [MkI, ints, tab] using hM0⟩
  case round =>
    obtain ⟨j, A', c', hj, rfl, rfl, hM⟩ := hrel
    clear hM0
    by_cases hlt : j < n
    · obtain ⟨g, o, rfl, hxj, hcx⟩ := (ha.below hM.b).int hlt
      obtain ⟨g2, o2, rfl, hyj, hcy⟩ := (hb.below hM.b).int (show j < m by omega)
      obtain ⟨x1, x2⟩ := hx _ (List.getElem_mem hxj)
      obtain ⟨y1, y2⟩ := hy _ (List.getElem_mem hyj)
      obtain ⟨m1, m2⟩ := mul_range y1 (show ys[j] ≤ 13 by omega) hk1 hk2
      have HV : Hid ((tab (j + 1) fun i => (xs.getD i 0 + k * ys.getD i 0) % p) = (tab j fun i => (xs.getD i 0 + k * ys.getD i 0) % p) ++ [(xs[j] + k * ys[j]) % p]) := Lib.hid (by rw [tab_succ, getD_of_lt 0 hxj, getD_of_lt 0 hyj])
      have HM := Lib.hid hM
      clear ha hb hM
      go_wp2_with (first
        | (go_at_call 200; refine (num_any _ (xs[j] + k * ys[j]) _ (by omega) hp2 (by omega) (by omega)).mono ?_; rintro e w' ⟨rfl, rfl⟩)
        | (at_builtin; refine wpList_app1 w _ 24 2 _ _ Tryz.underlying24 info_i rfl (by omega) rfl _ _ rfl A' j c' _ _ HM.out (by omega) rfl rfl rfl ?_; intro A2 c2 w2 hM2 _ _))
      go_roundw
      case rel => exact ⟨j + 1, A2, c2, by omega, by go_num, rfl, by rw [HV.out]; simpa [MkI, ints] using hM2⟩
      case measure => simp [intOf]; omega
    · go_wp2
      go_ret
      obtain rfl : j = n := by omega
      exact ⟨_, _, rfl, by unfold plusL; rw [Hx.out]; exact hM⟩
end Go.Proofs.YtggigolkncckoaaGreat
namespace Go.Proofs.YtggigolkncckoaaGreat
open Go.RowKit
/-- The blade of a mask. -/
def bladeL (n m : Nat) : List Int := (List.replicate (pw n) 0).set m 1
theorem bladeL_len (n m : Nat) : (bladeL n m).length = pw n := by simp [bladeL]
theorem bladeL_nums {p : Int} (hp : 2 ≤ p) (n m : Nat) : NumsL p (bladeL n m) := (NumsL.replicate (by omega) _).set _ ⟨by omega, by omega⟩
set_option maxHeartbeats 400000 in
theorem blade_any (P : Int) (A : Option Addr) (n c : Nat) (m : Nat) (w : World) (hn : n ≤ 10) (hm : m < pw n) :
    Calls Tryz.prog 352 #[.agg #[.int .i64 P, .slice A n c], .int .i64 m] w fun e w' => ∃ A' c', e = .returned (.slice A' (pw n) c') ∧ MkI w w' A' (pw n) c' (bladeL n m) := by
  have hB0 : Below w.heap.size w (w.alloc (.cells #[.int .i64 P, .slice A n c] 26)) := (Below.refl _ w).alloc (Nat.le_refl _) _
  go_enter Tryz.func352, Tryz.ntmps352
  go_wp2_with (go_at_call 199; refine (nothing_any _ _ _ _ _ hn).mono ?_; rintro e w1 ⟨G, c1, rfl, hM1⟩; have hM := hM1.after hB0; rcases hM.2.form with ⟨_, h0⟩ | ⟨g, rfl, hg, _⟩; (omega); obtain ⟨u1, hc1⟩ := hM.2.cellI hm; have hf1 := hM.2.frozen_ m; have hset := (hM.set m (.int .i64 1)).1; rw [ints_set] at hset; have HS := Lib.hid hset; clear hM hM1 hset)
  go_ret
  exact ⟨_, _, rfl, HS.out⟩
set_option maxHeartbeats 400000 in
theorem one_any (P : Int) (A : Option Addr) (n c : Nat) (w : World) (hn : n ≤ 10) :
    Calls Tryz.prog 295 #[.agg #[.int .i64 P, .slice A n c]] w fun e w' => ∃ A' c', e = .returned (.slice A' (pw n) c') ∧ MkI w w' A' (pw n) c' (bladeL n 0) := by
  have hB0 : Below w.heap.size w (w.alloc (.cells #[.int .i64 P, .slice A n c] 26)) := (Below.refl _ w).alloc (Nat.le_refl _) _
  go_enter Tryz.func295, Tryz.ntmps295
  go_wp2_with (go_at_call 352; refine (blade_any P A n c 0 _ hn (pw_pos n)).mono ?_; rintro e w1 ⟨G, c1, rfl, hM1⟩)
  go_ret
  exact ⟨_, _, rfl, hM1.after hB0⟩
set_option maxHeartbeats 400000 in
theorem anyPair_takes : Takes 307 (fun _ _ => true) := by
  intro a b w h1 h2
  go_enter Tryz.func307, Tryz.ntmps307
  go_wp2
  go_ret
  exact ⟨rfl, rfl⟩
/-- The product of two multivectors. -/
def mulL (p : Int) (sq xs ys : List Int) : List Int := prodL p sq (fun _ _ => true) xs ys
/-- The product of several. -/
def timesL (p : Int) (sq : List Int) (n : Nat) (xss : List (List Int)) : List Int := xss.foldl (mulL p sq) (bladeL n 0)
set_option maxRecDepth 8000 in
set_option maxHeartbeats 1600000 in
theorem times_any (P : Int) (A : Option Addr) (n c : Nat) (sq : List Int) (X : Option Addr) (k cx : Nat) (xss : List (List Int)) (w : World) (hp : 2 ≤ P) (hp2 : P ≤ 13) (hn : n ≤ 6) (hk : k ≤ 1000)
    (ha : Rd w A n (ints sq)) (hs : NumsL P sq) (hx : RdII w X k xss) (hxs : ∀ xs ∈ xss, NumsL P xs ∧ xs.length = pw n) :
    Calls Tryz.prog 177 #[.agg #[.int .i64 P, .slice A n c], .slice X k cx] w fun e w' => ∃ A' c', e = .returned (.slice A' (pw n) c') ∧ MkI w w' A' (pw n) c' (timesL P sq n xss) := by
  have hxl := hx.len
  have Hx := Lib.hid hxl; clear hxl
  have hB0 : Below w.heap.size w (w.alloc (.cells #[.int .i64 P, .slice A n c] 26)) := (Below.refl _ w).alloc (Nat.le_refl _) _
  go_enter Tryz.func177, Tryz.ntmps177
  go_wp2_with (go_at_call 295; refine (one_any P A n c _ (by omega)).mono ?_; rintro e w1 ⟨G, c1, rfl, hM1⟩)
  have hk0 : Blk w1 w.heap.size 26 #[.int .i64 P, .slice A n c] := (Blk.new w _ _).below hM1.b (by simp)
  have hM := hM1.after hB0
  clear hM1 hB0
  go_loopw [5, 7, 12] (fun o _ i wr => ∃ (j : Nat) (G : Option Addr) (d : Nat), j ≤ k ∧ i = .int .i64 j ∧ o = .slice G (pw n) d ∧ MkI w wr G (pw n) d (timesL P sq n (xss.take j)) ∧ NumsL P (timesL P sq n (xss.take j)) ∧ Blk wr w.heap.size 26 #[.int .i64 P, .slice A n c]) (fun _ _ i _ => k - (intOf i).toNat)
  case atStart => exact ⟨0, _, _, by omega, rfl, rfl, by simpa [timesL] using hM, by simpa [timesL] using bladeL_nums hp n 0, hk0⟩
  case round =>
    obtain ⟨j, G, d, hj, rfl, rfl, hM2, hN2, hk2⟩ := hrel
    clear hM hk0
    have hL2 : (timesL P sq n (xss.take j)).length = pw n := by have := hM2.2.len; rwa [ints_length] at this
    by_cases hlt : j < k
    · obtain ⟨g, o, rfl, hxj, A', c', hcx, hr, _⟩ := (hx.below hM2.b).at_ hlt
      obtain ⟨hn1, hl1⟩ := hxs _ (List.getElem_mem hxj)
      rw [hl1] at hcx hr
      have hc1 := hk2.two
      obtain ⟨kc0, kc1⟩ := hc1
      have hcall := product_any 307 (fun _ _ => true) anyPair_takes (fun _ _ => rfl) P A n c sq G d _ A' c' _ wr hp hp2 hn (ha.below hM2.b) hs hM2.rd hN2 hr hn1
      have HC := Lib.hid hcall
      have HT : Hid (timesL P sq n (xss.take (j + 1)) = prodL P sq (fun _ _ => true) (timesL P sq n (xss.take j)) xss[j]) := Lib.hid (by unfold timesL; rw [List.take_succ_eq_append_getElem hxj, List.foldl_append]; rfl)
      have HN := Lib.hid (prodL_nums (p := P) sq (fun _ _ => true) (timesL P sq n (xss.take j)) xss[j] (by omega))
      have HB := Lib.hid hM2.b
      clear hcall hN2 hM2 hn1 hr hL2
      go_wp2_with (go_at_call 306; refine HC.out.mono ?_; rintro e w2 ⟨G2, d2, rfl, hM3⟩)
      have hk3 := hk2.below hM3.b hk2.lt
      go_roundw
      case rel => exact ⟨j + 1, G2, d2, by omega, by go_num, rfl, by rw [HT.out]; exact hM3.after HB.out, by rw [HT.out]; exact HN.out, hk3⟩
      case measure => simp [intOf]; omega
    · obtain rfl : j = k := by omega
      rw [List.take_of_length_le (by rw [Hx.out]; omega)] at hM2
      go_wp2
      go_ret
      exact ⟨_, _, rfl, hM2⟩
/-- A vector as a multivector: its first k places laid. -/
def vecTo (n : Nat) (v : List Int) (k : Nat) : List Int := (List.range k).foldl (fun o i => o.set (2 ^ i) (v.getD i 0)) (List.replicate (pw n) 0)
theorem vecTo_succ (n : Nat) (v : List Int) (k : Nat) : vecTo n v (k + 1) = (vecTo n v k).set (2 ^ k) (v.getD k 0) := by simp [vecTo, List.range_succ]
theorem vecTo_len (n : Nat) (v : List Int) (k : Nat) : (vecTo n v k).length = pw n := by
  induction k with
  | zero => simp [vecTo]
  | succ k ih => rw [vecTo_succ, List.length_set, ih]
theorem vecTo_nums {p : Int} (hp : 0 < p) (n : Nat) (v : List Int) (hv : NumsL p v) (k : Nat) : NumsL p (vecTo n v k) := by
  induction k with
  | zero => simpa [vecTo] using NumsL.replicate hp _
  | succ k ih => rw [vecTo_succ]; exact ih.set _ (hv.getD hp k)
theorem two_lt {n k : Nat} (h : k < n) : 2 ^ k < pw n := Nat.pow_lt_pow_right (by omega) h
set_option maxHeartbeats 800000 in
theorem vector_any (P : Int) (A : Option Addr) (n c : Nat) (X : Option Addr) (cx : Nat) (v : List Int) (w : World) (hn : n ≤ 10) (hx : Rd w X n (ints v)) :
    Calls Tryz.prog 154 #[.agg #[.int .i64 P, .slice A n c], .slice X n cx] w fun e w' => ∃ A' c', e = .returned (.slice A' (pw n) c') ∧ MkI w w' A' (pw n) c' (vecTo n v n) := by
  have hB0 : Below w.heap.size w (w.alloc (.cells #[.int .i64 P, .slice A n c] 26)) := (Below.refl _ w).alloc (Nat.le_refl _) _
  go_enter Tryz.func154, Tryz.ntmps154
  go_wp2_with (go_at_call 199; refine (nothing_any _ _ _ _ _ hn).mono ?_; rintro e w1 ⟨G, c1, rfl, hM1⟩)
  have hM := hM1.after hB0
  have hpos := pw_pos n
  rcases hM.2.form with ⟨_, h0⟩ | ⟨g, rfl, hg, _⟩
  · omega
  clear hM1 hB0 hg hpos
  go_loopw [6, 7, 12] (fun _ _ i wr => ∃ k : Nat, k ≤ n ∧ i = .int .i64 k ∧ MkI w wr (some ⟨g, 0, none⟩) (pw n) c1 (vecTo n v k)) (fun _ _ i _ => n - (intOf i).toNat)
  case atStart => exact ⟨0, by omega, rfl, by simpa [vecTo] using hM⟩
  case round =>
    obtain ⟨k, hk, rfl, hM2⟩ := hrel
    clear hM
    by_cases hlt : k < n
    · obtain ⟨gx, ox, rfl, hxk, hcx⟩ := (hx.below hM2.b).int hlt
      have hvn : v.getD k 0 = v[k] := by rw [List.getD_eq_getElem?_getD, List.getElem?_eq_getElem hxk]; rfl
      have h2 := two_lt hlt
      have hset := (hM2.set (2 ^ k) (.int .i64 v[k])).1
      rw [ints_set, ← hvn, ← vecTo_succ, hvn] at hset
      have hw : wrap64 (2 ^ k) = ((2 ^ k : Nat) : Int) := wrap_pw k (by omega)
      obtain ⟨q, hq⟩ : ∃ q : Nat, q = 2 ^ k := ⟨_, rfl⟩
      rw [← hq] at h2 hset hw
      obtain ⟨hoc, hof⟩ := mkI_at hM2 h2
      have HS := Lib.hid hset
      clear hq
      clear hvn hset hM2
      go_wp2
      go_roundw
      case rel => exact ⟨k + 1, by omega, by go_num, HS.out⟩
      case measure => simp [intOf]; omega
    · obtain rfl : k = n := by omega
      go_wp2
      go_ret
      exact ⟨_, _, rfl, hM2⟩
end Go.Proofs.YtggigolkncckoaaGreat
namespace Go.Proofs.YtggigolkncckoaaGreat
theorem xor_eq_iff (a k m : Nat) : a ^^^ k = m ↔ k = a ^^^ m := by
  constructor
  · rintro rfl; rw [← Nat.xor_assoc, Nat.xor_self, Nat.zero_xor]
  · rintro rfl; rw [← Nat.xor_assoc, Nat.xor_self, Nat.zero_xor]
/-- What row a adds to place m. -/
def term (p : Int) (sq : List Int) (t : Nat → Nat → Bool) (x y : List Int) (m a : Nat) : Int :=
  if t a (a ^^^ m) = true then x.getD a 0 * y.getD (a ^^^ m) 0 * fac p sq a (a ^^^ m) else 0
theorem addRow_getD (p : Int) (sq : List Int) (t : Nat → Nat → Bool) (x y : List Int) (a : Nat) (out : List Int) (m : Nat) (hm : m < out.length) (h0 : out.getD m 0 % p = out.getD m 0) :
    ∀ k, (addRow p sq t x y a out k).getD m 0 = if a ^^^ m < k then (out.getD m 0 + term p sq t x y m a) % p else out.getD m 0 := by
  intro k
  induction k with
  | zero => rw [if_neg (by omega)]; simp [addRow]
  | succ k ih =>
    rw [addRow_succ]
    have hl : (addRow p sq t x y a out k).length = out.length := addRow_len _ _ _ _ _ _ _ _
    unfold addPair
    by_cases hk : a ^^^ k = m
    · have hk' := (xor_eq_iff a k m).1 hk
      have h1 : ¬ a ^^^ m < k := by omega
      have h2 : a ^^^ m < k + 1 := by omega
      rw [if_neg h1] at ih
      rw [if_pos (c := a ^^^ m < k + 1) h2]
      unfold term
      rw [← hk']
      by_cases hc : x.getD a 0 ≠ 0 ∧ y.getD k 0 ≠ 0 ∧ t a k = true
      · rw [if_pos hc, if_pos hc.2.2, getD_set, if_pos ⟨hk, by rw [hl, hk]; exact hm⟩, hk, ih]
      · rw [if_neg hc, ih]
        by_cases ht : t a k = true
        · rw [if_pos ht]
          have : x.getD a 0 * y.getD k 0 = 0 := by
            by_cases h1 : x.getD a 0 = 0
            · rw [h1, Int.zero_mul]
            · by_cases h2 : y.getD k 0 = 0
              · rw [h2, Int.mul_zero]
              · exact absurd ⟨h1, h2, ht⟩ hc
          rw [this, Int.zero_mul, Int.add_zero, h0]
        · rw [if_neg ht, Int.add_zero, h0]
    · have hk' : k ≠ a ^^^ m := fun e => hk ((xor_eq_iff a k m).2 e)
      have e : (if x.getD a 0 ≠ 0 ∧ y.getD k 0 ≠ 0 ∧ t a k = true then (addRow p sq t x y a out k).set (a ^^^ k) (((addRow p sq t x y a out k).getD (a ^^^ k) 0 + x.getD a 0 * y.getD k 0 * fac p sq a k) % p) else addRow p sq t x y a out k).getD m 0 = (addRow p sq t x y a out k).getD m 0 := by
        split
        · rw [getD_set, if_neg (fun h => hk h.1)]
        · rfl
      rw [e, ih]
      by_cases h1 : a ^^^ m < k
      · rw [if_pos h1, if_pos (by omega)]
      · rw [if_neg h1, if_neg (by omega)]
theorem addRows_getD (p : Int) (sq : List Int) (t : Nat → Nat → Bool) (x y : List Int) (n m : Nat) (hy : y.length = pw n) (hm : m < pw n) :
    ∀ k, k ≤ pw n → (addRows p sq t x y (List.replicate (pw n) 0) k).getD m 0 = sumTo k (term p sq t x y m) % p := by
  intro k
  induction k with
  | zero =>
    intro _
    rw [show addRows p sq t x y (List.replicate (pw n) 0) 0 = List.replicate (pw n) 0 from rfl, getD_of_lt 0 (by simpa using hm)]
    simp [sumTo]
  | succ k ih =>
    intro hk
    have ih := ih (by omega)
    have hl : (addRows p sq t x y (List.replicate (pw n) 0) k).length = pw n := by rw [addRows_len]; simp
    rw [addRows_succ, addRow_getD p sq t x y k _ m (by rw [hl]; exact hm) (by rw [ih, Int.emod_emod_of_dvd _ (Int.dvd_refl p)]), if_pos (by rw [hy]; exact xor_lt (by omega) hm), ih]
    exact sumTo_step p k _
theorem prodL_getD (p : Int) (sq : List Int) (t : Nat → Nat → Bool) (x y : List Int) (n m : Nat) (hx : x.length = pw n) (hy : y.length = pw n) (hm : m < pw n) :
    (prodL p sq t x y).getD m 0 = sumTo (pw n) (term p sq t x y m) % p := by
  unfold prodL
  rw [hx]
  exact addRows_getD p sq t x y n m hy hm _ (Nat.le_refl _)
theorem sumTo_zero {n : Nat} {f : Nat → Int} (h : ∀ i, i < n → f i = 0) : sumTo n f = 0 := by
  induction n with
  | zero => rfl
  | succ n ih => rw [sumTo_succ, ih (fun i hi => h i (by omega)), h n (by omega)]; rfl
theorem sumTo_one {n : Nat} {f : Nat → Int} (k : Nat) (hk : k < n) (h : ∀ i, i < n → i ≠ k → f i = 0) : sumTo n f = f k := by
  induction n with
  | zero => omega
  | succ n ih =>
    rw [sumTo_succ]
    by_cases e : k = n
    · subst e; rw [sumTo_zero (fun i hi => h i (by omega) (by omega)), Int.zero_add]
    · rw [ih (by omega) (fun i hi => h i (by omega)), h n (by omega) (by omega), Int.add_zero]
theorem sumTo_add (n : Nat) (f g : Nat → Int) : sumTo n (fun i => f i + g i) = sumTo n f + sumTo n g := by
  induction n with
  | zero => rfl
  | succ n ih => rw [sumTo_succ, sumTo_succ, sumTo_succ, ih]; omega
theorem sumTo_mul (n : Nat) (f : Nat → Int) (c : Int) : sumTo n (fun i => c * f i) = c * sumTo n f := by
  induction n with
  | zero => simp [sumTo]
  | succ n ih => rw [sumTo_succ, sumTo_succ, ih, Int.mul_add]
theorem sumTo_comm (n m : Nat) (f : Nat → Nat → Int) : sumTo n (fun i => sumTo m (f i)) = sumTo m (fun j => sumTo n (fun i => f i j)) := by
  induction n with
  | zero => exact (sumTo_zero (fun _ _ => rfl)).symm
  | succ n ih => rw [sumTo_succ, ih, ← sumTo_add]; rfl
theorem pc_zero : pc 0 = 0 := by simp [pc]
theorem bit_zero (i : Nat) : bit 0 i = 0 := by simp [bit]
theorem fac_zero_left (p : Int) (sq : List Int) (b : Nat) : fac p sq 0 b = 1 := by
  have h1 : ∀ i, swaps 0 b i = 0 := by
    intro i
    induction i with
    | zero => rfl
    | succ i ih => simp [swaps, ih, pc_zero]
  have h2 : ∀ i, common p sq 0 b i = 1 := by
    intro i
    induction i with
    | zero => rfl
    | succ i ih => simp [common, ih, bit_zero]
  unfold fac
  rw [h1, h2]; rfl
theorem bladeL_getD (n m i : Nat) (hi : i < pw n) : (bladeL n m).getD i 0 = if m = i then 1 else 0 := by
  unfold bladeL
  rw [getD_set]
  by_cases h : m = i
  · subst h; rw [if_pos ⟨rfl, by simpa using hi⟩, if_pos rfl]
  · rw [if_neg (fun hh => h hh.1), if_neg h, getD_of_lt 0 (by simpa using hi)]; simp
/-- 1 times a multivector. -/
theorem one_mul (p : Int) (sq : List Int) (n : Nat) (xs : List Int) (hx : xs.length = pw n) (hn : NumsL p xs) : mulL p sq (bladeL n 0) xs = xs := by
  apply list_ext_getD 0 (by unfold mulL; rw [prodL_len, bladeL_len, hx])
  intro m hm
  have hm : m < pw n := by unfold mulL at hm; rwa [prodL_len, bladeL_len] at hm
  unfold mulL
  rw [prodL_getD p sq _ _ xs n m (bladeL_len n 0) hx hm, sumTo_one 0 (pw_pos n) (fun i hi h0 => by unfold term; rw [if_pos rfl, bladeL_getD n 0 i hi, if_neg (fun e => h0 e.symm), Int.zero_mul, Int.zero_mul])]
  unfold term
  rw [if_pos rfl, bladeL_getD n 0 0 (pw_pos n), if_pos rfl, Nat.zero_xor, fac_zero_left, Int.one_mul, Int.mul_one]
  obtain ⟨h1, h2⟩ := hn _ (getD_mem 0 (by rw [hx]; exact hm))
  exact Int.emod_eq_of_lt h1 h2
theorem mulL_len (p : Int) (sq xs ys : List Int) : (mulL p sq xs ys).length = xs.length := prodL_len _ _ _ _ _
theorem mulL_nums {p : Int} (hp : 0 < p) (sq xs ys : List Int) : NumsL p (mulL p sq xs ys) := prodL_nums sq _ _ _ hp
theorem timesL_two (p : Int) (sq : List Int) (n : Nat) (xs ys : List Int) (hx : xs.length = pw n) (hn : NumsL p xs) : timesL p sq n [xs, ys] = mulL p sq xs ys := by
  show mulL p sq (mulL p sq (bladeL n 0) xs) ys = _
  rw [one_mul p sq n xs hx hn]
theorem timesL_three (p : Int) (sq : List Int) (n : Nat) (xs ys zs : List Int) (hx : xs.length = pw n) (hn : NumsL p xs) : timesL p sq n [xs, ys, zs] = mulL p sq (mulL p sq xs ys) zs := by
  show mulL p sq (mulL p sq (mulL p sq (bladeL n 0) xs) ys) zs = _
  rw [one_mul p sq n xs hx hn]
end Go.Proofs.YtggigolkncckoaaGreat
namespace Go.Proofs.YtggigolkncckoaaGreat
open Go.Shelf
def laysSort_ren : Go.Shelf.Ren := ⟨fun | 5 => 284 | 8 => 350 | 7 => 349 | 19 => 373 | 20 => 374 | 10 => 364 | 11 => 365 | 12 => 366 | 13 => 367 | 14 => 368 | 15 => 369 | 16 => 370 | 17 => 371 | 18 => 372 | 30 => 376 | 31 => 377 | 32 => 378 | 33 => 379 | 34 => 380 | 35 => 381 | 40 => 382 | n => n, fun | 23 => 24 | 25 => 2 | 3 => 3 | 32 => 148 | 22 => 24 | 0 => 0 | 44 => 173 | 46 => 51 | 4 => 4 | 36 => 179 | 35 => 178 | 41 => 159 | 5 => 5 | 9 => 9 | 53 => 186 | 57 => 190 | 63 => 192 | 64 => 193 | n => n, fun | n => n⟩
theorem laysSort : Go.Proofs.SlLaysM.n5 Tryz.prog laysSort_ren := {
  mixed := by kernel_rfl
  f5 := ⟨Tryz.f284.name, by decide, Tryz.func284.trans (congrArg some (by kernel_rfl))⟩
  f7 := ⟨Tryz.f349.name, by decide, Tryz.func349.trans (congrArg some (by kernel_rfl))⟩
  f8 := Tryz.func350.trans (congrArg some (by kernel_rfl))
  f10 := ⟨Tryz.f364.name, by decide, Tryz.func364.trans (congrArg some (by kernel_rfl))⟩
  f11 := ⟨Tryz.f365.name, by decide, Tryz.func365.trans (congrArg some (by kernel_rfl))⟩
  f12 := ⟨Tryz.f366.name, by decide, Tryz.func366.trans (congrArg some (by kernel_rfl))⟩
  f13 := ⟨Tryz.f367.name, by decide, Tryz.func367.trans (congrArg some (by kernel_rfl))⟩
  f14 := ⟨Tryz.f368.name, by decide, Tryz.func368.trans (congrArg some (by kernel_rfl))⟩
  f15 := ⟨Tryz.f369.name, by decide, Tryz.func369.trans (congrArg some (by kernel_rfl))⟩
  f16 := ⟨Tryz.f370.name, by decide, Tryz.func370.trans (congrArg some (by kernel_rfl))⟩
  f17 := ⟨Tryz.f371.name, by decide, Tryz.func371.trans (congrArg some (by kernel_rfl))⟩
  f18 := ⟨Tryz.f372.name, by decide, Tryz.func372.trans (congrArg some (by kernel_rfl))⟩
  f19 := Tryz.func373.trans (congrArg some (by kernel_rfl))
  f20 := Tryz.func374.trans (congrArg some (by kernel_rfl))
  f30 := ⟨Tryz.f376.name, by decide, Tryz.func376.trans (congrArg some (by kernel_rfl))⟩
  f31 := Tryz.func377.trans (congrArg some (by kernel_rfl))
  f32 := Tryz.func378.trans (congrArg some (by kernel_rfl))
  f33 := ⟨Tryz.f379.name, by decide, Tryz.func379.trans (congrArg some (by kernel_rfl))⟩
  f34 := ⟨Tryz.f380.name, by decide, Tryz.func380.trans (congrArg some (by kernel_rfl))⟩
  f35 := ⟨Tryz.f381.name, by decide, Tryz.func381.trans (congrArg some (by kernel_rfl))⟩
  f40 := ⟨Tryz.f382.name, by decide, Tryz.func382.trans (congrArg some (by kernel_rfl))⟩
  t0 := Tryz.underlying0
  a0 := Tryz.isAgg0
  z0 := Tryz.sizeOf0
  v0 := Tryz.zeroValue0
  t3 := Tryz.underlying3
  a3 := Tryz.isAgg3
  z3 := Tryz.sizeOf3
  v3 := Tryz.zeroValue3
  t4 := Tryz.underlying4
  a4 := Tryz.isAgg4
  z4 := Tryz.sizeOf4
  v4 := Tryz.zeroValue4
  t5 := Tryz.underlying5
  a5 := Tryz.isAgg5
  z5 := Tryz.sizeOf5
  v5 := Tryz.zeroValue5
  t9 := Tryz.underlying9
  a9 := Tryz.isAgg9
  z9 := Tryz.sizeOf9
  v9 := Tryz.zeroValue9
  t22 := Tryz.underlying24
  a22 := Tryz.isAgg24
  z22 := Tryz.sizeOf24
  v22 := Tryz.zeroValue24
  t23 := Tryz.underlying24
  a23 := Tryz.isAgg24
  z23 := Tryz.sizeOf24
  v23 := Tryz.zeroValue24
  t25 := Tryz.underlying2
  a25 := Tryz.isAgg2
  z25 := Tryz.sizeOf2
  v25 := Tryz.zeroValue2
  t32 := Tryz.underlying148
  a32 := Tryz.isAgg148
  z32 := Tryz.sizeOf148
  v32 := Tryz.zeroValue148
  t35 := Tryz.underlying178
  a35 := Tryz.isAgg178
  z35 := Tryz.sizeOf178
  v35 := Tryz.zeroValue178
  t36 := Tryz.underlying179
  a36 := Tryz.isAgg179
  z36 := Tryz.sizeOf179
  v36 := Tryz.zeroValue179
  t41 := Tryz.underlying159
  a41 := Tryz.isAgg159
  z41 := Tryz.sizeOf159
  v41 := Tryz.zeroValue159
  t44 := Tryz.underlying173
  a44 := Tryz.isAgg173
  z44 := Tryz.sizeOf173
  v44 := Tryz.zeroValue173
  t46 := Tryz.underlying51
  a46 := Tryz.isAgg51
  z46 := Tryz.sizeOf51
  v46 := Tryz.zeroValue51
  t53 := Tryz.underlying186
  a53 := Tryz.isAgg186
  z53 := Tryz.sizeOf186
  v53 := Tryz.zeroValue186
  t57 := Tryz.underlying190
  a57 := Tryz.isAgg190
  z57 := Tryz.sizeOf190
  v57 := Tryz.zeroValue190
  t63 := Tryz.underlying192
  a63 := Tryz.isAgg192
  z63 := Tryz.sizeOf192
  v63 := Tryz.zeroValue192
  t64 := Tryz.underlying193
  a64 := Tryz.isAgg193
  z64 := Tryz.sizeOf193
  v64 := Tryz.zeroValue193 }
open Go.Sort Go.RowKit in
theorem slices_Sort_int (blk off cap : Nat) (zs : List Int) (w : World) (hH : Holds (Value.int .i64) w blk off zs.toArray) (hblk : blk < w.heap.size) (hsz : zs.length < 4611686018427387904) :
    Calls Tryz.prog 284 #[.slice (some ⟨blk, off, none⟩) zs.length cap] w fun e w' =>
      e = .returned (.tuple #[]) ∧ ∃ n os, w' = grow (putRow (Value.int .i64) (Sort.ahead w n) blk off (zs.mergeSort fun x y => decide (x ≤ y)).toArray) os := AnyM.slices_Sort_int laysSort blk off cap zs w hH hblk hsz
def laysCompact_ren : Go.Shelf.Ren := ⟨fun | 43 => 285 | n => n, fun | 22 => 24 | 23 => 2 | 3 => 3 | 4 => 4 | 0 => 0 | n => n, fun | n => n⟩
theorem laysCompact : Go.Proofs.SlLaysE.n43 Tryz.prog laysCompact_ren := {
  mixed := by kernel_rfl
  f43 := ⟨Tryz.f285.name, by decide, Tryz.func285.trans (congrArg some (by kernel_rfl))⟩
  t0 := Tryz.underlying0
  a0 := Tryz.isAgg0
  z0 := Tryz.sizeOf0
  v0 := Tryz.zeroValue0
  t3 := Tryz.underlying3
  a3 := Tryz.isAgg3
  z3 := Tryz.sizeOf3
  v3 := Tryz.zeroValue3
  t4 := Tryz.underlying4
  a4 := Tryz.isAgg4
  z4 := Tryz.sizeOf4
  v4 := Tryz.zeroValue4
  t22 := Tryz.underlying24
  a22 := Tryz.isAgg24
  z22 := Tryz.sizeOf24
  v22 := Tryz.zeroValue24
  a23 := Tryz.isAgg2
  z23 := Tryz.sizeOf2 }
open Go.Sort Go.RowKit
/-- Sorted. -/
def sortL (zs : List Int) : List Int := zs.mergeSort fun x y => decide (x ≤ y)
theorem sortL_len (zs : List Int) : (sortL zs).length = zs.length := List.length_mergeSort zs
theorem own_sorted {w0 wr : World} {g n c q : Nat} {os : Array Obj} {zs ts : List Int} (h : MkI w0 wr (some ⟨g, 0, none⟩) n c zs) (hl : ts.length = zs.length) :
    MkI w0 (grow (putRow (Value.int .i64) (Sort.ahead wr q) g 0 ts.toArray) os) (some ⟨g, 0, none⟩) n c ts ∧ wr.grownBy (grow (putRow (Value.int .i64) (Sort.ahead wr q) g 0 ts.toArray) os) (some g) := by
  have hn : zs.length = n := by have := h.2.len; rwa [ints_length] at this
  subst hn
  have hg := grownBy_sortedI (w := wr) (g := g) (n := q) (os := os) ts.toArray
  rcases h.2.2 with ⟨he, _⟩ | ⟨g', cap, cur, he, hB, hc, h1, h2, h3, ht⟩
  · cases he
  · cases he
    exact ⟨⟨h.1.grown hg h.1.size (fun k hk => by injection hk with hk; subst hk; exact hB), ownsRow_sortedI hl hB hc h1 h2 h3⟩, hg⟩
theorem holds_own {w0 wr : World} {g n c : Nat} {zs : List Int} (h : MkI w0 wr (some ⟨g, 0, none⟩) n c zs) : Holds (Value.int .i64) wr g 0 zs.toArray ∧ g < wr.heap.size ∧ n ≤ c := by
  have hn : zs.length = n := by have := h.2.len; rwa [ints_length] at this
  subst hn
  rcases h.2.2 with ⟨he, _⟩ | ⟨g', cap, cur, he, hB, hc, h1, h2, h3, ht⟩
  · cases he
  · cases he
    exact ⟨holds_of_blockI hc (by simpa [ints] using ht), (Array.getElem?_eq_some_iff.1 hc).1, h1⟩
theorem sort_own (w0 wr : World) (g n c : Nat) (zs : List Int) (h : MkI w0 wr (some ⟨g, 0, none⟩) n c zs) (hn : n ≤ 1099511627776) :
    Calls Tryz.prog 284 #[.slice (some ⟨g, 0, none⟩) n c] wr fun e w' => e = .returned (.tuple #[]) ∧ MkI w0 w' (some ⟨g, 0, none⟩) n c (sortL zs) ∧ wr.grownBy w' (some g) := by
  have hl : zs.length = n := by have := h.2.len; rwa [ints_length] at this
  obtain ⟨h1, h2, h3⟩ := holds_own h
  have hc := slices_Sort_int g 0 c zs wr h1 h2 (by omega)
  rw [hl] at hc
  refine hc.mono ?_
  rintro e w' ⟨rfl, q, os, rfl⟩
  obtain ⟨h4, h5⟩ := own_sorted (q := q) (os := os) h (sortL_len zs)
  exact ⟨rfl, h4, h5⟩
theorem compact_own (w0 wr : World) (g n c : Nat) (zs : List Int) (h : MkI w0 wr (some ⟨g, 0, none⟩) n c zs) (hn : n ≤ 1099511627776) :
    Calls Tryz.prog 285 #[.slice (some ⟨g, 0, none⟩) n c] wr fun e w' => e = .returned (.slice (some ⟨g, 0, none⟩) (Lib.compact zs).length c) ∧ MkI w0 w' (some ⟨g, 0, none⟩) (Lib.compact zs).length c (Lib.compact zs) := by
  have hl : zs.length = n := by have := h.2.len; rwa [ints_length] at this
  obtain ⟨h1, h2, h3⟩ := holds_own h
  have hc := AnyE.slices_Compact laysCompact (Value.int .i64) (fun _ => rfl) (EqlAt.intD _ _ .i64) (NeqAt.intD _ _ .i64) 0 Tryz.zeroValue2 g 0 c zs.toArray wr h1 (by simp; omega) (by simp; omega)
  have hs : zs.toArray.size = n := by simpa using hl
  have hle : (Lib.compactUpTo zs.toArray n).length ≤ n := by
    unfold Lib.compactUpTo
    rw [List.length_map]
    exact Nat.le_trans (List.length_filter_le _ _) (by simp)
  have he : Lib.compact zs = Lib.compactUpTo zs.toArray n := by unfold Lib.compact; rw [hl]
  rw [hs] at hc
  rw [he]
  refine hc.mono ?_
  rintro e w' ⟨rfl, q, rfl⟩
  obtain ⟨h4, h5⟩ := own_sorted (ts := Lib.compactUpTo zs.toArray n ++ List.replicate (n - (Lib.compactUpTo zs.toArray n).length) 0) (q := q) (os := #[]) h (by simp; omega)
  rw [grow_empty] at h4
  refine ⟨rfl, h4.1, ?_⟩
  have := h4.2.cut hle
  have e2 : (ints (Lib.compactUpTo zs.toArray n ++ List.replicate (n - (Lib.compactUpTo zs.toArray n).length) 0)).take (Lib.compactUpTo zs.toArray n).length = ints (Lib.compactUpTo zs.toArray n) := by
    rw [← ints_append, List.take_left' (by rw [ints_length])]
  rwa [e2] at this
end Go.Proofs.YtggigolkncckoaaGreat
namespace Go.Proofs.YtggigolkncckoaaGreat
open Go.RowKit
theorem sorted_ext {xs ys : List Int} (hx : xs.Pairwise (· < ·)) (hy : ys.Pairwise (· < ·)) (h : ∀ a, a ∈ xs ↔ a ∈ ys) : xs = ys := by
  have nx : xs.Nodup := hx.imp fun h => by omega
  have ny : ys.Nodup := hy.imp fun h => by omega
  exact List.Perm.eq_of_pairwise (le := fun a b : Int => a < b) (fun a b _ _ h1 h2 => by omega) hx hy ((List.perm_ext_iff_of_nodup nx ny).2 h)
theorem sortL_pairwise (zs : List Int) : (sortL zs).Pairwise (· ≤ ·) := by
  have := List.pairwise_mergeSort (le := fun x y : Int => decide (x ≤ y)) (fun a b c h1 h2 => by simp at *; omega) (fun a b => by simp; omega) zs
  exact this.imp fun h => by simpa using h
theorem sortL_mem (zs : List Int) (a : Int) : a ∈ sortL zs ↔ a ∈ zs := List.mem_mergeSort
theorem arr_get (zs : List Int) (i : Nat) : (zs.toArray[i]! : Int) = zs.getD i 0 := by simp [List.getD]
theorem le_of_sorted {zs : List Int} (h : zs.Pairwise (· ≤ ·)) {i j : Nat} (hij : i ≤ j) (hj : j < zs.length) : zs.getD i 0 ≤ zs.getD j 0 := by
  rw [getD_of_lt 0 (by omega), getD_of_lt 0 hj]
  by_cases e : i = j
  · subst e; exact Int.le_refl _
  · exact List.pairwise_iff_getElem.1 h i j (by omega) hj (by omega)
theorem compact_lt {zs : List Int} (h : zs.Pairwise (· ≤ ·)) : (Lib.compact zs).Pairwise (· < ·) := by
  unfold Lib.compact Lib.compactUpTo
  rw [List.pairwise_map]
  refine List.Pairwise.imp_of_mem (R := (· < ·)) ?_ (List.pairwise_lt_range.filter _)
  intro a b ha hb hab
  have hb1 := List.mem_filter.1 hb
  have hbl : b < zs.length := by simpa using hb1.1
  have hk := hb1.2
  simp only [Lib.keeps, arr_get, ne_eq, decide_eq_true_eq] at hk
  rw [arr_get, arr_get]
  have h1 := le_of_sorted h (show a ≤ b - 1 by omega) (by omega)
  have h2 := le_of_sorted h (show b - 1 ≤ b by omega) hbl
  rcases hk with hk | hk
  · omega
  · have : zs.getD b 0 ≠ zs.getD (b - 1) 0 := by simpa using hk
    omega
theorem compact_mem {zs : List Int} (a : Int) : a ∈ Lib.compact zs ↔ a ∈ zs := by
  unfold Lib.compact Lib.compactUpTo
  constructor
  · intro h
    obtain ⟨i, hi, rfl⟩ := List.mem_map.1 h
    have : i < zs.length := by have := (List.mem_filter.1 hi).1; simpa using this
    rw [arr_get]
    exact getD_mem 0 this
  · intro h
    obtain ⟨j, hj, e⟩ := List.getElem_of_mem h
    have key : ∀ j, j < zs.length → zs.getD j 0 = a → ∃ i, i < zs.length ∧ zs.getD i 0 = a ∧ (i = 0 ∨ zs.getD i 0 ≠ zs.getD (i - 1) 0) := by
      intro j
      induction j with
      | zero => intro h1 h2; exact ⟨0, h1, h2, .inl rfl⟩
      | succ j ih =>
        intro h1 h2
        by_cases hp : zs.getD j 0 = a
        · exact ih (by omega) hp
        · exact ⟨j + 1, h1, h2, .inr (by rw [h2]; exact fun e => hp (by simpa using e.symm))⟩
    obtain ⟨i, hi, he, hk⟩ := key j hj (by rw [getD_of_lt 0 hj]; exact e)
    refine List.mem_map.2 ⟨i, List.mem_filter.2 ⟨by simpa using hi, ?_⟩, by rw [arr_get]; exact he⟩
    simp only [Lib.keeps, arr_get]
    exact decide_eq_true hk
/-- The grades of the first k places with numbers other than 0, one after another. -/
def colL (xs : List Int) (k : Nat) : List Int := ((List.range k).filter fun i => xs.getD i 0 != 0).map fun i => ((pc i : Nat) : Int)
theorem colL_succ (xs : List Int) (k : Nat) : colL xs (k + 1) = if xs.getD k 0 != 0 then colL xs k ++ [((pc k : Nat) : Int)] else colL xs k := by
  unfold colL
  rw [List.range_succ, List.filter_append, List.map_append, List.filter_cons, List.filter_nil]
  split
  · rfl
  · rw [List.map_nil, List.append_nil]
theorem colL_le (xs : List Int) (k : Nat) : (colL xs k).length ≤ k := by
  unfold colL
  rw [List.length_map]
  exact Nat.le_trans (List.length_filter_le _ _) (by simp)
/-- Has grade k a number other than 0? -/
def hasG (xs : List Int) (k : Nat) : Bool := (List.range xs.length).any fun i => xs.getD i 0 != 0 && pc i == k
/-- The grades of a multivector. -/
def gradesL (xs : List Int) : List Int := ((List.range 7).filter (hasG xs)).map fun k : Nat => (k : Int)
theorem gradesL_len (xs : List Int) : (gradesL xs).length ≤ 7 := by
  unfold gradesL
  rw [List.length_map]
  exact Nat.le_trans (List.length_filter_le _ _) (by simp)
theorem hasG_iff (xs : List Int) (k : Nat) : hasG xs k = true ↔ ∃ i, i < xs.length ∧ xs.getD i 0 ≠ 0 ∧ pc i = k := by
  unfold hasG
  rw [List.any_eq_true]
  constructor
  · rintro ⟨i, hi, h⟩
    simp only [Bool.and_eq_true, bne_iff_ne, ne_eq, beq_iff_eq] at h
    exact ⟨i, by simpa using hi, h.1, h.2⟩
  · rintro ⟨i, hi, h1, h2⟩
    exact ⟨i, by simpa using hi, by simp only [Bool.and_eq_true, bne_iff_ne, ne_eq, beq_iff_eq]; exact ⟨h1, h2⟩⟩
theorem gradesL_mem (xs : List Int) (hl : xs.length ≤ 64) (a : Int) : a ∈ gradesL xs ↔ ∃ i, i < xs.length ∧ xs.getD i 0 ≠ 0 ∧ a = pc i := by
  unfold gradesL
  rw [List.mem_map]
  constructor
  · rintro ⟨k, hk, rfl⟩
    obtain ⟨_, hk⟩ := List.mem_filter.1 hk
    obtain ⟨i, h1, h2, h3⟩ := (hasG_iff xs k).1 hk
    exact ⟨i, h1, h2, by rw [h3]⟩
  · rintro ⟨i, h1, h2, rfl⟩
    exact ⟨pc i, List.mem_filter.2 ⟨by have := pc_le 6 i (by omega); simp; omega, (hasG_iff xs _).2 ⟨i, h1, h2, rfl⟩⟩, rfl⟩
theorem gradesL_lt (xs : List Int) : (gradesL xs).Pairwise (· < ·) := by
  unfold gradesL
  rw [List.pairwise_map]
  exact (List.pairwise_lt_range.filter _).imp fun h => by omega
theorem gradesL_eq (xs : List Int) (hl : xs.length ≤ 64) : Lib.compact (sortL (colL xs xs.length)) = gradesL xs := by
  refine sorted_ext (compact_lt (sortL_pairwise _)) (gradesL_lt xs) fun a => ?_
  rw [compact_mem, sortL_mem, gradesL_mem xs hl]
  unfold colL
  rw [List.mem_map]
  constructor
  · rintro ⟨i, hi, rfl⟩
    obtain ⟨h1, h2⟩ := List.mem_filter.1 hi
    exact ⟨i, by simpa using h1, by simpa using h2, rfl⟩
  · rintro ⟨i, h1, h2, rfl⟩
    exact ⟨i, List.mem_filter.2 ⟨by simpa using h1, by simpa using h2⟩, rfl⟩
set_option maxHeartbeats 800000 in
theorem gradesOf_any (X : Option Addr) (m cx : Nat) (xs : List Int) (w : World) (hm : m ≤ 64) (hx : Rd w X m (ints xs)) :
    Calls Tryz.prog 136 #[.slice X m cx] w fun e w' => ∃ A' c', e = .returned (.slice A' (gradesL xs).length c') ∧ MkI w w' A' (gradesL xs).length c' (gradesL xs) := by
  have hxl : xs.length = m := by have := hx.1; rwa [ints_length] at this
  have hM0 := Mk.lit (E := 2) (Below.refl w.heap.size w) #[] (by simp)
  have HG : Hid (Lib.compact (sortL (colL xs m)) = gradesL xs) := Lib.hid (by rw [← hxl]; exact gradesL_eq xs (by omega))
  clear hxl
  go_enter Tryz.func136, Tryz.ntmps136
  go_wp2
  go_loopw [3, 4, 5, 9] (fun o _ _ i wr => ∃ (k g c' : Nat), k ≤ m ∧ i = .int .i64 k ∧ o = .slice (some ⟨g, 0, none⟩) (colL xs k).length c' ∧ MkI w wr (some ⟨g, 0, none⟩) (colL xs k).length c' (colL xs k)) (fun _ _ _ i _ => m - (intOf i).toNat)
  case atStart => exact ⟨0, _, _, by omega, rfl, rfl, by simpa [MkI, ints, colL] using hM0⟩
  case round =>
    obtain ⟨k, g, c', hk, rfl, rfl, hM⟩ := hrel
    clear hM0
    by_cases hlt : k < m
    · obtain ⟨g1, o1, rfl, hxk, hcx⟩ := (hx.below hM.b).int hlt
      have hs := colL_succ xs k
      rw [getD_of_lt 0 hxk] at hs
      have HS := Lib.hid hs
      have HM := Lib.hid hM
      have hle := colL_le xs k
      obtain ⟨l, hl⟩ : ∃ l, l = (colL xs k).length := ⟨_, rfl⟩
      rw [← hl] at hle HM ⊢
      have HL := Lib.hid hl
      clear hs hM hx hl
      cases h0 : (xs[k] != 0)
      · have H0 := Lib.hid h0
        go_wp2
        go_roundw
        case rel =>
          have e : colL xs (k + 1) = colL xs k := by rw [HS.out, H0.out]; rfl
          exact ⟨k + 1, g, c', by omega, by go_num, by rw [e, ← HL.out], by rw [e, ← HL.out]; exact HM.out⟩
        case measure => simp [intOf]; omega
      · have H0 := Lib.hid h0
        go_wp2_with (first
          | (go_at_call 211; refine (gradeOf_any k _ (by omega)).mono ?_; rintro e w' ⟨rfl, rfl⟩)
          | (at_builtin; refine wpList_app1 w _ 24 2 _ _ Tryz.underlying24 info_i rfl (by omega) rfl _ _ rfl (some ⟨g, 0, none⟩) l c' _ _ HM.out (by omega) rfl rfl rfl ?_; intro A2 c2 w2 hM2 _ hg2))
        obtain ⟨g2, rfl, _⟩ := hg2
        go_roundw
        case rel =>
          have e : colL xs (k + 1) = colL xs k ++ [((pc k : Nat) : Int)] := by rw [HS.out, H0.out]; rfl
          have el : (colL xs (k + 1)).length = l + 1 := by rw [e, List.length_append, HL.out]; rfl
          exact ⟨k + 1, g2, c2, by omega, by go_num, by rw [el], by rw [el, e]; simpa [MkI, ints] using hM2⟩
        case measure => simp [intOf]; omega
    · obtain rfl : k = m := by omega
      have hle := colL_le xs k
      go_wp2_with (first
        | (go_at_call 284; refine (sort_own _ _ _ _ _ _ hM (by omega)).mono ?_; rintro e w2 ⟨rfl, hM2, -⟩)
        | (go_at_call 285; refine (compact_own _ _ _ _ _ _ hM2 (by omega)).mono ?_; rintro e w3 ⟨rfl, hM3⟩))
      rw [HG.out] at hM3 ⊢
      go_ret
      exact ⟨_, _, rfl, hM3⟩
end Go.Proofs.YtggigolkncckoaaGreat
namespace Go.Proofs.YtggigolkncckoaaGreat
open Go.RowKit
theorem take_succ_eq (xs ys : List Int) (k : Nat) (hx : k < xs.length) (hy : k < ys.length) (h : xs.take k = ys.take k) (he : xs[k] = ys[k]) :
    xs.take (k + 1) = ys.take (k + 1) := by
  rw [List.take_succ_eq_append_getElem hx, List.take_succ_eq_append_getElem hy, h, he]
theorem ne_of_get (xs ys : List Int) (k : Nat) (hx : k < xs.length) (hy : k < ys.length) (he : (xs[k] != ys[k]) = true) : decide (xs = ys) = false := by
  rw [decide_eq_false_iff_not]
  rintro rfl
  simp at he
end Go.Proofs.YtggigolkncckoaaGreat
namespace Go.Proofs.YtggigolkncckoaaGreat
open Go.RowKit
/-- A function of a number that tells whether p holds; w: what it needs of the world. -/
def TellsI (f : FuncId) (cap : Array Value) (S : World → Prop) (p : Int → Bool) : Prop :=
  ∀ (w : World) (x : Int), S w → 0 ≤ x → x ≤ 1000 → Calls Tryz.prog f (#[.int .i64 x] ++ cap) w fun e w' => e = .returned (.bool (p x)) ∧ w = w'
set_option maxHeartbeats 800000 in
theorem IndexFuncI_any (f : FuncId) (cap : Array Value) (S : World → Prop) (p : Int → Bool) (A : Option Addr) (n c : Nat) (xs : List Int) (w : World) (hn : n ≤ 1099511627776) (ha : Rd w A n (ints xs)) (hxs : ∀ x ∈ xs, 0 ≤ x ∧ x ≤ 1000) (hS : S w)
    (hf : TellsI f cap S p) (hcf : ∀ (args : Array Value) (w : World), (callFunc f args).run Tryz.prog w = .ok (.enter f args) w) :
    Calls Tryz.prog 348 #[.slice A n c, .func (.func f) #[] cap] w fun e w' => ∃ r : Int, e = .returned (.int .i64 r) ∧ decide (0 ≤ r) = xs.any p ∧ w = w' := by
  have hxl : xs.length = n := by have := ha.1; rwa [ints_length] at this
  have Hx := Lib.hid hxl; clear hxl
  go_enter Tryz.func348, Tryz.ntmps348
  go_wp2
  go_loop [5, 8] (fun _ i => ∃ k : Nat, k ≤ n ∧ i = .int .i64 k ∧ (xs.take k).any p = false) (fun _ i => n - (intOf i).toNat)
  case atStart => exact ⟨0, by omega, rfl, by simp⟩
  case round =>
    obtain ⟨k, hk, rfl, ht⟩ := hrel
    have H := Lib.hid ht; clear ht
    by_cases hlt : k < n
    · obtain ⟨g, o, rfl, hx, hcx⟩ := ha.int hlt
      obtain ⟨b1, b2⟩ := hxs xs[k] (List.getElem_mem hx)
      clear ha
      cases hi : p xs[k]
      all_goals
        have HI := Lib.hid hi; clear hi
        go_wp2_with fail
        refine (hf _ _ hS b1 b2).mono ?_
        rintro e w1 ⟨rfl, rfl⟩
        rw [HI.out]
        go_wp2
      · go_round
        case rel =>
          refine ⟨k + 1, by omega, by go_num, ?_⟩
          rw [List.take_succ_eq_append_getElem hx, List.any_append, H.out]
          simpa using HI.out
        case measure => simp [intOf]; omega
      · go_ret
        refine ⟨_, rfl, ?_, rfl⟩
        have : xs.any p = true := List.any_eq_true.2 ⟨xs[k], List.getElem_mem hx, HI.out⟩
        rw [this]; simp
    · go_wp2
      go_ret
      refine ⟨_, rfl, ?_, rfl⟩
      have := H.out
      rw [List.take_of_length_le (by rw [Hx.out]; omega)] at this
      rw [this]; simp
set_option maxHeartbeats 400000 in
theorem ContainsFuncI_any (f : FuncId) (cap : Array Value) (S : World → Prop) (p : Int → Bool) (A : Option Addr) (n c : Nat) (xs : List Int) (w : World) (hn : n ≤ 1099511627776) (ha : Rd w A n (ints xs)) (hxs : ∀ x ∈ xs, 0 ≤ x ∧ x ≤ 1000) (hS : S w)
    (hf : TellsI f cap S p) (hcf : ∀ (args : Array Value) (w : World), (callFunc f args).run Tryz.prog w = .ok (.enter f args) w) :
    Calls Tryz.prog 282 #[.slice A n c, .func (.func f) #[] cap] w fun e w' => e = .returned (.bool (xs.any p)) ∧ w = w' := by
  go_enter Tryz.func282, Tryz.ntmps282
  go_wp2_with fail
  refine (IndexFuncI_any _ _ S p _ _ _ _ _ hn ha hxs hS hf hcf).mono ?_
  rintro e w1 ⟨r, rfl, hr, rfl⟩
  have HR := Lib.hid hr; clear hr
  go_wp2
  go_ret
  exact ⟨ret_bool HR.out, rfl⟩
theorem gradesL_range (xs : List Int) : ∀ x ∈ gradesL xs, 0 ≤ x ∧ x ≤ 1000 := fun x hx => by
  obtain ⟨k, hk, rfl⟩ := List.mem_map.1 hx
  have : k < 7 := by have := (List.mem_filter.1 hk).1; simpa using this
  omega
/-- Has a multivector blades with even grades alone? -/
def evenL (xs : List Int) : Bool := !((gradesL xs).any fun k => k % 2 == 1)
/-- Has it blades of grade k alone? -/
def onlyL (xs : List Int) (k : Int) : Bool := !((gradesL xs).any fun g => g != k)
set_option maxHeartbeats 400000 in
theorem isEven1_tells : TellsI 283 #[] (fun _ => True) (fun k => k % 2 == 1) := by
  intro w x _ h1 h2
  rw [Array.append_empty]
  go_enter Tryz.func283, Tryz.ntmps283
  go_wp2
  go_ret
  exact ⟨rfl, rfl⟩
set_option maxRecDepth 8000 in
set_option maxHeartbeats 400000 in
theorem isEven_any (X : Option Addr) (m cx : Nat) (xs : List Int) (w : World) (hm : m ≤ 64) (hx : Rd w X m (ints xs)) :
    Calls Tryz.prog 135 #[.slice X m cx] w fun e w' => e = .returned (.bool (evenL xs)) ∧ Below w.heap.size w w' := by
  have hl := gradesL_len xs
  go_enter Tryz.func135, Tryz.ntmps135
  go_wp2_with fail
  refine (gradesOf_any _ _ _ _ _ hm hx).mono ?_
  rintro e w1 ⟨A', c', rfl, hM⟩
  obtain ⟨l, hl'⟩ : ∃ l, l = (gradesL xs).length := ⟨_, rfl⟩
  rw [← hl'] at hl hM ⊢
  clear hl'
  go_wp2_with fail
  refine (ContainsFuncI_any _ #[] (fun _ => True) _ _ _ _ _ _ (by omega) hM.rd (gradesL_range xs) trivial isEven1_tells (fun _ _ => rfl)).mono ?_
  rintro e w2 ⟨rfl, rfl⟩
  obtain ⟨b, hb⟩ : ∃ b, b = (gradesL xs).any fun k => k % 2 == 1 := ⟨_, rfl⟩
  rw [← hb]
  have HB := Lib.hid hb; clear hb
  go_wp2
  go_ret
  exact ⟨ret_bool (by unfold evenL; rw [HB.out]), hM.b⟩
set_option maxHeartbeats 400000 in
theorem onlyGrade1_tells (k : Int) (q : Addr) : TellsI 354 #[.pointer (some q)] (fun w => w.cell? q = some (.int .i64 k)) (fun g => g != k) := by
  intro w x hS h1 h2
  show Calls _ _ #[.int .i64 x, .pointer (some q)] _ _
  go_enter Tryz.func354, Tryz.ntmps354
  go_wp2
  go_ret
  exact ⟨rfl, rfl⟩
set_option maxRecDepth 8000 in
set_option maxHeartbeats 400000 in
theorem onlyGrade_any (X : Option Addr) (m cx : Nat) (xs : List Int) (k : Int) (w : World) (hm : m ≤ 64) (hx : Rd w X m (ints xs)) :
    Calls Tryz.prog 300 #[.slice X m cx, .int .i64 k] w fun e w' => e = .returned (.bool (onlyL xs k)) ∧ Below w.heap.size w w' := by
  have hl := gradesL_len xs
  have hB0 : Below w.heap.size w (w.alloc (.cells #[.int .i64 k] 2)) := (Below.refl _ w).alloc (Nat.le_refl _) _
  have k0 : Blk (w.alloc (.cells #[.int .i64 k] 2)) w.heap.size 2 #[.int .i64 k] := Blk.new _ _ _
  have hmf : ∀ (fn : Fn) (first cap : Array Value) (w : World), (Instr.makeFunc fn first cap).run Tryz.prog w = .ok (.func fn first cap) w := fun _ _ _ _ => rfl
  go_enter Tryz.func300, Tryz.ntmps300
  go_wp2_with fail
  refine (gradesOf_any _ _ _ _ _ hm (hx.below hB0)).mono ?_
  rintro e w1 ⟨A', c', rfl, hM⟩
  have k1 := k0.below hM.b k0.lt
  have hS : w1.cell? ⟨w.heap.size, 0, none⟩ = some (.int .i64 k) := k1.cell 0
  have hB1 := hB0.trans (hM.b.mono (by simp))
  obtain ⟨l, hl'⟩ : ∃ l, l = (gradesL xs).length := ⟨_, rfl⟩
  rw [← hl'] at hl hM ⊢
  clear hl' k0 hB0
  go_wp2_with fail
  refine (ContainsFuncI_any _ #[.pointer (some ⟨w.heap.size, 0, none⟩)] (fun w => w.cell? ⟨_, 0, none⟩ = some (.int .i64 k)) _ _ _ _ _ _ (by omega) hM.rd (gradesL_range xs) hS (onlyGrade1_tells k _) (fun _ _ => rfl)).mono ?_
  rintro e w2 ⟨rfl, rfl⟩
  obtain ⟨b, hb⟩ : ∃ b, b = (gradesL xs).any fun g => g != k := ⟨_, rfl⟩
  rw [← hb]
  have HB := Lib.hid hb; clear hb
  go_wp2
  go_ret
  exact ⟨ret_bool (by unfold onlyL; rw [HB.out]), hB1⟩
end Go.Proofs.YtggigolkncckoaaGreat
namespace Go.Proofs.YtggigolkncckoaaGreat
open Go.RowKit
/-- A number with the sign of s. -/
def sgn (p : Int) (s : Nat) (c : Int) : Int := if s % 2 = 1 then (-c) % p else c
theorem sgn_bound {p : Int} {s : Nat} {c : Int} (hp : 2 ≤ p) (h1 : 0 ≤ c) (h2 : c < p) : 0 ≤ sgn p s c ∧ sgn p s c < p := by
  unfold sgn
  split
  · exact emod_small _ _ (by omega)
  · exact ⟨h1, h2⟩
theorem fac_sgn (p : Int) (sq : List Int) (a b : Nat) : fac p sq a b = sgn p (swaps a b sq.length) (common p sq a b sq.length) := rfl
theorem sgn_flip {p : Int} {s : Nat} {c : Int} (k : Nat) (_hp : 2 ≤ p) (h1 : 0 ≤ c) (h2 : c < p) (hk : k % 2 = 1) : (p - sgn p s c) % p = sgn p (s + k) c := by
  unfold sgn
  by_cases hs : s % 2 = 1
  · rw [if_pos hs, if_neg (by omega)]
    have : (p - -c % p) % p = (p - -c) % p := by rw [Int.sub_emod, Int.emod_emod, ← Int.sub_emod]
    rw [this]
    have : p - -c = c + p := by omega
    rw [this, Int.add_emod_right]
    exact Int.emod_eq_of_lt h1 h2
  · rw [if_neg hs, if_pos (by omega)]
    have : p - c = -c + p := by omega
    rw [this, Int.add_emod_right]
theorem sgn_same {p : Int} {s : Nat} {c : Int} (k : Nat) (hk : ¬ k % 2 = 1) : sgn p (s + k) c = sgn p s c := by
  unfold sgn
  have : (s + k) % 2 = s % 2 := by omega
  rw [this]
theorem neg_mod (x p : Int) : (-(x % p)) % p = (-x) % p := by
  rw [← Int.zero_sub, Int.sub_emod, Int.emod_emod, ← Int.sub_emod, Int.zero_sub]
theorem mod_mul (x q p : Int) : x % p * q % p = x * q % p := by
  rw [Int.mul_emod, Int.emod_emod, ← Int.mul_emod]
theorem sgn_mul (p : Int) (s : Nat) (c q : Int) : sgn p s c * q % p = sgn p s (c * q % p) := by
  unfold sgn
  split
  · rw [mod_mul, neg_mod, Int.neg_mul]
  · rfl
theorem and_bit0 {x k : Nat} (hk : k < 6) (hx : x < 64) : (bits BinOp.and IntKind.i64 ((x : Int) / 2 ^ k) 1 == 0) = !(bit x k == 1) := by
  rw [and_bit hk hx]
  have := bit_lt x k
  rcases (by omega : bit x k = 0 ∨ bit x k = 1) with h | h <;> simp [h]
theorem xor_up_all : ∀ k : Nat, k < 6 → ∀ x : Nat, x < 64 → bits BinOp.xor IntKind.i64 (x : Int) (wrap64 (2 ^ k)) = ((x ^^^ 2 ^ k : Nat) : Int) ∧ (x ^^^ 2 ^ k) < 64 ∧ (x ^^^ 2 ^ k) / 2 ^ (k + 1) = x / 2 ^ (k + 1) := by decide +kernel
theorem shr_nat (x k : Nat) : (x : Int) / 2 ^ k = ((x / 2 ^ k : Nat) : Int) := by simp
theorem up_div {x y k : Nat} (h : x / 2 ^ k = y / 2 ^ k) : x / 2 ^ (k + 1) = y / 2 ^ (k + 1) := by
  rw [Nat.pow_succ, ← Nat.div_div_eq_div_mul, ← Nat.div_div_eq_div_mul, h]
theorem par0 {n : Nat} (h : ((n : Int) % 2 == 1) = false) : ¬ n % 2 = 1 := by
  intro hh
  have : (n : Int) % 2 = 1 := by omega
  rw [this] at h; simp at h
theorem par1 {n : Nat} (h : ((n : Int) % 2 == 1) = true) : n % 2 = 1 := by have := beq_iff_eq.1 h; omega
set_option maxRecDepth 2000 in
set_option maxHeartbeats 1600000 in
theorem l04Blades_any (P : Int) (A : Option Addr) (n c : Nat) (sq : List Int) (a b : Nat) (w : World) (hp : 2 ≤ P) (hp2 : P ≤ 13) (hn : n ≤ 6) (ha : Rd w A n (ints sq)) (hs : NumsL P sq) (h1 : a < 64) (h2 : b < 64) :
    Calls Tryz.prog 310 #[.agg #[.int .i64 P, .slice A n c], .int .i64 a, .int .i64 b] w fun e w' => e = .returned (.int .i64 (fac P sq a b)) ∧ Below w.heap.size w w' := by
  have hxl : sq.length = n := by have := ha.1; rwa [ints_length] at this
  have Hx := Lib.hid hxl; clear hxl
  go_enter Tryz.func310, Tryz.ntmps310
  go_wp2
  have hk0 := Blk.new w 26 #[.int .i64 P, .slice A n c]
  have hB1 : Below w.heap.size w (w.alloc (.cells #[.int .i64 P, .slice A n c] 26)) := (Below.refl _ w).alloc (Nat.le_refl _) _
  obtain ⟨w1, hw1⟩ : ∃ W, W = w.alloc (.cells #[.int .i64 P, .slice A n c] 26) := ⟨_, rfl⟩
  rw [← hw1] at hk0 hB1 ⊢
  have ha1 := ha.below hB1
  clear ha hw1
  go_loopw [1, 7, 8] (fun av out i wr => ∃ (k x : Nat), k ≤ n ∧ x < 64 ∧ x / 2 ^ k = a / 2 ^ k ∧ i = .int .i64 k ∧ av = .int .i64 x ∧ out = .int .i64 (sgn P (swaps a b k) (common P sq a b k)) ∧ Below w1.heap.size w1 wr) (fun _ _ i _ => n - (intOf i).toNat)
  case atStart => exact ⟨0, a, by omega, h1, rfl, rfl, rfl, rfl, Below.refl _ _⟩
  case round =>
    obtain ⟨k, x, hk, hx64, hxa, rfl, rfl, rfl, hM⟩ := hrel
    have hkr := hk0.below hM hk0.lt
    obtain ⟨kc0, kc1⟩ := hkr.two
    have har := ha1.below hM
    obtain ⟨cb1, cb2⟩ := common_bound P sq a b hp k
    obtain ⟨sb1, sb2⟩ := sgn_bound (s := swaps a b k) hp cb1 cb2
    by_cases hlt : k < n
    · have hb0 := and_bit0 (k := k) (by omega) h2
      by_cases hb : bit b k = 1
      · simp only [hb, beq_self_eq_true, Bool.not_true] at hb0
        have hxa2 := up_div hxa
        have hbx : bit x k = bit a k := by unfold bit; rw [hxa]
        have ha0 : (bits BinOp.and IntKind.i64 ((x : Int) / 2 ^ k) 1 == 1) = (bit a k == 1) := by
          rw [and_bit (by omega) hx64, hbx]
          have := bit_lt a k
          rcases (by omega : bit a k = 0 ∨ bit a k = 1) with h | h <;> simp [h]
        have hv := Lib.hid (shr_nat x (k + 1))
        obtain ⟨hxo, hxo2, hxo3⟩ := xor_up_all k (by omega) x hx64
        have hp6 : pc (a / 2 ^ (k + 1)) ≤ 6 := pc_le 6 _ (Nat.lt_of_le_of_lt (Nat.div_le_self _ _) (by omega))
        have hxl : x / 2 ^ (k + 1) < 64 := Nat.lt_of_le_of_lt (Nat.div_le_self _ _) hx64
        have HXL := Lib.hid hxl; clear hxl
        have HX2 := Lib.hid hxa2; have HXO := Lib.hid hxo; have HXO2 := Lib.hid hxo2; have HXO3 := Lib.hid hxo3; have HB := Lib.hid hb
        clear hxa2 hxo hxo2 hxo3 hbx hxa hb
        obtain ⟨g, o, rfl, hx, hcx⟩ := har.int hlt
        obtain ⟨sx1, sx2⟩ := hs _ (List.getElem_mem hx)
        have HG : Hid (sq.getD k 0 = sq[k]) := Lib.hid (by rw [List.getD_eq_getElem?_getD, List.getElem?_eq_getElem hx]; rfl)
        clear har ha1 hk0
        cases hpar : ((pc (a / 2 ^ (k + 1)) : Int) % 2 == 1)
        · have hpar' := Lib.hid (par0 hpar)
          cases hba : (bit a k == 1)
          · rw [hba] at ha0
            have hba' : Hid (¬ bit a k = 1) := Lib.hid (by simpa using hba)
            clear hba
            go_wp2_with (go_at_call 215; rw [hv.out]; refine (l04Grade_any _ _ HXL.out).mono ?_; rintro e w' ⟨rfl, rfl⟩; rw [HX2.out])
            go_roundw
            case rel => exact ⟨k + 1, x ^^^ 2 ^ k, by omega, HXO2.out, HXO3.out.trans HX2.out, by go_num, by rw [HXO.out], by simp only [swaps, if_pos HB.out, common, if_neg (fun hh : bit b k = 1 ∧ bit a k = 1 => hba'.out hh.2)]; rw [sgn_same _ hpar'.out], hM⟩
            case measure => simp [intOf]; omega
          · rw [hba] at ha0
            have hba' := Lib.hid (beq_iff_eq.1 hba)
            clear hba
            obtain ⟨m1, m2⟩ := mul_small sb1 (show sgn P (swaps a b k) (common P sq a b k) ≤ 13 by omega) sx1 (show sq[k] ≤ 13 by omega)
            go_wp2_with (go_at_call 215; rw [hv.out]; refine (l04Grade_any _ _ HXL.out).mono ?_; rintro e w' ⟨rfl, rfl⟩; rw [HX2.out])
            go_quiet (fail)
            go_wp2
            go_roundw
            case rel => exact ⟨k + 1, x ^^^ 2 ^ k, by omega, HXO2.out, HXO3.out.trans HX2.out, by go_num, by rw [HXO.out], by simp only [swaps, if_pos HB.out, common, if_pos (And.intro HB.out hba'.out)]; rw [sgn_same _ hpar'.out, HG.out, sgn_mul], below_drewN hM _⟩
            case measure => simp [intOf]; omega
        · have hpar' := par1 hpar
          have hfl := sgn_flip (s := swaps a b k) _ hp cb1 cb2 hpar'
          have HF := Lib.hid hfl
          obtain ⟨fb1, fb2⟩ := sgn_bound (s := swaps a b k + pc (a / 2 ^ (k + 1))) hp cb1 cb2
          clear hfl hpar'
          cases hba : (bit a k == 1)
          · rw [hba] at ha0
            have hba' : Hid (¬ bit a k = 1) := Lib.hid (by simpa using hba)
            clear hba
            go_wp2_with (go_at_call 215; rw [hv.out]; refine (l04Grade_any _ _ HXL.out).mono ?_; rintro e w' ⟨rfl, rfl⟩; rw [HX2.out])
            go_roundw
            case rel => exact ⟨k + 1, x ^^^ 2 ^ k, by omega, HXO2.out, HXO3.out.trans HX2.out, by go_num, by rw [HXO.out], by simp only [swaps, if_pos HB.out, common, if_neg (fun hh : bit b k = 1 ∧ bit a k = 1 => hba'.out hh.2)]; rw [HF.out], hM⟩
            case measure => simp [intOf]; omega
          · rw [hba] at ha0
            have hba' := Lib.hid (beq_iff_eq.1 hba)
            clear hba
            rw [← HF.out] at fb1 fb2
            obtain ⟨m1, m2⟩ := mul_small fb1 (show (P - sgn P (swaps a b k) (common P sq a b k)) % P ≤ 13 by omega) sx1 (show sq[k] ≤ 13 by omega)
            go_wp2_with (go_at_call 215; rw [hv.out]; refine (l04Grade_any _ _ HXL.out).mono ?_; rintro e w' ⟨rfl, rfl⟩; rw [HX2.out])
            go_quiet (fail)
            go_wp2
            go_roundw
            case rel => exact ⟨k + 1, x ^^^ 2 ^ k, by omega, HXO2.out, HXO3.out.trans HX2.out, by go_num, by rw [HXO.out], by simp only [swaps, if_pos HB.out, common, if_pos (And.intro HB.out hba'.out)]; rw [show -sgn P (swaps a b k) (common P sq a b k) % P = (P - sgn P (swaps a b k) (common P sq a b k)) % P by rw [show P - sgn P (swaps a b k) (common P sq a b k) = -sgn P (swaps a b k) (common P sq a b k) + P by omega, Int.add_emod_right], wrap_in _ (by omega) (by omega), Int.tmod_eq_emod_of_nonneg m1, HF.out, HG.out, sgn_mul], below_drewN hM _⟩
            case measure => simp [intOf]; omega
      · simp only [(by simpa using hb : (bit b k == 1) = false), Bool.not_false] at hb0
        have hb' := Lib.hid hb
        go_wp2
        go_roundw
        case rel => exact ⟨k + 1, x, by omega, hx64, up_div hxa, by go_num, rfl, by simp only [swaps, if_neg hb'.out, common, if_neg (fun hh : bit b k = 1 ∧ bit a k = 1 => hb'.out hh.1)]; rfl, hM⟩
        case measure => simp [intOf]; omega
    · obtain rfl : k = n := by omega
      have hBB : Below w.heap.size w wr := hB1.trans (hM.mono hB1.size)
      clear har ha1
      go_wp2
      go_ret
      exact ⟨ret_int (by rw [fac_sgn, Hx.out]), hBB⟩
end Go.Proofs.YtggigolkncckoaaGreat
namespace Go.Proofs.YtggigolkncckoaaGreat
open Go.RowKit
theorem mod_mul_add (v a f p : Int) : (v + a % p * f) % p = (v + a * f) % p := by
  rw [Int.add_emod, mod_mul, ← Int.add_emod]
set_option maxRecDepth 2000 in
set_option maxHeartbeats 3200000 in
theorem l04Times_any (P : Int) (A : Option Addr) (n c : Nat) (sq : List Int) (X : Option Addr) (cx : Nat) (xs : List Int) (Y : Option Addr) (cy : Nat) (ys : List Int) (w : World) (hp : 2 ≤ P) (hp2 : P ≤ 13) (hn : n ≤ 6)
    (ha : Rd w A n (ints sq)) (hs : NumsL P sq) (hx : Rd w X (pw n) (ints xs)) (hxs : NumsL P xs) (hy : Rd w Y (pw n) (ints ys)) (hys : NumsL P ys) :
    Calls Tryz.prog 181 #[.agg #[.int .i64 P, .slice A n c], .slice X (pw n) cx, .slice Y (pw n) cy] w fun e w' => ∃ A' c', e = .returned (.slice A' (pw n) c') ∧ MkI w w' A' (pw n) c' (prodL P sq (fun _ _ => true) xs ys) := by
  have hxl : xs.length = pw n := by have := hx.1; rwa [ints_length] at this
  have hyl : ys.length = pw n := by have := hy.1; rwa [ints_length] at this
  have Hx := Lib.hid hxl; clear hxl
  have Hy := Lib.hid hyl; clear hyl
  have hpw : pw n ≤ 64 := pw_le hn
  have hmk := make_i (P := Tryz.prog) 24 2 Tryz.underlying24 info_i (pw n) (by omega)
  have hB0 : Below w.heap.size w (w.alloc (.cells #[.int .i64 P, .slice A n c] 26)) := (Below.refl _ w).alloc (Nat.le_refl _) _
  have hM := Mk.made (E := 2) (n := pw n) (z := .int .i64 0) hB0 (by simp only [maxLen]; omega)
  rw [ints_replicate] at hM
  have hk0 : Blk ((w.alloc (.cells #[.int .i64 P, .slice A n c] 26)).alloc (.cells (madeCells #[.int .i64 0] (pw n)) 2)) w.heap.size 26 #[.int .i64 P, .slice A n c] := (Blk.new w _ _).alloc _
  go_enter Tryz.func181, Tryz.ntmps181
  go_wp2
  clear hmk
  obtain ⟨w1, hw1⟩ : ∃ W, W = (w.alloc (.cells #[.int .i64 P, .slice A n c] 26)).alloc (.cells (madeCells #[.int .i64 0] (pw n)) 2) := ⟨_, rfl⟩
  rw [← hw1] at hM hk0 ⊢
  rw [World.size_alloc] at hM
  clear hB0 hw1
  obtain ⟨g, hg⟩ : ∃ g, g = w.heap.size + 1 := ⟨_, rfl⟩
  rw [← hg] at hM ⊢
  have hg1 : w.heap.size + 1 ≤ g := by omega
  clear hg
  go_loopw [8, 9] (fun i _ wr => ∃ k : Nat, k ≤ pw n ∧ i = .int .i64 k ∧ MkI w wr (some ⟨g, 0, none⟩) (pw n) (pw n) (addRows P sq (fun _ _ => true) xs ys (List.replicate (pw n) 0) k) ∧ Blk wr w.heap.size 26 #[.int .i64 P, .slice A n c]) (fun i _ _ => pw n - (intOf i).toNat)
  case atStart => exact ⟨0, by omega, rfl, by simpa [addRows] using hM, hk0⟩
  case round =>
    obtain ⟨k, hk, rfl, hM2, hk2⟩ := hrel
    clear hM hk0
    by_cases hlt : k < pw n
    · obtain ⟨gx, ox, hX, hxk, hcw⟩ := hx.int hlt
      subst hX
      obtain ⟨x1, x2⟩ := hxs _ (List.getElem_mem hxk)
      have hxn : Hid (xs.getD k 0 = xs[k]) := Lib.hid (by rw [List.getD_eq_getElem?_getD, List.getElem?_eq_getElem hxk]; rfl)
      have hgx := World.block_lt_of_cell? _ _ hcw
      have HGX : Hid (g ≠ gx) := Lib.hid (by simp at hgx; omega)
      have HCW := Lib.hid hcw
      clear hcw hgx
      have hR0 : MkI w wr (some ⟨g, 0, none⟩) (pw n) (pw n) (addRow P sq (fun _ _ => true) xs ys k (addRows P sq (fun _ _ => true) xs ys (List.replicate (pw n) 0) k) 0) := by simpa [addRow] using hM2
      have hN0 : NumsL P (addRows P sq (fun _ _ => true) xs ys (List.replicate (pw n) 0) k) := addRows_nums sq _ xs ys k (by omega) (NumsL.replicate (by omega) _)
      obtain ⟨L0, hL0⟩ : ∃ L, L = addRows P sq (fun _ _ => true) xs ys (List.replicate (pw n) 0) k := ⟨_, rfl⟩
      rw [← hL0] at hR0 hN0
      have HL0 := Lib.hid hL0
      clear hM2 hL0
      go_wp2
      go_loopw [9] (fun i wr => ∃ j : Nat, j ≤ pw n ∧ i = .int .i64 j ∧ MkI w wr (some ⟨g, 0, none⟩) (pw n) (pw n) (addRow P sq (fun _ _ => true) xs ys k L0 j) ∧ Blk wr w.heap.size 26 #[.int .i64 P, .slice A n c]) (fun i _ => pw n - (intOf i).toNat)
      case atStart => exact ⟨0, by omega, rfl, hR0, hk2⟩
      case round =>
        clear hR0 hk2
        obtain ⟨j, hj, rfl, hM3, hk3⟩ := hrel
        have hcx : wr.cell? ⟨gx, ox + k, none⟩ = some (.int .i64 xs[k]) := (hM3.b.cell (World.block_lt_of_cell? _ _ HCW.out)).trans HCW.out
        by_cases hlj : j < pw n
        · obtain ⟨gy, oy, hY, hyj, hcyw⟩ := hy.int hlj
          subst hY
          have hgy := World.block_lt_of_cell? _ _ hcyw
          have HGY : Hid (g ≠ gy) := Lib.hid (by simp at hgy; omega)
          have hcy : wr.cell? ⟨gy, oy + j, none⟩ = some (.int .i64 ys[j]) := (hM3.b.cell (World.block_lt_of_cell? _ _ hcyw)).trans hcyw
          clear hcyw hgy
          obtain ⟨y1, y2⟩ := hys _ (List.getElem_mem hyj)
          have hyn : Hid (ys.getD j 0 = ys[j]) := Lib.hid (by rw [List.getD_eq_getElem?_getD, List.getElem?_eq_getElem hyj]; rfl)
          cases h0 : (xs[k] != 0)
          · have hz : xs.getD k 0 = 0 := by rw [hxn.out]; simpa using h0
            have HM := Lib.hid hM3
            clear hM3
            go_wp2
            go_roundw
            case rel => exact ⟨k + 1, by omega, by go_num, by rw [addRows_succ, addRow_zero _ _ _ _ _ _ _ _ hz, ← HL0.out]; have := HM.out; rwa [addRow_zero _ _ _ _ _ _ _ _ hz] at this, hk3⟩
            case measure => simp [intOf]; omega
          · cases h1 : (ys[j] != 0)
            · have hz : Hid (ys.getD j 0 = 0) := Lib.hid (by rw [hyn.out]; simpa using h1)
              go_wp2
              go_roundw
              case rel => exact ⟨j + 1, by omega, by go_num, by rw [addRow_succ]; unfold addPair; rw [if_neg (fun hh => hh.2.1 hz.out)]; exact hM3, hk3⟩
              case measure => simp [intOf]; omega
            · have hidx : k ^^^ j < pw n := xor_lt hlt hlj
              have hxo := xor_all k (by omega) j (by omega)
              have hvb := (addRow_nums sq (fun _ _ => true) xs ys k j (by omega) hN0).getD (by omega) (k ^^^ j)
              obtain ⟨hoc, hof⟩ := mkI_at hM3.drew hidx
              obtain ⟨v0, hv0⟩ : ∃ v, v = (addRow P sq (fun _ _ => true) xs ys k L0 j).getD (k ^^^ j) 0 := ⟨_, rfl⟩
              rw [← hv0] at hvb hoc
              obtain ⟨v1, v2⟩ := hvb
              have HV0 := Lib.hid hv0
              have hAt : Hid (∀ w', MkI w w' (some ⟨g, 0, none⟩) (pw n) (pw n) (addRow P sq (fun _ _ => true) xs ys k L0 j) → w'.cell? ⟨g, k ^^^ j, none⟩ = some (.int .i64 v0) ∧ w'.frozen? ⟨g, k ^^^ j, none⟩ = false) :=
                Lib.hid (fun w' h => by rw [HV0.out]; exact mkI_at h hidx)
              clear hv0
              obtain ⟨f1, f2⟩ := fac_bound P sq k j hp
              obtain ⟨m1, m2⟩ := mul_small x1 (show xs[k] ≤ 13 by omega) y1 (show ys[j] ≤ 13 by omega)
              obtain ⟨r1, r2⟩ := emod_small (xs[k] * ys[j]) P (by omega)
              obtain ⟨m3, m4⟩ := mul_small r1 (show xs[k] * ys[j] % P ≤ 13 by omega) f1 (show fac P sq k j ≤ 13 by omega)
              have HNE : Hid (g ≠ w.heap.size ∧ g ≠ w.heap.size ∧ g ≠ gx ∧ g ≠ gy) := Lib.hid ⟨by omega, by omega, HGX.out, HGY.out⟩
              have hF : Hid (∀ w', MkI w w' (some ⟨g, 0, none⟩) (pw n) (pw n) (addRow P sq (fun _ _ => true) xs ys k L0 j) → Calls Tryz.prog 310 #[.agg #[.int .i64 P, .slice A n c], .int .i64 k, .int .i64 j] w' fun e w'' => e = .returned (.int .i64 (fac P sq k j)) ∧ Below w'.heap.size w' w'') :=
                Lib.hid (fun w' h => l04Blades_any P A n c sq k j w' hp hp2 hn (ha.below h.b) hs (by omega) (by omega))
              have HPair : Hid (xs.getD k 0 ≠ 0 ∧ ys.getD j 0 ≠ 0 ∧ true = true) := Lib.hid ⟨by rw [hxn.out]; simpa using h0, by rw [hyn.out]; simpa using h1, rfl⟩
              have W1 := i64_fit (xs[k] * ys[j]) (by omega) (by omega)
              have W2 := i64_fit (xs[k] * ys[j] % P * fac P sq k j) (by omega) (by omega)
              have W3 := i64_fit (v0 + xs[k] * ys[j] % P * fac P sq k j) (by omega) (by omega)
              have T1 := Int.tmod_eq_emod_of_nonneg (b := P) m1
              have T2 := Int.tmod_eq_emod_of_nonneg (a := (v0 + xs[k] * ys[j] % P * fac P sq k j)) (b := P) (by omega)
              obtain ⟨kc0, kc1⟩ := hk3.two
              have hoc2 : wr.cell? ⟨g, k ^^^ j, none⟩ = some (.int .i64 v0) := hoc
              have hof2 : wr.frozen? ⟨g, k ^^^ j, none⟩ = false := hof
              have hP0 : (P == 0) = false := by simp; omega
              have hP1 : (P == -1) = false := by simp; omega
              have hP2 : ¬ P = 0 := by omega
              have hO := hM3.drew
              have hk4 := hk3.drew
              go_wp2
              have i1 : (0 : Int) ≤ ((k ^^^ j : Nat) : Int) := by omega
              have i2 : ((k ^^^ j : Nat) : Int) < ((pw n : Nat) : Int) := by omega
              have i3 : (0 : Int) ≤ (k : Int) := by omega
              have i4 : (k : Int) < ((pw n : Nat) : Int) := by omega
              have i5 : (0 : Int) ≤ (j : Int) := by omega
              have i6 : (j : Int) < ((pw n : Nat) : Int) := by omega
              refine wp_obs 32 [[], [], [], [1, 2], [], [], [], [5, 6], [4, 5, 6, 7], [4, 5, 6, 7, 8], [], [], [10, 11], [10, 11, 12], [], [], [14, 15], [14, 15, 16], [10, 11, 12, 13, 14, 15, 16, 17], [], [19], [10, 11, 12, 13, 14, 15, 16, 17, 18, 19, 20], [], [], [], [22, 23, 24], [10, 11, 12, 13, 14, 15, 16, 17, 18, 19, 20, 21, 22, 23, 24, 25], [4, 5, 6, 7, 8, 9, 10, 11, 12, 13, 14, 15, 16, 17, 18, 19, 20, 21, 22, 23, 24, 25, 26], [], [28], [4, 5, 6, 7, 8, 9, 10, 11, 12, 13, 14, 15, 16, 17, 18, 19, 20, 21, 22, 23, 24, 25, 26, 27, 28, 29], [0, 1, 2, 3], [0, 1, 2, 3, 4, 5, 6, 7, 8, 9, 10, 11, 12, 13, 14, 15, 16, 17, 18, 19, 20, 21, 22, 23, 24, 25, 26, 27, 28, 29, 30, 31]] [VIs (.slice (some ⟨g, 0, none⟩) (pw n) (pw n)), VIs (.int .i64 (k)), VIs (.int .i64 (j)), VIs (.int .i64 ((k ^^^ j : Nat))), VIs (.slice (some ⟨g, 0, none⟩) (pw n) (pw n)), VIs (.int .i64 (k)), VIs (.int .i64 (j)), VIs (.int .i64 ((k ^^^ j : Nat))), VIs (.pointer (some ⟨g, k ^^^ j, none⟩)), VIs (.int .i64 (v0)), VIs (.slice (some ⟨gx, ox, none⟩) (pw n) cx), VIs (.int .i64 (k)), VIs (.pointer (some ⟨gx, ox + k, none⟩)), VIs (.int .i64 (xs[k])), VIs (.slice (some ⟨gy, oy, none⟩) (pw n) cy), VIs (.int .i64 (j)), VIs (.pointer (some ⟨gy, oy + j, none⟩)), VIs (.int .i64 (ys[j])), VIs (.int .i64 (xs[k] * ys[j])), VIs (.pointer (some ⟨w.heap.size, 0, none⟩)), VIs (.int .i64 (P)), VIs (.int .i64 (xs[k] * ys[j] % P)), VIs (.agg #[.int .i64 P, .slice A n c]), VIs (.int .i64 (k)), VIs (.int .i64 (j)), VIs (.int .i64 (fac P sq k j)), VIs (.int .i64 (xs[k] * ys[j] % P * fac P sq k j)), VIs (.int .i64 (v0 + xs[k] * ys[j] % P * fac P sq k j)), VIs (.pointer (some ⟨w.heap.size, 0, none⟩)), VIs (.int .i64 (P)), VIs (.int .i64 ((v0 + xs[k] * ys[j] % P * fac P sq k j) % P)), VIs (.pointer (some ⟨g, k ^^^ j, none⟩))] (fun w' => Blk w' w.heap.size 26 #[.int .i64 P, .slice A n c] ∧ MkI w w' (some ⟨g, 0, none⟩) (pw n) (pw n) (addRow P sq (fun _ _ => true) xs ys k L0 j) ∧ w'.cell? ⟨gx, ox + k, none⟩ = some (.int .i64 xs[k]) ∧ w'.cell? ⟨gy, oy + j, none⟩ = some (.int .i64 ys[j])) (by kernel_rfl) (by kernel_rfl) (fun _ _ h hb => ⟨h.1.below hb h.1.lt, h.2.1.below hb, (hb.cell (World.block_lt_of_cell? _ _ h.2.2.1)).trans h.2.2.1, (hb.cell (World.block_lt_of_cell? _ _ h.2.2.2)).trans h.2.2.2⟩) (⟨hk4, hO, hcx, hcy⟩) (fun x => ?_)
              refine obs_step (Eq.trans (by simp only [List.getElem?_toArray, List.getElem?_cons_zero]; exact rfl) rfl) rfl (fun w' hS hV K hK => ?_) ?_
              · obtain ⟨q0, q1⟩ := hS.1.two; obtain ⟨hoc, hof⟩ := hAt.out _ hS.2.1; have q2 := hS.2.2.1; have q3 := hS.2.2.2
                go_simp
                exact hK.out _ _ _ rfl rfl rfl (Below.refl _ _)
              simp only [List.setIfInBounds_toArray, List.set_cons_zero, List.set_cons_succ]
              refine obs_step (Eq.trans (by simp only [List.getElem?_toArray, List.getElem?_cons_succ, List.getElem?_cons_zero]; exact rfl) rfl) rfl (fun w' hS hV K hK => ?_) ?_
              · obtain ⟨q0, q1⟩ := hS.1.two; obtain ⟨hoc, hof⟩ := hAt.out _ hS.2.1; have q2 := hS.2.2.1; have q3 := hS.2.2.2
                go_simp
                exact hK.out _ _ _ rfl rfl rfl (Below.refl _ _)
              simp only [List.setIfInBounds_toArray, List.set_cons_zero, List.set_cons_succ]
              refine obs_step (Eq.trans (by simp only [List.getElem?_toArray, List.getElem?_cons_succ, List.getElem?_cons_zero]; exact rfl) rfl) rfl (fun w' hS hV K hK => ?_) ?_
              · obtain ⟨q0, q1⟩ := hS.1.two; obtain ⟨hoc, hof⟩ := hAt.out _ hS.2.1; have q2 := hS.2.2.1; have q3 := hS.2.2.2
                go_simp
                exact hK.out _ _ _ rfl rfl rfl (Below.refl _ _)
              simp only [List.setIfInBounds_toArray, List.set_cons_zero, List.set_cons_succ]
              refine obs_step (Eq.trans (by simp only [List.getElem?_toArray, List.getElem?_cons_succ, List.getElem?_cons_zero]; exact rfl) rfl) rfl (fun w' hS hV K hK => ?_) ?_
              · simp only [List.mem_cons, List.not_mem_nil, or_false, forall_eq_or_imp, forall_eq, List.getD_cons_succ, List.getD_cons_zero, VIs, VAny] at hV
                obtain ⟨e1, e2⟩ := hV
                obtain ⟨q0, q1⟩ := hS.1.two; obtain ⟨hoc, hof⟩ := hAt.out _ hS.2.1; have q2 := hS.2.2.1; have q3 := hS.2.2.2
                go_simp
                exact hK.out _ _ _ rfl rfl rfl (Below.refl _ _)
              simp only [List.setIfInBounds_toArray, List.set_cons_zero, List.set_cons_succ]
              refine obs_step (Eq.trans (by simp only [List.getElem?_toArray, List.getElem?_cons_succ, List.getElem?_cons_zero]; exact rfl) rfl) rfl (fun w' hS hV K hK => ?_) ?_
              · obtain ⟨q0, q1⟩ := hS.1.two; obtain ⟨hoc, hof⟩ := hAt.out _ hS.2.1; have q2 := hS.2.2.1; have q3 := hS.2.2.2
                go_simp
                exact hK.out _ _ _ rfl rfl rfl (Below.refl _ _)
              simp only [List.setIfInBounds_toArray, List.set_cons_zero, List.set_cons_succ]
              refine obs_step (Eq.trans (by simp only [List.getElem?_toArray, List.getElem?_cons_succ, List.getElem?_cons_zero]; exact rfl) rfl) rfl (fun w' hS hV K hK => ?_) ?_
              · obtain ⟨q0, q1⟩ := hS.1.two; obtain ⟨hoc, hof⟩ := hAt.out _ hS.2.1; have q2 := hS.2.2.1; have q3 := hS.2.2.2
                go_simp
                exact hK.out _ _ _ rfl rfl rfl (Below.refl _ _)
              simp only [List.setIfInBounds_toArray, List.set_cons_zero, List.set_cons_succ]
              refine obs_step (Eq.trans (by simp only [List.getElem?_toArray, List.getElem?_cons_succ, List.getElem?_cons_zero]; exact rfl) rfl) rfl (fun w' hS hV K hK => ?_) ?_
              · obtain ⟨q0, q1⟩ := hS.1.two; obtain ⟨hoc, hof⟩ := hAt.out _ hS.2.1; have q2 := hS.2.2.1; have q3 := hS.2.2.2
                go_simp
                exact hK.out _ _ _ rfl rfl rfl (Below.refl _ _)
              simp only [List.setIfInBounds_toArray, List.set_cons_zero, List.set_cons_succ]
              refine obs_step (Eq.trans (by simp only [List.getElem?_toArray, List.getElem?_cons_succ, List.getElem?_cons_zero]; exact rfl) rfl) rfl (fun w' hS hV K hK => ?_) ?_
              · simp only [List.mem_cons, List.not_mem_nil, or_false, forall_eq_or_imp, forall_eq, List.getD_cons_succ, List.getD_cons_zero, VIs, VAny] at hV
                obtain ⟨e5, e6⟩ := hV
                obtain ⟨q0, q1⟩ := hS.1.two; obtain ⟨hoc, hof⟩ := hAt.out _ hS.2.1; have q2 := hS.2.2.1; have q3 := hS.2.2.2
                go_simp
                exact hK.out _ _ _ rfl rfl rfl (Below.refl _ _)
              simp only [List.setIfInBounds_toArray, List.set_cons_zero, List.set_cons_succ]
              refine obs_step (Eq.trans (by simp only [List.getElem?_toArray, List.getElem?_cons_succ, List.getElem?_cons_zero]; exact rfl) rfl) rfl (fun w' hS hV K hK => ?_) ?_
              · simp only [List.mem_cons, List.not_mem_nil, or_false, forall_eq_or_imp, forall_eq, List.getD_cons_succ, List.getD_cons_zero, VIs, VAny] at hV
                obtain ⟨e4, e5, e6, e7⟩ := hV
                obtain ⟨q0, q1⟩ := hS.1.two; obtain ⟨hoc, hof⟩ := hAt.out _ hS.2.1; have q2 := hS.2.2.1; have q3 := hS.2.2.2
                go_simp
                exact hK.out _ _ _ rfl rfl rfl (Below.refl _ _)
              simp only [List.setIfInBounds_toArray, List.set_cons_zero, List.set_cons_succ]
              refine obs_step (Eq.trans (by simp only [List.getElem?_toArray, List.getElem?_cons_succ, List.getElem?_cons_zero]; exact rfl) rfl) rfl (fun w' hS hV K hK => ?_) ?_
              · simp only [List.mem_cons, List.not_mem_nil, or_false, forall_eq_or_imp, forall_eq, List.getD_cons_succ, List.getD_cons_zero, VIs, VAny] at hV
                obtain ⟨e4, e5, e6, e7, e8⟩ := hV
                obtain ⟨q0, q1⟩ := hS.1.two; obtain ⟨hoc, hof⟩ := hAt.out _ hS.2.1; have q2 := hS.2.2.1; have q3 := hS.2.2.2
                go_simp
                exact hK.out _ _ _ rfl rfl rfl (Below.refl _ _)
              simp only [List.setIfInBounds_toArray, List.set_cons_zero, List.set_cons_succ]
              refine obs_step (Eq.trans (by simp only [List.getElem?_toArray, List.getElem?_cons_succ, List.getElem?_cons_zero]; exact rfl) rfl) rfl (fun w' hS hV K hK => ?_) ?_
              · obtain ⟨q0, q1⟩ := hS.1.two; obtain ⟨hoc, hof⟩ := hAt.out _ hS.2.1; have q2 := hS.2.2.1; have q3 := hS.2.2.2
                go_simp
                exact hK.out _ _ _ rfl rfl rfl (Below.refl _ _)
              simp only [List.setIfInBounds_toArray, List.set_cons_zero, List.set_cons_succ]
              refine obs_step (Eq.trans (by simp only [List.getElem?_toArray, List.getElem?_cons_succ, List.getElem?_cons_zero]; exact rfl) rfl) rfl (fun w' hS hV K hK => ?_) ?_
              · obtain ⟨q0, q1⟩ := hS.1.two; obtain ⟨hoc, hof⟩ := hAt.out _ hS.2.1; have q2 := hS.2.2.1; have q3 := hS.2.2.2
                go_simp
                exact hK.out _ _ _ rfl rfl rfl (Below.refl _ _)
              simp only [List.setIfInBounds_toArray, List.set_cons_zero, List.set_cons_succ]
              refine obs_step (Eq.trans (by simp only [List.getElem?_toArray, List.getElem?_cons_succ, List.getElem?_cons_zero]; exact rfl) rfl) rfl (fun w' hS hV K hK => ?_) ?_
              · simp only [List.mem_cons, List.not_mem_nil, or_false, forall_eq_or_imp, forall_eq, List.getD_cons_succ, List.getD_cons_zero, VIs, VAny] at hV
                obtain ⟨e10, e11⟩ := hV
                obtain ⟨q0, q1⟩ := hS.1.two; obtain ⟨hoc, hof⟩ := hAt.out _ hS.2.1; have q2 := hS.2.2.1; have q3 := hS.2.2.2
                go_simp
                exact hK.out _ _ _ rfl rfl rfl (Below.refl _ _)
              simp only [List.setIfInBounds_toArray, List.set_cons_zero, List.set_cons_succ]
              refine obs_step (Eq.trans (by simp only [List.getElem?_toArray, List.getElem?_cons_succ, List.getElem?_cons_zero]; exact rfl) rfl) rfl (fun w' hS hV K hK => ?_) ?_
              · simp only [List.mem_cons, List.not_mem_nil, or_false, forall_eq_or_imp, forall_eq, List.getD_cons_succ, List.getD_cons_zero, VIs, VAny] at hV
                obtain ⟨e10, e11, e12⟩ := hV
                obtain ⟨q0, q1⟩ := hS.1.two; obtain ⟨hoc, hof⟩ := hAt.out _ hS.2.1; have q2 := hS.2.2.1; have q3 := hS.2.2.2
                go_simp
                exact hK.out _ _ _ rfl rfl rfl (Below.refl _ _)
              simp only [List.setIfInBounds_toArray, List.set_cons_zero, List.set_cons_succ]
              refine obs_step (Eq.trans (by simp only [List.getElem?_toArray, List.getElem?_cons_succ, List.getElem?_cons_zero]; exact rfl) rfl) rfl (fun w' hS hV K hK => ?_) ?_
              · obtain ⟨q0, q1⟩ := hS.1.two; obtain ⟨hoc, hof⟩ := hAt.out _ hS.2.1; have q2 := hS.2.2.1; have q3 := hS.2.2.2
                go_simp
                exact hK.out _ _ _ rfl rfl rfl (Below.refl _ _)
              simp only [List.setIfInBounds_toArray, List.set_cons_zero, List.set_cons_succ]
              refine obs_step (Eq.trans (by simp only [List.getElem?_toArray, List.getElem?_cons_succ, List.getElem?_cons_zero]; exact rfl) rfl) rfl (fun w' hS hV K hK => ?_) ?_
              · obtain ⟨q0, q1⟩ := hS.1.two; obtain ⟨hoc, hof⟩ := hAt.out _ hS.2.1; have q2 := hS.2.2.1; have q3 := hS.2.2.2
                go_simp
                exact hK.out _ _ _ rfl rfl rfl (Below.refl _ _)
              simp only [List.setIfInBounds_toArray, List.set_cons_zero, List.set_cons_succ]
              refine obs_step (Eq.trans (by simp only [List.getElem?_toArray, List.getElem?_cons_succ, List.getElem?_cons_zero]; exact rfl) rfl) rfl (fun w' hS hV K hK => ?_) ?_
              · simp only [List.mem_cons, List.not_mem_nil, or_false, forall_eq_or_imp, forall_eq, List.getD_cons_succ, List.getD_cons_zero, VIs, VAny] at hV
                obtain ⟨e14, e15⟩ := hV
                obtain ⟨q0, q1⟩ := hS.1.two; obtain ⟨hoc, hof⟩ := hAt.out _ hS.2.1; have q2 := hS.2.2.1; have q3 := hS.2.2.2
                go_simp
                exact hK.out _ _ _ rfl rfl rfl (Below.refl _ _)
              simp only [List.setIfInBounds_toArray, List.set_cons_zero, List.set_cons_succ]
              refine obs_step (Eq.trans (by simp only [List.getElem?_toArray, List.getElem?_cons_succ, List.getElem?_cons_zero]; exact rfl) rfl) rfl (fun w' hS hV K hK => ?_) ?_
              · simp only [List.mem_cons, List.not_mem_nil, or_false, forall_eq_or_imp, forall_eq, List.getD_cons_succ, List.getD_cons_zero, VIs, VAny] at hV
                obtain ⟨e14, e15, e16⟩ := hV
                obtain ⟨q0, q1⟩ := hS.1.two; obtain ⟨hoc, hof⟩ := hAt.out _ hS.2.1; have q2 := hS.2.2.1; have q3 := hS.2.2.2
                go_simp
                exact hK.out _ _ _ rfl rfl rfl (Below.refl _ _)
              simp only [List.setIfInBounds_toArray, List.set_cons_zero, List.set_cons_succ]
              refine obs_step (Eq.trans (by simp only [List.getElem?_toArray, List.getElem?_cons_succ, List.getElem?_cons_zero]; exact rfl) rfl) rfl (fun w' hS hV K hK => ?_) ?_
              · simp only [List.mem_cons, List.not_mem_nil, or_false, forall_eq_or_imp, forall_eq, List.getD_cons_succ, List.getD_cons_zero, VIs, VAny] at hV
                obtain ⟨e10, e11, e12, e13, e14, e15, e16, e17⟩ := hV
                obtain ⟨q0, q1⟩ := hS.1.two; obtain ⟨hoc, hof⟩ := hAt.out _ hS.2.1; have q2 := hS.2.2.1; have q3 := hS.2.2.2
                go_simp
                exact hK.out _ _ _ rfl rfl rfl (Below.refl _ _)
              simp only [List.setIfInBounds_toArray, List.set_cons_zero, List.set_cons_succ]
              refine obs_step (Eq.trans (by simp only [List.getElem?_toArray, List.getElem?_cons_succ, List.getElem?_cons_zero]; exact rfl) rfl) rfl (fun w' hS hV K hK => ?_) ?_
              · obtain ⟨q0, q1⟩ := hS.1.two; obtain ⟨hoc, hof⟩ := hAt.out _ hS.2.1; have q2 := hS.2.2.1; have q3 := hS.2.2.2
                go_simp
                exact hK.out _ _ _ rfl rfl rfl (Below.refl _ _)
              simp only [List.setIfInBounds_toArray, List.set_cons_zero, List.set_cons_succ]
              refine obs_step (Eq.trans (by simp only [List.getElem?_toArray, List.getElem?_cons_succ, List.getElem?_cons_zero]; exact rfl) rfl) rfl (fun w' hS hV K hK => ?_) ?_
              · simp only [List.mem_cons, List.not_mem_nil, or_false, forall_eq, List.getD_cons_succ, List.getD_cons_zero, VIs, VAny] at hV
                obtain e19 := hV
                obtain ⟨q0, q1⟩ := hS.1.two; obtain ⟨hoc, hof⟩ := hAt.out _ hS.2.1; have q2 := hS.2.2.1; have q3 := hS.2.2.2
                go_simp
                exact hK.out _ _ _ rfl rfl rfl (Below.refl _ _)
              simp only [List.setIfInBounds_toArray, List.set_cons_zero, List.set_cons_succ]
              refine obs_step (Eq.trans (by simp only [List.getElem?_toArray, List.getElem?_cons_succ, List.getElem?_cons_zero]; exact rfl) rfl) rfl (fun w' hS hV K hK => ?_) ?_
              · simp only [List.mem_cons, List.not_mem_nil, or_false, forall_eq_or_imp, forall_eq, List.getD_cons_succ, List.getD_cons_zero, VIs, VAny] at hV
                obtain ⟨e10, e11, e12, e13, e14, e15, e16, e17, e18, e19, e20⟩ := hV
                obtain ⟨q0, q1⟩ := hS.1.two; obtain ⟨hoc, hof⟩ := hAt.out _ hS.2.1; have q2 := hS.2.2.1; have q3 := hS.2.2.2
                go_simp
                exact hK.out _ _ _ rfl rfl rfl (Below.refl _ _)
              simp only [List.setIfInBounds_toArray, List.set_cons_zero, List.set_cons_succ]
              refine obs_step (Eq.trans (by simp only [List.getElem?_toArray, List.getElem?_cons_succ, List.getElem?_cons_zero]; exact rfl) rfl) rfl (fun w' hS hV K hK => ?_) ?_
              · obtain ⟨q0, q1⟩ := hS.1.two; obtain ⟨hoc, hof⟩ := hAt.out _ hS.2.1; have q2 := hS.2.2.1; have q3 := hS.2.2.2
                go_simp
                exact hK.out _ _ _ rfl rfl rfl (Below.refl _ _)
              simp only [List.setIfInBounds_toArray, List.set_cons_zero, List.set_cons_succ]
              refine obs_step (Eq.trans (by simp only [List.getElem?_toArray, List.getElem?_cons_succ, List.getElem?_cons_zero]; exact rfl) rfl) rfl (fun w' hS hV K hK => ?_) ?_
              · obtain ⟨q0, q1⟩ := hS.1.two; obtain ⟨hoc, hof⟩ := hAt.out _ hS.2.1; have q2 := hS.2.2.1; have q3 := hS.2.2.2
                go_simp
                exact hK.out _ _ _ rfl rfl rfl (Below.refl _ _)
              simp only [List.setIfInBounds_toArray, List.set_cons_zero, List.set_cons_succ]
              refine obs_step (Eq.trans (by simp only [List.getElem?_toArray, List.getElem?_cons_succ, List.getElem?_cons_zero]; exact rfl) rfl) rfl (fun w' hS hV K hK => ?_) ?_
              · obtain ⟨q0, q1⟩ := hS.1.two; obtain ⟨hoc, hof⟩ := hAt.out _ hS.2.1; have q2 := hS.2.2.1; have q3 := hS.2.2.2
                go_simp
                exact hK.out _ _ _ rfl rfl rfl (Below.refl _ _)
              simp only [List.setIfInBounds_toArray, List.set_cons_zero, List.set_cons_succ]
              refine obs_step (Eq.trans (by simp only [List.getElem?_toArray, List.getElem?_cons_succ, List.getElem?_cons_zero]; exact rfl) rfl) rfl (fun w' hS hV K hK => ?_) ?_
              · simp only [List.mem_cons, List.not_mem_nil, or_false, forall_eq_or_imp, forall_eq, List.getD_cons_succ, List.getD_cons_zero, VIs, VAny] at hV
                obtain ⟨e22, e23, e24⟩ := hV
                obtain ⟨q0, q1⟩ := hS.1.two; obtain ⟨hoc, hof⟩ := hAt.out _ hS.2.1; have q2 := hS.2.2.1; have q3 := hS.2.2.2
                go_simp
                refine (hF.out _ hS.2.1).mono ?_
                rintro e v1 ⟨rfl, hb⟩
                exact hK.out _ _ _ rfl rfl rfl hb
              simp only [List.setIfInBounds_toArray, List.set_cons_zero, List.set_cons_succ]
              refine obs_step (Eq.trans (by simp only [List.getElem?_toArray, List.getElem?_cons_succ, List.getElem?_cons_zero]; exact rfl) rfl) rfl (fun w' hS hV K hK => ?_) ?_
              · simp only [List.mem_cons, List.not_mem_nil, or_false, forall_eq_or_imp, forall_eq, List.getD_cons_succ, List.getD_cons_zero, VIs, VAny] at hV
                obtain ⟨e10, e11, e12, e13, e14, e15, e16, e17, e18, e19, e20, e21, e22, e23, e24, e25⟩ := hV
                obtain ⟨q0, q1⟩ := hS.1.two; obtain ⟨hoc, hof⟩ := hAt.out _ hS.2.1; have q2 := hS.2.2.1; have q3 := hS.2.2.2
                go_simp
                exact hK.out _ _ _ rfl rfl rfl (Below.refl _ _)
              simp only [List.setIfInBounds_toArray, List.set_cons_zero, List.set_cons_succ]
              refine obs_step (Eq.trans (by simp only [List.getElem?_toArray, List.getElem?_cons_succ, List.getElem?_cons_zero]; exact rfl) rfl) rfl (fun w' hS hV K hK => ?_) ?_
              · simp only [List.mem_cons, List.not_mem_nil, or_false, forall_eq_or_imp, forall_eq, List.getD_cons_succ, List.getD_cons_zero, VIs, VAny] at hV
                obtain ⟨e4, e5, e6, e7, e8, e9, e10, e11, e12, e13, e14, e15, e16, e17, e18, e19, e20, e21, e22, e23, e24, e25, e26⟩ := hV
                obtain ⟨q0, q1⟩ := hS.1.two; obtain ⟨hoc, hof⟩ := hAt.out _ hS.2.1; have q2 := hS.2.2.1; have q3 := hS.2.2.2
                go_simp
                exact hK.out _ _ _ rfl rfl rfl (Below.refl _ _)
              simp only [List.setIfInBounds_toArray, List.set_cons_zero, List.set_cons_succ]
              refine obs_step (Eq.trans (by simp only [List.getElem?_toArray, List.getElem?_cons_succ, List.getElem?_cons_zero]; exact rfl) rfl) rfl (fun w' hS hV K hK => ?_) ?_
              · obtain ⟨q0, q1⟩ := hS.1.two; obtain ⟨hoc, hof⟩ := hAt.out _ hS.2.1; have q2 := hS.2.2.1; have q3 := hS.2.2.2
                go_simp
                exact hK.out _ _ _ rfl rfl rfl (Below.refl _ _)
              simp only [List.setIfInBounds_toArray, List.set_cons_zero, List.set_cons_succ]
              refine obs_step (Eq.trans (by simp only [List.getElem?_toArray, List.getElem?_cons_succ, List.getElem?_cons_zero]; exact rfl) rfl) rfl (fun w' hS hV K hK => ?_) ?_
              · simp only [List.mem_cons, List.not_mem_nil, or_false, forall_eq, List.getD_cons_succ, List.getD_cons_zero, VIs, VAny] at hV
                obtain e28 := hV
                obtain ⟨q0, q1⟩ := hS.1.two; obtain ⟨hoc, hof⟩ := hAt.out _ hS.2.1; have q2 := hS.2.2.1; have q3 := hS.2.2.2
                go_simp
                exact hK.out _ _ _ rfl rfl rfl (Below.refl _ _)
              simp only [List.setIfInBounds_toArray, List.set_cons_zero, List.set_cons_succ]
              refine obs_step (Eq.trans (by simp only [List.getElem?_toArray, List.getElem?_cons_succ, List.getElem?_cons_zero]; exact rfl) rfl) rfl (fun w' hS hV K hK => ?_) ?_
              · simp only [List.mem_cons, List.not_mem_nil, or_false, forall_eq_or_imp, forall_eq, List.getD_cons_succ, List.getD_cons_zero, VIs, VAny] at hV
                obtain ⟨e4, e5, e6, e7, e8, e9, e10, e11, e12, e13, e14, e15, e16, e17, e18, e19, e20, e21, e22, e23, e24, e25, e26, e27, e28, e29⟩ := hV
                obtain ⟨q0, q1⟩ := hS.1.two; obtain ⟨hoc, hof⟩ := hAt.out _ hS.2.1; have q2 := hS.2.2.1; have q3 := hS.2.2.2
                go_simp
                exact hK.out _ _ _ rfl rfl rfl (Below.refl _ _)
              simp only [List.setIfInBounds_toArray, List.set_cons_zero, List.set_cons_succ]
              refine obs_step (Eq.trans (by simp only [List.getElem?_toArray, List.getElem?_cons_succ, List.getElem?_cons_zero]; exact rfl) rfl) rfl (fun w' hS hV K hK => ?_) ?_
              · simp only [List.mem_cons, List.not_mem_nil, or_false, forall_eq_or_imp, forall_eq, List.getD_cons_succ, List.getD_cons_zero, VIs, VAny] at hV
                obtain ⟨e0, e1, e2, e3⟩ := hV
                obtain ⟨q0, q1⟩ := hS.1.two; obtain ⟨hoc, hof⟩ := hAt.out _ hS.2.1; have q2 := hS.2.2.1; have q3 := hS.2.2.2
                go_simp
                exact hK.out _ _ _ rfl rfl rfl (Below.refl _ _)
              simp only [List.setIfInBounds_toArray, List.set_cons_zero, List.set_cons_succ]
              refine fun w' hS hV => ?_
              have hV := fun i hi => hV i (List.mem_range.1 hi)
              simp only [List.range, List.range.loop, List.mem_cons, List.not_mem_nil, or_false, forall_eq_or_imp, forall_eq, List.getD_cons_succ, List.getD_cons_zero, VIs, VAny] at hV
              obtain ⟨e0, e1, e2, e3, e4, e5, e6, e7, e8, e9, e10, e11, e12, e13, e14, e15, e16, e17, e18, e19, e20, e21, e22, e23, e24, e25, e26, e27, e28, e29, e30, e31⟩ := hV
              simp only [e0, e1, e2, e3, e4, e5, e6, e7, e8, e9, e10, e11, e12, e13, e14, e15, e16, e17, e18, e19, e20, e21, e22, e23, e24, e25, e26, e27, e28, e29, e30, e31]
              clear e0 e1 e2 e3 e4 e5 e6 e7 e8 e9 e10 e11 e12 e13 e14 e15 e16 e17 e18 e19 e20 e21 e22 e23 e24 e25 e26 e27 e28 e29 e30 e31
              obtain ⟨hk4, hO, s3, s4⟩ := hS
              obtain ⟨hoc, hof⟩ := hAt.out _ hO
              refine any_one (j := 32) (by kernel_rfl) (Eq.trans (by simp only [List.getElem?_toArray, List.getElem?_cons_succ, List.getElem?_cons_zero]; exact rfl) rfl) (fun K hK => ?_)
              go_simp
              refine hK.out _ _ (wpAny_done (by kernel_rfl) ?_ _)
              have hset := (hO.set (k ^^^ j) (.int .i64 ((v0 + xs[k] * ys[j] % P * fac P sq k j) % P))).1
              rw [ints_set] at hset
              have hkn := hk4.far (p := ⟨g, k ^^^ j, none⟩) HNE.out.1.symm (.int .i64 ((v0 + xs[k] * ys[j] % P * fac P sq k j) % P))
              clear W1 W2 W3 T1 T2 hoc hof hO hk4
              go_wp2
              go_roundw
              case rel => exact ⟨j + 1, by omega, by go_num, by rw [addRow_succ]; unfold addPair; rw [if_pos ⟨HPair.out.1, HPair.out.2.1, rfl⟩, ← HV0.out, hxn.out, hyn.out, ← mod_mul_add v0 (xs[k] * ys[j]) (fac P sq k j) P]; exact hset, hkn⟩
              case measure => simp [intOf]; omega
        · obtain rfl : j = pw n := by omega
          have HM := Lib.hid hM3
          clear hM3
          go_wp2
          go_roundw
          case rel => exact ⟨k + 1, by omega, by go_num, by rw [addRows_succ, Hy.out, ← HL0.out]; exact HM.out, hk3⟩
          case measure => simp [intOf]; omega
    · obtain rfl : k = pw n := by omega
      go_wp2
      go_ret
      exact ⟨_, _, rfl, by unfold prodL; rw [Hx.out]; exact hM2⟩
end Go.Proofs.YtggigolkncckoaaGreat
namespace Go.Proofs.YtggigolkncckoaaGreat
open Go.RowKit
set_option maxHeartbeats 400000 in
theorem l04Zero_any (P : Int) (A : Option Addr) (n c : Nat) (w : World) (hn : n ≤ 10) :
    Calls Tryz.prog 216 #[.agg #[.int .i64 P, .slice A n c]] w fun e w' => ∃ A' c', e = .returned (.slice A' (pw n) c') ∧ MkI w w' A' (pw n) c' (List.replicate (pw n) 0) := by
  have hp : pw n ≤ 1024 := pw_le hn
  have hmk := make_i (P := Tryz.prog) 24 2 Tryz.underlying24 info_i (pw n) (by omega)
  go_enter Tryz.func216, Tryz.ntmps216
  go_wp2_with (go_at_call 214; refine (l04Size_any _ _ _ _ _ (by omega)).mono ?_; rintro e w1 ⟨rfl, hb1⟩)
  go_ret
  have hb2 := (((Below.refl _ _).alloc (Nat.le_refl _) _).trans (hb1.mono (by simp)))
  exact ⟨_, _, rfl, by have := Mk.made (E := 2) (n := pw n) (z := .int .i64 0) hb2 (by simp only [maxLen]; omega); rwa [ints_replicate] at this⟩
set_option maxHeartbeats 400000 in
theorem l04One_any (P : Int) (A : Option Addr) (n c : Nat) (w : World) (hn : n ≤ 10) :
    Calls Tryz.prog 296 #[.agg #[.int .i64 P, .slice A n c]] w fun e w' => ∃ A' c', e = .returned (.slice A' (pw n) c') ∧ MkI w w' A' (pw n) c' (bladeL n 0) := by
  have hB0 : Below w.heap.size w (w.alloc (.cells #[.int .i64 P, .slice A n c] 26)) := (Below.refl _ w).alloc (Nat.le_refl _) _
  have hm := pw_pos n
  go_enter Tryz.func296, Tryz.ntmps296
  go_wp2_with (go_at_call 216; refine (l04Zero_any _ _ _ _ _ hn).mono ?_; rintro e w1 ⟨G, c1, rfl, hM1⟩; have hM := hM1.after hB0; rcases hM.2.form with ⟨_, h0⟩ | ⟨g, rfl, hg, _⟩; (omega); obtain ⟨u1, hc1⟩ := hM.2.cellI hm; have hf1 := hM.2.frozen_ 0; have hset := (hM.set 0 (.int .i64 1)).1; rw [ints_set] at hset; have HS := Lib.hid hset; clear hM hM1 hset)
  go_ret
  exact ⟨_, _, rfl, HS.out⟩
set_option maxHeartbeats 800000 in
theorem l04Vector_any (P : Int) (A : Option Addr) (n c : Nat) (X : Option Addr) (cx : Nat) (v : List Int) (w : World) (hn : n ≤ 10) (hx : Rd w X n (ints v)) :
    Calls Tryz.prog 159 #[.agg #[.int .i64 P, .slice A n c], .slice X n cx] w fun e w' => ∃ A' c', e = .returned (.slice A' (pw n) c') ∧ MkI w w' A' (pw n) c' (vecTo n v n) := by
  have hB0 : Below w.heap.size w (w.alloc (.cells #[.int .i64 P, .slice A n c] 26)) := (Below.refl _ w).alloc (Nat.le_refl _) _
  go_enter Tryz.func159, Tryz.ntmps159
  go_wp2_with (go_at_call 216; refine (l04Zero_any _ _ _ _ _ hn).mono ?_; rintro e w1 ⟨G, c1, rfl, hM1⟩)
  have hM := hM1.after hB0
  have hpos := pw_pos n
  rcases hM.2.form with ⟨_, h0⟩ | ⟨g, rfl, hg, _⟩
  · omega
  clear hM1 hB0 hg hpos
  go_loopw [6] (fun i wr => ∃ k : Nat, k ≤ n ∧ i = .int .i64 k ∧ MkI w wr (some ⟨g, 0, none⟩) (pw n) c1 (vecTo n v k)) (fun i _ => n - (intOf i).toNat)
  case atStart => exact ⟨0, by omega, rfl, by simpa [vecTo] using hM⟩
  case round =>
    obtain ⟨k, hk, rfl, hM2⟩ := hrel
    clear hM
    by_cases hlt : k < n
    · obtain ⟨gx, ox, rfl, hxk, hcx⟩ := (hx.below hM2.b).int hlt
      have hvn : v.getD k 0 = v[k] := by rw [List.getD_eq_getElem?_getD, List.getElem?_eq_getElem hxk]; rfl
      have h2 := two_lt hlt
      have hset := (hM2.set (2 ^ k) (.int .i64 v[k])).1
      rw [ints_set, ← hvn, ← vecTo_succ, hvn] at hset
      have hw : wrap64 (2 ^ k) = ((2 ^ k : Nat) : Int) := wrap_pw k (by omega)
      obtain ⟨q, hq⟩ : ∃ q : Nat, q = 2 ^ k := ⟨_, rfl⟩
      rw [← hq] at h2 hset hw
      obtain ⟨hoc, hof⟩ := mkI_at hM2 h2
      have HS := Lib.hid hset
      clear hq
      clear hvn hset hM2
      go_wp2
      go_roundw
      case rel => exact ⟨k + 1, by omega, by go_num, HS.out⟩
      case measure => simp [intOf]; omega
    · obtain rfl : k = n := by omega
      go_wp2
      go_ret
      exact ⟨_, _, rfl, hM2⟩
end Go.Proofs.YtggigolkncckoaaGreat
namespace Go.Proofs.YtggigolkncckoaaGreat
open Go.RowKit
theorem Blk.newAt {w : World} {t : TypeId} {cs : Array Value} {g : Nat} (hg : g = w.heap.size) : Blk (w.alloc (.cells cs t)) g t cs := hg ▸ Blk.new w t cs
theorem codeM_spec2 {P : Int} {sq : List Int} {ms : List (List Int)} (h : codeM P sq ms = 0) : isP P = true ∧ 2 < P ∧ P ≤ 13 ∧ 1 ≤ sq.length ∧ sq.length ≤ 6 ∧ NumsL P sq ∧ ∀ ys ∈ ms, ys.length = pw sq.length ∧ NumsL P ys := by
  obtain ⟨h1, h2⟩ := codeM_sp h
  obtain ⟨hp, hd1, hd2, hnum⟩ := isSp_dim h1
  have := isP_ge hp
  refine ⟨hp, by omega, by omega, hd1, hd2, nums_numsL hnum, fun ys hy => ?_⟩
  have hm := h2 ys hy
  unfold isMu at hm
  simp only [Bool.and_eq_true, beq_iff_eq] at hm
  exact ⟨by have := hm.1; omega, nums_numsL hm.2⟩
end Go.Proofs.YtggigolkncckoaaGreat
namespace Go.Proofs.YtggigolkncckoaaGreat
open Go.RowKit
/-- The places 1, 2, 4, .. of a list. -/
def partL (n : Nat) (x : List Int) : List Int := (List.range n).map fun i => x.getD (2 ^ i) 0
theorem partL_len (n : Nat) (x : List Int) : (partL n x).length = n := by simp [partL]
theorem partL_succ (k : Nat) (x : List Int) : partL (k + 1) x = partL k x ++ [x.getD (2 ^ k) 0] := by simp [partL, List.range_succ]
set_option maxHeartbeats 800000 in
theorem vectorPart_any (P : Int) (A : Option Addr) (n c : Nat) (X : Option Addr) (cx : Nat) (x : List Int) (w : World) (hn : n ≤ 10) (hx : Rd w X (pw n) (ints x)) :
    Calls Tryz.prog 301 #[.agg #[.int .i64 P, .slice A n c], .slice X (pw n) cx] w fun e w' => ∃ A' c', e = .returned (.slice A' n c') ∧ MkI w w' A' n c' (partL n x) := by
  have hB0 : Below w.heap.size w (w.alloc (.cells #[.int .i64 P, .slice A n c] 26)) := (Below.refl _ w).alloc (Nat.le_refl _) _
  have hM0 := Mk.lit (E := 2) hB0 #[] (by simp)
  go_enter Tryz.func301, Tryz.ntmps301
  go_wp2_with (go_at_call 139; refine (dim_any _ _ _ _ _).mono ?_; rintro e w1 ⟨rfl, hb1⟩)
  have hM : MkI w w1 (some ⟨w.heap.size + 1, 0, none⟩) 0 0 [] := by have := hM0.below hb1; simpa [MkI, ints] using this
  clear hM0 hb1 hB0
  go_loopw [5, 6, 10] (fun out _ i wr => ∃ (k : Nat) (A' : Option Addr) (c' : Nat), k ≤ n ∧ i = .int .i64 k ∧ out = .slice A' k c' ∧ MkI w wr A' k c' (partL k x)) (fun _ _ i _ => n - (intOf i).toNat)
  case atStart => exact ⟨0, _, _, by omega, rfl, rfl, by simpa [partL] using hM⟩
  case round =>
    obtain ⟨k, A', c', hk, rfl, rfl, hM2⟩ := hrel
    clear hM
    by_cases hlt : k < n
    · have h2 := two_lt hlt
      have hw : wrap64 (2 ^ k) = ((2 ^ k : Nat) : Int) := wrap_pw k (by omega)
      obtain ⟨q, hq⟩ : ∃ q : Nat, q = 2 ^ k := ⟨_, rfl⟩
      rw [← hq] at h2 hw
      obtain ⟨gx, ox, rfl, hxk, hcx⟩ := (hx.below hM2.b).int h2
      have HV : Hid (partL (k + 1) x = partL k x ++ [x[q]]) := Lib.hid (by rw [partL_succ, ← hq, List.getD_eq_getElem?_getD, List.getElem?_eq_getElem hxk]; rfl)
      have HM := Lib.hid hM2
      clear hq hM2
      go_wp2_with (at_builtin; refine wpList_app1 w _ 24 2 _ _ Tryz.underlying24 info_i rfl (by omega) rfl _ _ rfl A' k c' _ _ HM.out (by omega) rfl rfl rfl ?_; intro A2 c2 w2 hM3 _ _)
      go_roundw
      case rel => exact ⟨k + 1, A2, c2, by omega, by go_num, rfl, by rw [HV.out]; simpa [MkI, ints] using hM3⟩
      case measure => simp [intOf]; omega
    · obtain rfl : k = n := by omega
      go_wp2
      go_ret
      exact ⟨_, _, rfl, hM2⟩
end Go.Proofs.YtggigolkncckoaaGreat
namespace Go.Proofs.YtggigolkncckoaaGreat
open Go.RowKit
theorem sumTo_169 {n : Nat} {f : Nat → Int} (h : ∀ i, i < n → 0 ≤ f i ∧ f i ≤ 169) : 0 ≤ sumTo n f ∧ sumTo n f ≤ 169 * (n : Int) := by
  induction n with
  | zero => simp [sumTo]
  | succ n ih =>
    obtain ⟨a, b⟩ := ih fun i hi => h i (by omega)
    obtain ⟨c, d⟩ := h n (by omega)
    rw [sumTo_succ]
    omega
set_option maxHeartbeats 800000 in
theorem dot_any (p : Int) (A : Option Addr) (n c : Nat) (B : Option Addr) (m d : Nat) (xs ys : List Int) (w : World) (hp : 2 ≤ p) (hp2 : p ≤ 13) (hn : n ≤ 65536) (hnm : n ≤ m) (ha : Rd w A n (ints xs)) (hx : NumsL p xs) (hb : Rd w B m (ints ys)) (hy : NumsL p ys) :
    Calls Tryz.prog 321 #[.int .i64 p, .slice A n c, .slice B m d] w fun e w' => e = .returned (.int .i64 (dotL p xs ys)) ∧ w = w' := by
  have hxl := ha.lenI
  have hyl := hb.lenI
  have hsb : Hid (∀ j, j ≤ n → 0 ≤ (sumTo j fun i => xs.getD i 0 * ys.getD i 0) ∧ (sumTo j fun i => xs.getD i 0 * ys.getD i 0) ≤ 169 * (j : Int)) := Lib.hid (fun j hj => sumTo_169 (n := j) (f := fun i => xs.getD i 0 * ys.getD i 0) fun i hi => by
    show 0 ≤ xs.getD i 0 * ys.getD i 0 ∧ xs.getD i 0 * ys.getD i 0 ≤ 169
    have h1 : i < xs.length := by omega
    have h2 : i < ys.length := by omega
    rw [getD_of_lt 0 h1, getD_of_lt 0 h2]
    obtain ⟨a1, a2⟩ := hx _ (List.getElem_mem h1)
    obtain ⟨b1, b2⟩ := hy _ (List.getElem_mem h2)
    exact mul_small a1 (show xs[i] ≤ 13 by omega) b1 (show ys[i] ≤ 13 by omega))
  have Hx := Lib.hid hxl
  clear hxl hyl
  go_enter Tryz.func321, Tryz.ntmps321
  go_wp2
  go_loopw [7, 8, 9, 12] (fun s _ _ i wr => ∃ j : Nat, j ≤ n ∧ i = .int .i64 j ∧ s = .int .i64 (sumTo j fun i => xs.getD i 0 * ys.getD i 0) ∧ wr = w) (fun _ _ _ i _ => n - (intOf i).toNat)
  case atStart => exact ⟨0, by omega, rfl, rfl, rfl⟩
  case round =>
    obtain ⟨j, hj, rfl, rfl, rfl⟩ := hrel
    obtain ⟨b1, b2⟩ := hsb.out j hj
    have hsucc : Hid ((sumTo (j + 1) fun i => xs.getD i 0 * ys.getD i 0) = (sumTo j fun i => xs.getD i 0 * ys.getD i 0) + xs.getD j 0 * ys.getD j 0) := Lib.hid (sumTo_succ _ _)
    have hdot : Hid (j = n → dotL p xs ys = (sumTo j fun i => xs.getD i 0 * ys.getD i 0) % p) := Lib.hid (fun h => by unfold dotL; rw [Hx.out, h])
    obtain ⟨s, hs⟩ : ∃ s, s = sumTo j fun i => xs.getD i 0 * ys.getD i 0 := ⟨_, rfl⟩
    rw [← hs] at b1 b2 hsucc hdot ⊢
    clear hs
    by_cases hlt : j < n
    · obtain ⟨g, o, rfl, hxj, hcx⟩ := ha.int hlt
      obtain ⟨g2, o2, rfl, hyj, hcy⟩ := hb.int (show j < m by omega)
      obtain ⟨x1, x2⟩ := hx _ (List.getElem_mem hxj)
      obtain ⟨y1, y2⟩ := hy _ (List.getElem_mem hyj)
      obtain ⟨m1, m2⟩ := mul_small x1 (show xs[j] ≤ 13 by omega) y1 (show ys[j] ≤ 13 by omega)
      have HV : Hid ((sumTo (j + 1) fun i => xs.getD i 0 * ys.getD i 0) = s + xs[j] * ys[j]) := Lib.hid (by rw [hsucc.out, getD_of_lt 0 hxj, getD_of_lt 0 hyj])
      clear ha hb
      go_wp2
      go_roundw
      case rel => exact ⟨j + 1, by omega, by go_num, by rw [HV.out], trivial⟩
      case measure => simp [intOf]; omega
    · go_wp2_with fail
      refine (num_any p s _ (by omega) hp2 (by omega) (by omega)).mono ?_
      rintro e w' ⟨rfl, rfl⟩
      go_wp2
      go_ret
      exact ⟨ret_int (hdot.out (by omega)).symm, rfl⟩
end Go.Proofs.YtggigolkncckoaaGreat
namespace Go.Proofs.YtggigolkncckoaaGreat
open Go.RowKit
/-- A function of lists of n numbers is linear, but for multiples of P. -/
def LinF (P : Int) (n : Nat) (F : List Int → Int) : Prop := ∀ v : List Int, v.length = n → NumsL P v → F v % P = (sumTo n fun k => F (unitRow n k) * v.getD k 0) % P
section
variable {P : Int} {n : Nat} {F G : List Int → Int}
theorem LinF.congr (hp : 2 ≤ P) (h : LinF P n F) (he : ∀ v : List Int, v.length = n → NumsL P v → G v % P = F v % P) : LinF P n G := fun v hv hn => by
  rw [he v hv hn, h v hv hn]
  refine sumTo_mod P fun k _ => ?_
  rw [Int.mul_emod, ← he _ (unitRow_len n k) (unitRow_nums hp n k), ← Int.mul_emod]
theorem LinF.mul (h : LinF P n F) (c : Int) : LinF P n (fun v => c * F v) := fun v hv hn => by
  show c * F v % P = _
  rw [Int.mul_emod, h v hv hn, ← Int.mul_emod, ← sumTo_mul]
  refine sumTo_mod P fun k _ => ?_
  rw [Int.mul_assoc]
theorem LinF.add (h : LinF P n F) (h' : LinF P n G) : LinF P n (fun v => F v + G v) := fun v hv hn => by
  show (F v + G v) % P = _
  rw [Int.add_emod, h v hv hn, h' v hv hn, ← Int.add_emod, ← sumTo_add]
  refine sumTo_mod P fun k _ => ?_
  rw [Int.add_mul]
theorem LinF.zero : LinF P n (fun _ => 0) := fun v _ _ => by
  show (0 : Int) % P = _
  rw [sumTo_zero fun k _ => by simp]
theorem LinF.sum {H : Nat → List Int → Int} : ∀ (N : Nat), (∀ a, a < N → LinF P n (H a)) → LinF P n (fun v => sumTo N fun a => H a v)
  | 0, _ => LinF.zero
  | N + 1, h => (LinF.sum N fun a ha => h a (by omega)).add (h N (by omega))
end
/-- Where a vector's numbers lie in its multivector. -/
theorem vecTo_getD {n : Nat} (v : List Int) {b : Nat} (hb : b < pw n) : ∀ k, k ≤ n → (vecTo n v k).getD b 0 = sumTo k fun i => if b = 2 ^ i then v.getD i 0 else 0 := by
  intro k
  induction k with
  | zero => intro _; simp [vecTo, sumTo, List.getD_eq_getElem?_getD, hb]
  | succ k ih =>
    intro hk
    rw [vecTo_succ, sumTo_succ, List.getD_eq_getElem?_getD, List.getElem?_set]
    have hl : 2 ^ k < (vecTo n v k).length := by rw [vecTo_len]; exact two_lt (by omega)
    by_cases h : b = 2 ^ k
    · rw [if_pos h.symm, if_pos hl, if_pos h]
      have h0 : (sumTo k fun i => if b = 2 ^ i then v.getD i 0 else 0) = 0 := sumTo_zero fun i hi => by
        rw [if_neg]
        intro e
        have : 2 ^ i < 2 ^ k := Nat.pow_lt_pow_right (by omega) hi
        omega
      rw [h0]
      simp
    · rw [if_neg (fun e => h e.symm), if_neg h, ← ih (by omega), Int.add_zero, List.getD_eq_getElem?_getD]
theorem unitRow_getD {n k i : Nat} (hi : i < n) : (unitRow n k).getD i 0 = if k = i then 1 else 0 := by
  unfold unitRow
  rw [List.getD_eq_getElem?_getD, List.getElem?_set]
  by_cases h : k = i
  · rw [if_pos h, if_pos (by simp; omega), if_pos h]; rfl
  · rw [if_neg h, if_neg h, List.getElem?_replicate, if_pos hi]; rfl
theorem LinF.vec {P : Int} {n b : Nat} (hb : b < pw n) : LinF P n (fun v => (vecTo n v n).getD b 0) := fun v _ _ => by
  show (vecTo n v n).getD b 0 % P = _
  rw [vecTo_getD v hb n (Nat.le_refl _)]
  refine sumTo_mod P fun k hk => ?_
  show _ = (vecTo n (unitRow n k) n).getD b 0 * v.getD k 0 % P
  rw [vecTo_getD _ hb n (Nat.le_refl _)]
  congr 1
  rw [sumTo_one k hk fun i hi hne => by
    split
    · rw [unitRow_getD hi, if_neg (fun e => hne e.symm)]
    · rfl]
  rw [unitRow_getD hk, if_pos rfl]
  split
  · simp
  · simp
end Go.Proofs.YtggigolkncckoaaGreat
