/-
  LawFnOrthogonalOrders: part 3 of the texts that the proof needs. No condition.
-/
import Derived.Test.YtmkjdpnoloofjaaGreatR2
namespace Go.Proofs.YtmkjdpnoloofjaaGreat
open Go.RowKit
/-- A number with the sign of s. -/
def sgn (p : Int) (s : Nat) (c : Int) : Int := if s % 2 = 1 then (-c) % p else c
theorem sgn_bound {p : Int} {s : Nat} {c : Int} (hp : 2 ≤ p) (h1 : 0 ≤ c) (h2 : c < p) : 0 ≤ sgn p s c ∧ sgn p s c < p := by
 unfold sgn
 split
 · exact emod_small _ _ (by omega)
 · exact ⟨h1, h2⟩
theorem fac_sgn (p : Int) (sq : List Int) (a b : Nat) : fac p sq a b = sgn p (swaps a b sq.length) (common p sq a b sq.length) := rfl
theorem sgn_flip {p : Int} {s : Nat} {c : Int} (k : Nat) (_hp : 2 ≤ p) (h1 : 0 ≤ c) (h2 : c < p) (hk : k % 2 = 1) : (p - sgn p s c) % p = sgn p (s + k) c := by
 unfold sgn
 by_cases hs : s % 2 = 1
 · rw [if_pos hs, if_neg (by omega)]
   have : (p - -c % p) % p = (p - -c) % p := by rw [Int.sub_emod, Int.emod_emod, ← Int.sub_emod]
   rw [this]
   have : p - -c = c + p := by omega
   rw [this, Int.add_emod_right]
   exact Int.emod_eq_of_lt h1 h2
 · rw [if_neg hs, if_pos (by omega)]
   have : p - c = -c + p := by omega
   rw [this, Int.add_emod_right]
theorem sgn_same {p : Int} {s : Nat} {c : Int} (k : Nat) (hk : ¬ k % 2 = 1) : sgn p (s + k) c = sgn p s c := by
 unfold sgn
 have : (s + k) % 2 = s % 2 := by omega
 rw [this]
theorem neg_mod (x p : Int) : (-(x % p)) % p = (-x) % p := by
 rw [← Int.zero_sub, Int.sub_emod, Int.emod_emod, ← Int.sub_emod, Int.zero_sub]
theorem mod_mul (x q p : Int) : x % p * q % p = x * q % p := by
 rw [Int.mul_emod, Int.emod_emod, ← Int.mul_emod]
theorem sgn_mul (p : Int) (s : Nat) (c q : Int) : sgn p s c * q % p = sgn p s (c * q % p) := by
 unfold sgn
 split
 · rw [mod_mul, neg_mod, Int.neg_mul]
 · rfl
theorem and_bit0 {x k : Nat} (hk : k < 6) (hx : x < 64) : (bits BinOp.and IntKind.i64 ((x : Int) / 2 ^ k) 1 == 0) = !(bit x k == 1) := by
 rw [and_bit hk hx]
 have := bit_lt x k
 rcases (by omega : bit x k = 0 ∨ bit x k = 1) with h | h <;> simp [h]
theorem xor_up_all : ∀ k : Nat, k < 6 → ∀ x : Nat, x < 64 → bits BinOp.xor IntKind.i64 (x : Int) (wrap64 (2 ^ k)) = ((x ^^^ 2 ^ k : Nat) : Int) ∧ (x ^^^ 2 ^ k) < 64 ∧ (x ^^^ 2 ^ k) / 2 ^ (k + 1) = x / 2 ^ (k + 1) := by decide +kernel
theorem shr_nat (x k : Nat) : (x : Int) / 2 ^ k = ((x / 2 ^ k : Nat) : Int) := by simp
theorem up_div {x y k : Nat} (h : x / 2 ^ k = y / 2 ^ k) : x / 2 ^ (k + 1) = y / 2 ^ (k + 1) := by
 rw [Nat.pow_succ, ← Nat.div_div_eq_div_mul, ← Nat.div_div_eq_div_mul, h]
theorem par0 {n : Nat} (h : ((n : Int) % 2 == 1) = false) : ¬ n % 2 = 1 := by
 intro hh
 have : (n : Int) % 2 = 1 := by omega
 rw [this] at h; simp at h
theorem par1 {n : Nat} (h : ((n : Int) % 2 == 1) = true) : n % 2 = 1 := by have := beq_iff_eq.1 h; omega
set_option maxRecDepth 2000 in
set_option maxHeartbeats 1600000 in
set_option maxRecDepth 8000 in
theorem l04Blades_any (P : Int) (A : Option Addr) (n c : Nat) (sq : List Int) (a b : Nat) (w : World) (hp : 2 ≤ P) (hp2 : P ≤ 13) (hn : n ≤ 6) (ha : Rd w A n (ints sq)) (hs : NumsL P sq) (h1 : a < 64) (h2 : b < 64) :
    Calls Tryz.prog 210 #[.agg #[.int .i64 P, .slice A n c], .int .i64 a, .int .i64 b] w fun e w' => e = .returned (.int .i64 (fac P sq a b)) ∧ Below w.heap.size w w' := by
 have hxl : sq.length = n := by have := ha.1; rwa [ints_length] at this
 have Hx := Lib.hid hxl; clear hxl
 go_enter Tryz.func210, Tryz.ntmps210
 go_wp2
 have hk0 := Blk.new w 26 #[.int .i64 P, .slice A n c]
 have hB1 : Below w.heap.size w (w.alloc (.cells #[.int .i64 P, .slice A n c] 26)) := (Below.refl _ w).alloc (Nat.le_refl _) _
 obtain ⟨w1, hw1⟩ : ∃ W, W = w.alloc (.cells #[.int .i64 P, .slice A n c] 26) := ⟨_, rfl⟩
 rw [← hw1] at hk0 hB1 ⊢
 have ha1 := ha.below hB1
 clear ha hw1
 go_loopw [1, 7, 8] (fun av out i wr => ∃ (k x : Nat), k ≤ n ∧ x < 64 ∧ x / 2 ^ k = a / 2 ^ k ∧ i = .int .i64 k ∧ av = .int .i64 x ∧ out = .int .i64 (sgn P (swaps a b k) (common P sq a b k)) ∧ Below w1.heap.size w1 wr) (fun _ _ i _ => n - (intOf i).toNat)
 case atStart => exact ⟨0, a, by omega, h1, rfl, rfl, rfl, rfl, Below.refl _ _⟩
 case round =>
  obtain ⟨k, x, hk, hx64, hxa, rfl, rfl, rfl, hM⟩ := hrel
  have hkr := hk0.below hM hk0.lt
  obtain ⟨kc0, kc1⟩ := hkr.two
  have har := ha1.below hM
  obtain ⟨cb1, cb2⟩ := common_bound P sq a b hp k
  obtain ⟨sb1, sb2⟩ := sgn_bound (s := swaps a b k) hp cb1 cb2
  by_cases hlt : k < n
  · have hb0 := and_bit0 (k := k) (by omega) h2
    by_cases hb : bit b k = 1
    · simp only [hb, beq_self_eq_true, Bool.not_true] at hb0
      have hxa2 := up_div hxa
      have hbx : bit x k = bit a k := by unfold bit; rw [hxa]
      have ha0 : (bits BinOp.and IntKind.i64 ((x : Int) / 2 ^ k) 1 == 1) = (bit a k == 1) := by
       rw [and_bit (by omega) hx64, hbx]
       have := bit_lt a k
       rcases (by omega : bit a k = 0 ∨ bit a k = 1) with h | h <;> simp [h]
      have hv := Lib.hid (shr_nat x (k + 1))
      obtain ⟨hxo, hxo2, hxo3⟩ := xor_up_all k (by omega) x hx64
      have hp6 : pc (a / 2 ^ (k + 1)) ≤ 6 := pc_le 6 _ (Nat.lt_of_le_of_lt (Nat.div_le_self _ _) (by omega))
      have hxl : x / 2 ^ (k + 1) < 64 := Nat.lt_of_le_of_lt (Nat.div_le_self _ _) hx64
      have HXL := Lib.hid hxl; clear hxl
      have HX2 := Lib.hid hxa2; have HXO := Lib.hid hxo; have HXO2 := Lib.hid hxo2; have HXO3 := Lib.hid hxo3; have HB := Lib.hid hb
      clear hxa2 hxo hxo2 hxo3 hbx hxa hb
      obtain ⟨g, o, rfl, hx, hcx⟩ := har.int hlt
      obtain ⟨sx1, sx2⟩ := hs _ (List.getElem_mem hx)
      have HG : Hid (sq.getD k 0 = sq[k]) := Lib.hid (by rw [List.getD_eq_getElem?_getD, List.getElem?_eq_getElem hx]; rfl)
      clear har ha1 hk0
      cases hpar : ((pc (a / 2 ^ (k + 1)) : Int) % 2 == 1)
      · have hpar' := Lib.hid (par0 hpar)
        cases hba : (bit a k == 1)
        · rw [hba] at ha0
          have hba' : Hid (¬ bit a k = 1) := Lib.hid (by simpa using hba)
          clear hba
          go_wp2_with (go_at_call 249; rw [hv.out]; refine (l04Grade_any _ _ HXL.out).mono ?_; rintro e w' ⟨rfl, rfl⟩; rw [HX2.out])
          go_roundw
          case rel => exact ⟨k + 1, x ^^^ 2 ^ k, by omega, HXO2.out, HXO3.out.trans HX2.out, by go_num, by rw [HXO.out], by simp only [swaps, if_pos HB.out, common, if_neg (fun hh : bit b k = 1 ∧ bit a k = 1 => hba'.out hh.2)]; rw [sgn_same _ hpar'.out], hM⟩
          case measure => simp [intOf]; omega
        · rw [hba] at ha0
          have hba' := Lib.hid (beq_iff_eq.1 hba)
          clear hba
          obtain ⟨m1, m2⟩ := mul_small sb1 (show sgn P (swaps a b k) (common P sq a b k) ≤ 13 by omega) sx1 (show sq[k] ≤ 13 by omega)
          go_wp2_with (go_at_call 249; rw [hv.out]; refine (l04Grade_any _ _ HXL.out).mono ?_; rintro e w' ⟨rfl, rfl⟩; rw [HX2.out])
          go_quiet (fail)
          go_wp2
          go_roundw
          case rel => exact ⟨k + 1, x ^^^ 2 ^ k, by omega, HXO2.out, HXO3.out.trans HX2.out, by go_num, by rw [HXO.out], by simp only [swaps, if_pos HB.out, common, if_pos (And.intro HB.out hba'.out)]; rw [sgn_same _ hpar'.out, HG.out, sgn_mul], below_drewN hM _⟩
          case measure => simp [intOf]; omega
      · have hpar' := par1 hpar
        have hfl := sgn_flip (s := swaps a b k) _ hp cb1 cb2 hpar'
        have HF := Lib.hid hfl
        obtain ⟨fb1, fb2⟩ := sgn_bound (s := swaps a b k + pc (a / 2 ^ (k + 1))) hp cb1 cb2
        clear hfl hpar'
        cases hba : (bit a k == 1)
        · rw [hba] at ha0
          have hba' : Hid (¬ bit a k = 1) := Lib.hid (by simpa using hba)
          clear hba
          go_wp2_with (go_at_call 249; rw [hv.out]; refine (l04Grade_any _ _ HXL.out).mono ?_; rintro e w' ⟨rfl, rfl⟩; rw [HX2.out])
          go_roundw
          case rel => exact ⟨k + 1, x ^^^ 2 ^ k, by omega, HXO2.out, HXO3.out.trans HX2.out, by go_num, by rw [HXO.out], by simp only [swaps, if_pos HB.out, common, if_neg (fun hh : bit b k = 1 ∧ bit a k = 1 => hba'.out hh.2)]; rw [HF.out], hM⟩
          case measure => simp [intOf]; omega
        · rw [hba] at ha0
          have hba' := Lib.hid (beq_iff_eq.1 hba)
          clear hba
          rw [← HF.out] at fb1 fb2
          obtain ⟨m1, m2⟩ := mul_small fb1 (show (P - sgn P (swaps a b k) (common P sq a b k)) % P ≤ 13 by omega) sx1 (show sq[k] ≤ 13 by omega)
          go_wp2_with (go_at_call 249; rw [hv.out]; refine (l04Grade_any _ _ HXL.out).mono ?_; rintro e w' ⟨rfl, rfl⟩; rw [HX2.out])
          go_quiet (fail)
          go_wp2
          go_roundw
          case rel => exact ⟨k + 1, x ^^^ 2 ^ k, by omega, HXO2.out, HXO3.out.trans HX2.out, by go_num, by rw [HXO.out], by simp only [swaps, if_pos HB.out, common, if_pos (And.intro HB.out hba'.out)]; rw [show -sgn P (swaps a b k) (common P sq a b k) % P = (P - sgn P (swaps a b k) (common P sq a b k)) % P by rw [show P - sgn P (swaps a b k) (common P sq a b k) = -sgn P (swaps a b k) (common P sq a b k) + P by omega, Int.add_emod_right], wrap_in _ (by omega) (by omega), Int.tmod_eq_emod_of_nonneg m1, HF.out, HG.out, sgn_mul], below_drewN hM _⟩
          case measure => simp [intOf]; omega
    · simp only [(by simpa using hb : (bit b k == 1) = false), Bool.not_false] at hb0
      have hb' := Lib.hid hb
      go_wp2
      go_roundw
      case rel => exact ⟨k + 1, x, by omega, hx64, up_div hxa, by go_num, rfl, by simp only [swaps, if_neg hb'.out, common, if_neg (fun hh : bit b k = 1 ∧ bit a k = 1 => hb'.out hh.1)]; rfl, hM⟩
      case measure => simp [intOf]; omega
  · obtain rfl : k = n := by omega
    have hBB : Below w.heap.size w wr := hB1.trans (hM.mono hB1.size)
    clear har ha1
    go_wp2
    go_ret
    exact ⟨ret_int (by rw [fac_sgn, Hx.out]), hBB⟩
theorem mod_mul_add (v a f p : Int) : (v + a % p * f) % p = (v + a * f) % p := by
 rw [Int.add_emod, mod_mul, ← Int.add_emod]
set_option maxRecDepth 2000 in
set_option maxHeartbeats 3200000 in
set_option maxRecDepth 8000 in
theorem l04Times_any (P : Int) (A : Option Addr) (n c : Nat) (sq : List Int) (X : Option Addr) (cx : Nat) (xs : List Int) (Y : Option Addr) (cy : Nat) (ys : List Int) (w : World) (hp : 2 ≤ P) (hp2 : P ≤ 13) (hn : n ≤ 6)
    (ha : Rd w A n (ints sq)) (hs : NumsL P sq) (hx : Rd w X (pw n) (ints xs)) (hxs : NumsL P xs) (hy : Rd w Y (pw n) (ints ys)) (hys : NumsL P ys) :
    Calls Tryz.prog 107 #[.agg #[.int .i64 P, .slice A n c], .slice X (pw n) cx, .slice Y (pw n) cy] w fun e w' => ∃ A' c', e = .returned (.slice A' (pw n) c') ∧ MkI w w' A' (pw n) c' (prodL P sq (fun _ _ => true) xs ys) := by
 have hxl : xs.length = pw n := by have := hx.1; rwa [ints_length] at this
 have hyl : ys.length = pw n := by have := hy.1; rwa [ints_length] at this
 have Hx := Lib.hid hxl; clear hxl
 have Hy := Lib.hid hyl; clear hyl
 have hpw : pw n ≤ 64 := pw_le hn
 have hmk := make_i (P := Tryz.prog) 24 2 Tryz.underlying24 info_i (pw n) (by omega)
 have hB0 : Below w.heap.size w (w.alloc (.cells #[.int .i64 P, .slice A n c] 26)) := (Below.refl _ w).alloc (Nat.le_refl _) _
 have hM := Mk.made (E := 2) (n := pw n) (z := .int .i64 0) hB0 (by simp only [maxLen]; omega)
 rw [ints_replicate] at hM
 have hk0 : Blk ((w.alloc (.cells #[.int .i64 P, .slice A n c] 26)).alloc (.cells (madeCells #[.int .i64 0] (pw n)) 2)) w.heap.size 26 #[.int .i64 P, .slice A n c] := (Blk.new w _ _).alloc _
 go_enter Tryz.func107, Tryz.ntmps107
 go_wp2
 clear hmk
 obtain ⟨w1, hw1⟩ : ∃ W, W = (w.alloc (.cells #[.int .i64 P, .slice A n c] 26)).alloc (.cells (madeCells #[.int .i64 0] (pw n)) 2) := ⟨_, rfl⟩
 rw [← hw1] at hM hk0 ⊢
 rw [World.size_alloc] at hM
 clear hB0 hw1
 obtain ⟨g, hg⟩ : ∃ g, g = w.heap.size + 1 := ⟨_, rfl⟩
 rw [← hg] at hM ⊢
 have hg1 : w.heap.size + 1 ≤ g := by omega
 clear hg
 go_loopw [8, 9] (fun i _ wr => ∃ k : Nat, k ≤ pw n ∧ i = .int .i64 k ∧ MkI w wr (some ⟨g, 0, none⟩) (pw n) (pw n) (addRows P sq (fun _ _ => true) xs ys (List.replicate (pw n) 0) k) ∧ Blk wr w.heap.size 26 #[.int .i64 P, .slice A n c]) (fun i _ _ => pw n - (intOf i).toNat)
 case atStart => exact ⟨0, by omega, rfl, by simpa [addRows] using hM, hk0⟩
 case round =>
  obtain ⟨k, hk, rfl, hM2, hk2⟩ := hrel
  clear hM hk0
  by_cases hlt : k < pw n
  · obtain ⟨gx, ox, hX, hxk, hcw⟩ := hx.int hlt
    subst hX
    obtain ⟨x1, x2⟩ := hxs _ (List.getElem_mem hxk)
    have hxn : Hid (xs.getD k 0 = xs[k]) := Lib.hid (by rw [List.getD_eq_getElem?_getD, List.getElem?_eq_getElem hxk]; rfl)
    have hgx := World.block_lt_of_cell? _ _ hcw
    have HGX : Hid (g ≠ gx) := Lib.hid (by simp at hgx; omega)
    have HCW := Lib.hid hcw
    clear hcw hgx
    have hR0 : MkI w wr (some ⟨g, 0, none⟩) (pw n) (pw n) (addRow P sq (fun _ _ => true) xs ys k (addRows P sq (fun _ _ => true) xs ys (List.replicate (pw n) 0) k) 0) := by simpa [addRow] using hM2
    have hN0 : NumsL P (addRows P sq (fun _ _ => true) xs ys (List.replicate (pw n) 0) k) := addRows_nums sq _ xs ys k (by omega) (NumsL.replicate (by omega) _)
    obtain ⟨L0, hL0⟩ : ∃ L, L = addRows P sq (fun _ _ => true) xs ys (List.replicate (pw n) 0) k := ⟨_, rfl⟩
    rw [← hL0] at hR0 hN0
    have HL0 := Lib.hid hL0
    clear hM2 hL0
    go_wp2
    go_loopw [9] (fun i wr => ∃ j : Nat, j ≤ pw n ∧ i = .int .i64 j ∧ MkI w wr (some ⟨g, 0, none⟩) (pw n) (pw n) (addRow P sq (fun _ _ => true) xs ys k L0 j) ∧ Blk wr w.heap.size 26 #[.int .i64 P, .slice A n c]) (fun i _ => pw n - (intOf i).toNat)
    case atStart => exact ⟨0, by omega, rfl, hR0, hk2⟩
    case round =>
     clear hR0 hk2
     obtain ⟨j, hj, rfl, hM3, hk3⟩ := hrel
     have hcx : wr.cell? ⟨gx, ox + k, none⟩ = some (.int .i64 xs[k]) := (hM3.b.cell (World.block_lt_of_cell? _ _ HCW.out)).trans HCW.out
     by_cases hlj : j < pw n
     · obtain ⟨gy, oy, hY, hyj, hcyw⟩ := hy.int hlj
       subst hY
       have hgy := World.block_lt_of_cell? _ _ hcyw
       have HGY : Hid (g ≠ gy) := Lib.hid (by simp at hgy; omega)
       have hcy : wr.cell? ⟨gy, oy + j, none⟩ = some (.int .i64 ys[j]) := (hM3.b.cell (World.block_lt_of_cell? _ _ hcyw)).trans hcyw
       clear hcyw hgy
       obtain ⟨y1, y2⟩ := hys _ (List.getElem_mem hyj)
       have hyn : Hid (ys.getD j 0 = ys[j]) := Lib.hid (by rw [List.getD_eq_getElem?_getD, List.getElem?_eq_getElem hyj]; rfl)
       cases h0 : (xs[k] != 0)
       · have hz : xs.getD k 0 = 0 := by rw [hxn.out]; simpa using h0
         have HM := Lib.hid hM3
         clear hM3
         go_wp2
         go_roundw
         case rel => exact ⟨k + 1, by omega, by go_num, by rw [addRows_succ, addRow_zero _ _ _ _ _ _ _ _ hz, ← HL0.out]; have := HM.out; rwa [addRow_zero _ _ _ _ _ _ _ _ hz] at this, hk3⟩
         case measure => simp [intOf]; omega
       · cases h1 : (ys[j] != 0)
         · have hz : Hid (ys.getD j 0 = 0) := Lib.hid (by rw [hyn.out]; simpa using h1)
           go_wp2
           go_roundw
           case rel => exact ⟨j + 1, by omega, by go_num, by rw [addRow_succ]; unfold addPair; rw [if_neg (fun hh => hh.2.1 hz.out)]; exact hM3, hk3⟩
           case measure => simp [intOf]; omega
         · have hidx : k ^^^ j < pw n := xor_lt hlt hlj
           have hxo := xor_all k (by omega) j (by omega)
           have hvb := (addRow_nums sq (fun _ _ => true) xs ys k j (by omega) hN0).getD (by omega) (k ^^^ j)
           obtain ⟨hoc, hof⟩ := mkI_at hM3.drew hidx
           obtain ⟨v0, hv0⟩ : ∃ v, v = (addRow P sq (fun _ _ => true) xs ys k L0 j).getD (k ^^^ j) 0 := ⟨_, rfl⟩
           rw [← hv0] at hvb hoc
           obtain ⟨v1, v2⟩ := hvb
           have HV0 := Lib.hid hv0
           have hAt : Hid (∀ w', MkI w w' (some ⟨g, 0, none⟩) (pw n) (pw n) (addRow P sq (fun _ _ => true) xs ys k L0 j) → w'.cell? ⟨g, k ^^^ j, none⟩ = some (.int .i64 v0) ∧ w'.frozen? ⟨g, k ^^^ j, none⟩ = false) :=
            Lib.hid (fun w' h => by rw [HV0.out]; exact mkI_at h hidx)
           clear hv0
           obtain ⟨f1, f2⟩ := fac_bound P sq k j hp
           obtain ⟨m1, m2⟩ := mul_small x1 (show xs[k] ≤ 13 by omega) y1 (show ys[j] ≤ 13 by omega)
           obtain ⟨r1, r2⟩ := emod_small (xs[k] * ys[j]) P (by omega)
           obtain ⟨m3, m4⟩ := mul_small r1 (show xs[k] * ys[j] % P ≤ 13 by omega) f1 (show fac P sq k j ≤ 13 by omega)
           have HNE : Hid (g ≠ w.heap.size ∧ g ≠ w.heap.size ∧ g ≠ gx ∧ g ≠ gy) := Lib.hid ⟨by omega, by omega, HGX.out, HGY.out⟩
           have hF : Hid (∀ w', MkI w w' (some ⟨g, 0, none⟩) (pw n) (pw n) (addRow P sq (fun _ _ => true) xs ys k L0 j) → Calls Tryz.prog 210 #[.agg #[.int .i64 P, .slice A n c], .int .i64 k, .int .i64 j] w' fun e w'' => e = .returned (.int .i64 (fac P sq k j)) ∧ Below w'.heap.size w' w'') :=
            Lib.hid (fun w' h => l04Blades_any P A n c sq k j w' hp hp2 hn (ha.below h.b) hs (by omega) (by omega))
           have HPair : Hid (xs.getD k 0 ≠ 0 ∧ ys.getD j 0 ≠ 0 ∧ true = true) := Lib.hid ⟨by rw [hxn.out]; simpa using h0, by rw [hyn.out]; simpa using h1, rfl⟩
           have W1 := i64_fit (xs[k] * ys[j]) (by omega) (by omega)
           have W2 := i64_fit (xs[k] * ys[j] % P * fac P sq k j) (by omega) (by omega)
           have W3 := i64_fit (v0 + xs[k] * ys[j] % P * fac P sq k j) (by omega) (by omega)
           have T1 := Int.tmod_eq_emod_of_nonneg (b := P) m1
           have T2 := Int.tmod_eq_emod_of_nonneg (a := (v0 + xs[k] * ys[j] % P * fac P sq k j)) (b := P) (by omega)
           obtain ⟨kc0, kc1⟩ := hk3.two
           have hoc2 : wr.cell? ⟨g, k ^^^ j, none⟩ = some (.int .i64 v0) := hoc
           have hof2 : wr.frozen? ⟨g, k ^^^ j, none⟩ = false := hof
           have hP0 : (P == 0) = false := by simp; omega
           have hP1 : (P == -1) = false := by simp; omega
           have hP2 : ¬ P = 0 := by omega
           have hO := hM3.drew
           have hk4 := hk3.drew
           go_wp2
           have i1 : (0 : Int) ≤ ((k ^^^ j : Nat) : Int) := by omega
           have i2 : ((k ^^^ j : Nat) : Int) < ((pw n : Nat) : Int) := by omega
           have i3 : (0 : Int) ≤ (k : Int) := by omega
           have i4 : (k : Int) < ((pw n : Nat) : Int) := by omega
           have i5 : (0 : Int) ≤ (j : Int) := by omega
           have i6 : (j : Int) < ((pw n : Nat) : Int) := by omega
           refine wp_obs 32 [[],[],[],[1,2],[],[],[],[5,6],[4,5,6,7],[4,5,6,7,8],[],[],[10,11],[10,11,12],[],[],[14,15],[14,15,16],[10,11,12,13,14,15,16,17],[],[19],[10,11,12,13,14,15,16,17,18,19,20],[],[],[],[22,23,24],[10,11,12,13,14,15,16,17,18,19,20,21,22,23,24,25],[4,5,6,7,8,9,10,11,12,13,14,15,16,17,18,19,20,21,22,23,24,25,26],[],[28],[4,5,6,7,8,9,10,11,12,13,14,15,16,17,18,19,20,21,22,23,24,25,26,27,28,29],[0,1,2,3],[0,1,2,3,4,5,6,7,8,9,10,11,12,13,14,15,16,17,18,19,20,21,22,23,24,25,26,27,28,29,30,31]] [VIs (.slice (some ⟨g, 0, none⟩) (pw n) (pw n)), VIs (.int .i64 (k)), VIs (.int .i64 (j)), VIs (.int .i64 ((k ^^^ j : Nat))), VIs (.slice (some ⟨g, 0, none⟩) (pw n) (pw n)), VIs (.int .i64 (k)), VIs (.int .i64 (j)), VIs (.int .i64 ((k ^^^ j : Nat))), VIs (.pointer (some ⟨g, k ^^^ j, none⟩)), VIs (.int .i64 (v0)), VIs (.slice (some ⟨gx, ox, none⟩) (pw n) cx), VIs (.int .i64 (k)), VIs (.pointer (some ⟨gx, ox + k, none⟩)), VIs (.int .i64 (xs[k])), VIs (.slice (some ⟨gy, oy, none⟩) (pw n) cy), VIs (.int .i64 (j)), VIs (.pointer (some ⟨gy, oy + j, none⟩)), VIs (.int .i64 (ys[j])), VIs (.int .i64 (xs[k] * ys[j])), VIs (.pointer (some ⟨w.heap.size, 0, none⟩)), VIs (.int .i64 (P)), VIs (.int .i64 (xs[k] * ys[j] % P)), VIs (.agg #[.int .i64 P, .slice A n c]), VIs (.int .i64 (k)), VIs (.int .i64 (j)), VIs (.int .i64 (fac P sq k j)), VIs (.int .i64 (xs[k] * ys[j] % P * fac P sq k j)), VIs (.int .i64 (v0 + xs[k] * ys[j] % P * fac P sq k j)), VIs (.pointer (some ⟨w.heap.size, 0, none⟩)), VIs (.int .i64 (P)), VIs (.int .i64 ((v0 + xs[k] * ys[j] % P * fac P sq k j) % P)), VIs (.pointer (some ⟨g, k ^^^ j, none⟩))] (fun w' => Blk w' w.heap.size 26 #[.int .i64 P, .slice A n c] ∧ MkI w w' (some ⟨g, 0, none⟩) (pw n) (pw n) (addRow P sq (fun _ _ => true) xs ys k L0 j) ∧ w'.cell? ⟨gx, ox + k, none⟩ = some (.int .i64 xs[k]) ∧ w'.cell? ⟨gy, oy + j, none⟩ = some (.int .i64 ys[j])) (by kernel_rfl) (by kernel_rfl) (fun _ _ h hb => ⟨h.1.below hb h.1.lt, h.2.1.below hb, (hb.cell (World.block_lt_of_cell? _ _ h.2.2.1)).trans h.2.2.1, (hb.cell (World.block_lt_of_cell? _ _ h.2.2.2)).trans h.2.2.2⟩) (⟨hk4, hO, hcx, hcy⟩) (fun x => ?_)
           refine zS (fun w' hS hV K hK => ?_) ?_
           · obtain ⟨q0, q1⟩ := hS.1.two; obtain ⟨hoc, hof⟩ := hAt.out _ hS.2.1; have q2 := hS.2.2.1; have q3 := hS.2.2.2; go_simp; exact zO hK
           refine zS (fun w' hS hV K hK => ?_) ?_
           · obtain ⟨q0, q1⟩ := hS.1.two; obtain ⟨hoc, hof⟩ := hAt.out _ hS.2.1; have q2 := hS.2.2.1; have q3 := hS.2.2.2; go_simp; exact zO hK
           refine zS (fun w' hS hV K hK => ?_) ?_
           · obtain ⟨q0, q1⟩ := hS.1.two; obtain ⟨hoc, hof⟩ := hAt.out _ hS.2.1; have q2 := hS.2.2.1; have q3 := hS.2.2.2; go_simp; exact zO hK
           refine zS (fun w' hS hV K hK => ?_) ?_
           · simp only [zL, zM, zH, zI, VIs, VAny] at hV; obtain ⟨e1, e2⟩ := hV; obtain ⟨q0, q1⟩ := hS.1.two; obtain ⟨hoc, hof⟩ := hAt.out _ hS.2.1; have q2 := hS.2.2.1; have q3 := hS.2.2.2; go_simp; exact zO hK
           refine zS (fun w' hS hV K hK => ?_) ?_
           · obtain ⟨q0, q1⟩ := hS.1.two; obtain ⟨hoc, hof⟩ := hAt.out _ hS.2.1; have q2 := hS.2.2.1; have q3 := hS.2.2.2; go_simp; exact zO hK
           refine zS (fun w' hS hV K hK => ?_) ?_
           · obtain ⟨q0, q1⟩ := hS.1.two; obtain ⟨hoc, hof⟩ := hAt.out _ hS.2.1; have q2 := hS.2.2.1; have q3 := hS.2.2.2; go_simp; exact zO hK
           refine zS (fun w' hS hV K hK => ?_) ?_
           · obtain ⟨q0, q1⟩ := hS.1.two; obtain ⟨hoc, hof⟩ := hAt.out _ hS.2.1; have q2 := hS.2.2.1; have q3 := hS.2.2.2; go_simp; exact zO hK
           refine zS (fun w' hS hV K hK => ?_) ?_
           · simp only [zL, zM, zH, zI, VIs, VAny] at hV; obtain ⟨e5, e6⟩ := hV; obtain ⟨q0, q1⟩ := hS.1.two; obtain ⟨hoc, hof⟩ := hAt.out _ hS.2.1; have q2 := hS.2.2.1; have q3 := hS.2.2.2; go_simp; exact zO hK
           refine zS (fun w' hS hV K hK => ?_) ?_
           · simp only [zL, zM, zH, zI, VIs, VAny] at hV; obtain ⟨e4, e5, e6, e7⟩ := hV; obtain ⟨q0, q1⟩ := hS.1.two; obtain ⟨hoc, hof⟩ := hAt.out _ hS.2.1; have q2 := hS.2.2.1; have q3 := hS.2.2.2; go_simp; exact zO hK
           refine zS (fun w' hS hV K hK => ?_) ?_
           · simp only [zL, zM, zH, zI, VIs, VAny] at hV; obtain ⟨e4, e5, e6, e7, e8⟩ := hV; obtain ⟨q0, q1⟩ := hS.1.two; obtain ⟨hoc, hof⟩ := hAt.out _ hS.2.1; have q2 := hS.2.2.1; have q3 := hS.2.2.2; go_simp; exact zO hK
           refine zS (fun w' hS hV K hK => ?_) ?_
           · obtain ⟨q0, q1⟩ := hS.1.two; obtain ⟨hoc, hof⟩ := hAt.out _ hS.2.1; have q2 := hS.2.2.1; have q3 := hS.2.2.2; go_simp; exact zO hK
           refine zS (fun w' hS hV K hK => ?_) ?_
           · obtain ⟨q0, q1⟩ := hS.1.two; obtain ⟨hoc, hof⟩ := hAt.out _ hS.2.1; have q2 := hS.2.2.1; have q3 := hS.2.2.2; go_simp; exact zO hK
           refine zS (fun w' hS hV K hK => ?_) ?_
           · simp only [zL, zM, zH, zI, VIs, VAny] at hV; obtain ⟨e10, e11⟩ := hV; obtain ⟨q0, q1⟩ := hS.1.two; obtain ⟨hoc, hof⟩ := hAt.out _ hS.2.1; have q2 := hS.2.2.1; have q3 := hS.2.2.2; go_simp; exact zO hK
           refine zS (fun w' hS hV K hK => ?_) ?_
           · simp only [zL, zM, zH, zI, VIs, VAny] at hV; obtain ⟨e10, e11, e12⟩ := hV; obtain ⟨q0, q1⟩ := hS.1.two; obtain ⟨hoc, hof⟩ := hAt.out _ hS.2.1; have q2 := hS.2.2.1; have q3 := hS.2.2.2; go_simp; exact zO hK
           refine zS (fun w' hS hV K hK => ?_) ?_
           · obtain ⟨q0, q1⟩ := hS.1.two; obtain ⟨hoc, hof⟩ := hAt.out _ hS.2.1; have q2 := hS.2.2.1; have q3 := hS.2.2.2; go_simp; exact zO hK
           refine zS (fun w' hS hV K hK => ?_) ?_
           · obtain ⟨q0, q1⟩ := hS.1.two; obtain ⟨hoc, hof⟩ := hAt.out _ hS.2.1; have q2 := hS.2.2.1; have q3 := hS.2.2.2; go_simp; exact zO hK
           refine zS (fun w' hS hV K hK => ?_) ?_
           · simp only [zL, zM, zH, zI, VIs, VAny] at hV; obtain ⟨e14, e15⟩ := hV; obtain ⟨q0, q1⟩ := hS.1.two; obtain ⟨hoc, hof⟩ := hAt.out _ hS.2.1; have q2 := hS.2.2.1; have q3 := hS.2.2.2; go_simp; exact zO hK
           refine zS (fun w' hS hV K hK => ?_) ?_
           · simp only [zL, zM, zH, zI, VIs, VAny] at hV; obtain ⟨e14, e15, e16⟩ := hV; obtain ⟨q0, q1⟩ := hS.1.two; obtain ⟨hoc, hof⟩ := hAt.out _ hS.2.1; have q2 := hS.2.2.1; have q3 := hS.2.2.2; go_simp; exact zO hK
           refine zS (fun w' hS hV K hK => ?_) ?_
           · simp only [zL, zM, zH, zI, VIs, VAny] at hV; obtain ⟨e10, e11, e12, e13, e14, e15, e16, e17⟩ := hV; obtain ⟨q0, q1⟩ := hS.1.two; obtain ⟨hoc, hof⟩ := hAt.out _ hS.2.1; have q2 := hS.2.2.1; have q3 := hS.2.2.2; go_simp; exact zO hK
           refine zS (fun w' hS hV K hK => ?_) ?_
           · obtain ⟨q0, q1⟩ := hS.1.two; obtain ⟨hoc, hof⟩ := hAt.out _ hS.2.1; have q2 := hS.2.2.1; have q3 := hS.2.2.2; go_simp; exact zO hK
           refine zS (fun w' hS hV K hK => ?_) ?_
           · simp only [List.mem_cons, zJ, or_false, forall_eq, zH, zI, VIs, VAny] at hV; obtain e19 := hV; obtain ⟨q0, q1⟩ := hS.1.two; obtain ⟨hoc, hof⟩ := hAt.out _ hS.2.1; have q2 := hS.2.2.1; have q3 := hS.2.2.2; go_simp; exact zO hK
           refine zS (fun w' hS hV K hK => ?_) ?_
           · simp only [zL, zM, zH, zI, VIs, VAny] at hV; obtain ⟨e10, e11, e12, e13, e14, e15, e16, e17, e18, e19, e20⟩ := hV; obtain ⟨q0, q1⟩ := hS.1.two; obtain ⟨hoc, hof⟩ := hAt.out _ hS.2.1; have q2 := hS.2.2.1; have q3 := hS.2.2.2; go_simp; exact zO hK
           refine zS (fun w' hS hV K hK => ?_) ?_
           · obtain ⟨q0, q1⟩ := hS.1.two; obtain ⟨hoc, hof⟩ := hAt.out _ hS.2.1; have q2 := hS.2.2.1; have q3 := hS.2.2.2; go_simp; exact zO hK
           refine zS (fun w' hS hV K hK => ?_) ?_
           · obtain ⟨q0, q1⟩ := hS.1.two; obtain ⟨hoc, hof⟩ := hAt.out _ hS.2.1; have q2 := hS.2.2.1; have q3 := hS.2.2.2; go_simp; exact zO hK
           refine zS (fun w' hS hV K hK => ?_) ?_
           · obtain ⟨q0, q1⟩ := hS.1.two; obtain ⟨hoc, hof⟩ := hAt.out _ hS.2.1; have q2 := hS.2.2.1; have q3 := hS.2.2.2; go_simp; exact zO hK
           refine zS (fun w' hS hV K hK => ?_) ?_
           · simp only [zL, zM, zH, zI, VIs, VAny] at hV; obtain ⟨e22, e23, e24⟩ := hV; obtain ⟨q0, q1⟩ := hS.1.two; obtain ⟨hoc, hof⟩ := hAt.out _ hS.2.1; have q2 := hS.2.2.1; have q3 := hS.2.2.2; go_simp; refine (hF.out _ hS.2.1).mono ?_; rintro e v1 ⟨rfl, hb⟩; exact hK.out _ _ _ rfl rfl rfl hb
           refine zS (fun w' hS hV K hK => ?_) ?_
           · simp only [zL, zM, zH, zI, VIs, VAny] at hV; obtain ⟨e10, e11, e12, e13, e14, e15, e16, e17, e18, e19, e20, e21, e22, e23, e24, e25⟩ := hV; obtain ⟨q0, q1⟩ := hS.1.two; obtain ⟨hoc, hof⟩ := hAt.out _ hS.2.1; have q2 := hS.2.2.1; have q3 := hS.2.2.2; go_simp; exact zO hK
           refine zS (fun w' hS hV K hK => ?_) ?_
           · simp only [zL, zM, zH, zI, VIs, VAny] at hV; obtain ⟨e4, e5, e6, e7, e8, e9, e10, e11, e12, e13, e14, e15, e16, e17, e18, e19, e20, e21, e22, e23, e24, e25, e26⟩ := hV; obtain ⟨q0, q1⟩ := hS.1.two; obtain ⟨hoc, hof⟩ := hAt.out _ hS.2.1; have q2 := hS.2.2.1; have q3 := hS.2.2.2; go_simp; exact zO hK
           refine zS (fun w' hS hV K hK => ?_) ?_
           · obtain ⟨q0, q1⟩ := hS.1.two; obtain ⟨hoc, hof⟩ := hAt.out _ hS.2.1; have q2 := hS.2.2.1; have q3 := hS.2.2.2; go_simp; exact zO hK
           refine zS (fun w' hS hV K hK => ?_) ?_
           · simp only [List.mem_cons, zJ, or_false, forall_eq, zH, zI, VIs, VAny] at hV; obtain e28 := hV; obtain ⟨q0, q1⟩ := hS.1.two; obtain ⟨hoc, hof⟩ := hAt.out _ hS.2.1; have q2 := hS.2.2.1; have q3 := hS.2.2.2; go_simp; exact zO hK
           refine zS (fun w' hS hV K hK => ?_) ?_
           · simp only [zL, zM, zH, zI, VIs, VAny] at hV; obtain ⟨e4, e5, e6, e7, e8, e9, e10, e11, e12, e13, e14, e15, e16, e17, e18, e19, e20, e21, e22, e23, e24, e25, e26, e27, e28, e29⟩ := hV; obtain ⟨q0, q1⟩ := hS.1.two; obtain ⟨hoc, hof⟩ := hAt.out _ hS.2.1; have q2 := hS.2.2.1; have q3 := hS.2.2.2; go_simp; exact zO hK
           refine zS (fun w' hS hV K hK => ?_) ?_
           · simp only [zL, zM, zH, zI, VIs, VAny] at hV; obtain ⟨e0, e1, e2, e3⟩ := hV; obtain ⟨q0, q1⟩ := hS.1.two; obtain ⟨hoc, hof⟩ := hAt.out _ hS.2.1; have q2 := hS.2.2.1; have q3 := hS.2.2.2; go_simp; exact zO hK
           refine fun w' hS hV => ?_
           have hV := fun i hi => hV i (List.mem_range.1 hi)
           simp only [List.range, List.range.loop, zL, zM, zH, zI, VIs, VAny] at hV
           obtain ⟨e0, e1, e2, e3, e4, e5, e6, e7, e8, e9, e10, e11, e12, e13, e14, e15, e16, e17, e18, e19, e20, e21, e22, e23, e24, e25, e26, e27, e28, e29, e30, e31⟩ := hV
           simp only [e0, e1, e2, e3, e4, e5, e6, e7, e8, e9, e10, e11, e12, e13, e14, e15, e16, e17, e18, e19, e20, e21, e22, e23, e24, e25, e26, e27, e28, e29, e30, e31]
           clear e0 e1 e2 e3 e4 e5 e6 e7 e8 e9 e10 e11 e12 e13 e14 e15 e16 e17 e18 e19 e20 e21 e22 e23 e24 e25 e26 e27 e28 e29 e30 e31
           obtain ⟨hk4, hO, s3, s4⟩ := hS
           obtain ⟨hoc, hof⟩ := hAt.out _ hO
           refine any_one (j := 32) (by kernel_rfl) (Eq.trans (by simp only [zA, zB, zC]; exact rfl) rfl) (fun K hK => ?_)
           go_simp
           refine hK.out _ _ (wpAny_done (by kernel_rfl) ?_ _)
           have hset := (hO.set (k ^^^ j) (.int .i64 ((v0 + xs[k] * ys[j] % P * fac P sq k j) % P))).1
           rw [ints_set] at hset
           have hkn := hk4.far (p := ⟨g, k ^^^ j, none⟩) HNE.out.1.symm (.int .i64 ((v0 + xs[k] * ys[j] % P * fac P sq k j) % P))
           clear W1 W2 W3 T1 T2 hoc hof hO hk4
           go_wp2
           go_roundw
           case rel => exact ⟨j + 1, by omega, by go_num, by rw [addRow_succ]; unfold addPair; rw [if_pos ⟨HPair.out.1, HPair.out.2.1, rfl⟩, ← HV0.out, hxn.out, hyn.out, ← mod_mul_add v0 (xs[k] * ys[j]) (fac P sq k j) P]; exact hset, hkn⟩
           case measure => simp [intOf]; omega
     · obtain rfl : j = pw n := by omega
       have HM := Lib.hid hM3
       clear hM3
       go_wp2
       go_roundw
       case rel => exact ⟨k + 1, by omega, by go_num, by rw [addRows_succ, Hy.out, ← HL0.out]; exact HM.out, hk3⟩
       case measure => simp [intOf]; omega
  · obtain rfl : k = pw n := by omega
    go_wp2
    go_ret
    exact ⟨_, _, rfl, by unfold prodL; rw [Hx.out]; exact hM2⟩
set_option maxHeartbeats 400000 in
set_option maxRecDepth 8000 in
theorem l04Zero_any (P : Int) (A : Option Addr) (n c : Nat) (w : World) (hn : n ≤ 10) :
    Calls Tryz.prog 138 #[.agg #[.int .i64 P, .slice A n c]] w fun e w' => ∃ A' c', e = .returned (.slice A' (pw n) c') ∧ MkI w w' A' (pw n) c' (List.replicate (pw n) 0) := by
 have hp : pw n ≤ 1024 := pw_le hn
 have hmk := make_i (P := Tryz.prog) 24 2 Tryz.underlying24 info_i (pw n) (by omega)
 go_enter Tryz.func138, Tryz.ntmps138
 go_wp2_with (go_at_call 236; refine (l04Size_any _ _ _ _ _ (by omega)).mono ?_; rintro e w1 ⟨rfl, hb1⟩)
 go_ret
 have hb2 := ((zG.alloc (Nat.le_refl _) _).trans (hb1.mono (by simp)))
 exact ⟨_, _, rfl, by have := Mk.made (E := 2) (n := pw n) (z := .int .i64 0) hb2 (by simp only [maxLen]; omega); rwa [ints_replicate] at this⟩
set_option maxHeartbeats 400000 in
set_option maxRecDepth 8000 in
theorem l04One_any (P : Int) (A : Option Addr) (n c : Nat) (w : World) (hn : n ≤ 10) :
    Calls Tryz.prog 163 #[.agg #[.int .i64 P, .slice A n c]] w fun e w' => ∃ A' c', e = .returned (.slice A' (pw n) c') ∧ MkI w w' A' (pw n) c' (bladeL n 0) := by
 have hB0 : Below w.heap.size w (w.alloc (.cells #[.int .i64 P, .slice A n c] 26)) := (Below.refl _ w).alloc (Nat.le_refl _) _
 have hm := pw_pos n
 go_enter Tryz.func163, Tryz.ntmps163
 go_wp2_with (go_at_call 138; refine (l04Zero_any _ _ _ _ _ hn).mono ?_; rintro e w1 ⟨G, c1, rfl, hM1⟩; have hM := hM1.after hB0; rcases hM.2.form with ⟨_, h0⟩ | ⟨g, rfl, hg, _⟩; (omega); obtain ⟨u1, hc1⟩ := hM.2.cellI hm; have hf1 := hM.2.frozen_ 0; have hset := (hM.set 0 (.int .i64 1)).1; rw [ints_set] at hset; have HS := Lib.hid hset; clear hM hM1 hset)
 go_ret
 exact ⟨_, _, rfl, HS.out⟩
set_option maxHeartbeats 800000 in
set_option maxRecDepth 8000 in
theorem l04Vector_any (P : Int) (A : Option Addr) (n c : Nat) (X : Option Addr) (cx : Nat) (v : List Int) (w : World) (hn : n ≤ 10) (hx : Rd w X n (ints v)) :
    Calls Tryz.prog 170 #[.agg #[.int .i64 P, .slice A n c], .slice X n cx] w fun e w' => ∃ A' c', e = .returned (.slice A' (pw n) c') ∧ MkI w w' A' (pw n) c' (vecTo n v n) := by
 have hB0 : Below w.heap.size w (w.alloc (.cells #[.int .i64 P, .slice A n c] 26)) := (Below.refl _ w).alloc (Nat.le_refl _) _
 go_enter Tryz.func170, Tryz.ntmps170
 go_wp2_with (go_at_call 138; refine (l04Zero_any _ _ _ _ _ hn).mono ?_; rintro e w1 ⟨G, c1, rfl, hM1⟩)
 have hM := hM1.after hB0
 have hpos := pw_pos n
 rcases hM.2.form with ⟨_, h0⟩ | ⟨g, rfl, hg, _⟩
 · omega
 clear hM1 hB0 hg hpos
 go_loopw [6] (fun i wr => ∃ k : Nat, k ≤ n ∧ i = .int .i64 k ∧ MkI w wr (some ⟨g, 0, none⟩) (pw n) c1 (vecTo n v k)) (fun i _ => n - (intOf i).toNat)
 case atStart => exact ⟨0, by omega, rfl, by simpa [vecTo] using hM⟩
 case round =>
  obtain ⟨k, hk, rfl, hM2⟩ := hrel
  clear hM
  by_cases hlt : k < n
  · obtain ⟨gx, ox, rfl, hxk, hcx⟩ := (hx.below hM2.b).int hlt
    have hvn : v.getD k 0 = v[k] := by rw [List.getD_eq_getElem?_getD, List.getElem?_eq_getElem hxk]; rfl
    have h2 := two_lt hlt
    have hset := (hM2.set (2 ^ k) (.int .i64 v[k])).1
    rw [ints_set, ← hvn, ← vecTo_succ, hvn] at hset
    have hw : wrap64 (2 ^ k) = ((2 ^ k : Nat) : Int) := wrap_pw k (by omega)
    obtain ⟨q, hq⟩ : ∃ q : Nat, q = 2 ^ k := ⟨_, rfl⟩
    rw [← hq] at h2 hset hw
    obtain ⟨hoc, hof⟩ := mkI_at hM2 h2
    have HS := Lib.hid hset
    clear hq
    clear hvn hset hM2
    go_wp2
    go_roundw
    case rel => exact ⟨k + 1, by omega, by go_num, HS.out⟩
    case measure => simp [intOf]; omega
  · obtain rfl : k = n := by omega
    go_wp2
    go_ret
    exact ⟨_, _, rfl, hM2⟩
theorem Blk.newAt {w : World} {t : TypeId} {cs : Array Value} {g : Nat} (hg : g = w.heap.size) : Blk (w.alloc (.cells cs t)) g t cs := hg ▸ Blk.new w t cs
theorem codeM_spec2 {P : Int} {sq : List Int} {ms : List (List Int)} (h : codeM P sq ms = 0) : isP P = true ∧ 2 < P ∧ P ≤ 13 ∧ 1 ≤ sq.length ∧ sq.length ≤ 6 ∧ NumsL P sq ∧ ∀ ys ∈ ms, ys.length = pw sq.length ∧ NumsL P ys := by
 obtain ⟨h1, h2⟩ := codeM_sp h
 obtain ⟨hp, hd1, hd2, hnum⟩ := isSp_dim h1
 have := isP_ge hp
 refine ⟨hp, by omega, by omega, hd1, hd2, nums_numsL hnum, fun ys hy => ?_⟩
 have hm := h2 ys hy
 unfold isMu at hm
 simp only [Bool.and_eq_true, beq_iff_eq] at hm
 exact ⟨by have := hm.1; omega, nums_numsL hm.2⟩
/-- The places 1, 2, 4, .. of a list. -/
def partL (n : Nat) (x : List Int) : List Int := (List.range n).map fun i => x.getD (2 ^ i) 0
theorem partL_len (n : Nat) (x : List Int) : (partL n x).length = n := by simp [partL]
theorem partL_nums {p : Int} (hp : 0 < p) (n : Nat) (x : List Int) (h : NumsL p x) : NumsL p (partL n x) := fun y hy => by
 obtain ⟨i, _, rfl⟩ := List.mem_map.1 hy
 exact h.getD hp _
theorem partL_succ (k : Nat) (x : List Int) : partL (k + 1) x = partL k x ++ [x.getD (2 ^ k) 0] := by simp [partL, List.range_succ]
set_option maxHeartbeats 800000 in
set_option maxRecDepth 8000 in
theorem vectorPart_any (P : Int) (A : Option Addr) (n c : Nat) (X : Option Addr) (cx : Nat) (x : List Int) (w : World) (hn : n ≤ 10) (hx : Rd w X (pw n) (ints x)) :
    Calls Tryz.prog 172 #[.agg #[.int .i64 P, .slice A n c], .slice X (pw n) cx] w fun e w' => ∃ A' c', e = .returned (.slice A' n c') ∧ MkI w w' A' n c' (partL n x) := by
 have hB0 : Below w.heap.size w (w.alloc (.cells #[.int .i64 P, .slice A n c] 26)) := (Below.refl _ w).alloc (Nat.le_refl _) _
 have hM0 := Mk.lit (E := 2) hB0 #[] (by simp)
 go_enter Tryz.func172, Tryz.ntmps172
 go_wp2_with (go_at_call 79; refine (dim_any _ _ _ _ _).mono ?_; rintro e w1 ⟨rfl, hb1⟩)
 have hM : MkI w w1 (some ⟨w.heap.size + 1, 0, none⟩) 0 0 [] := by have := hM0.below hb1; simpa [MkI, ints] using this
 clear hM0 hb1 hB0
 go_loopw [5, 6, 10] (fun out _ i wr => ∃ (k : Nat) (A' : Option Addr) (c' : Nat), k ≤ n ∧ i = .int .i64 k ∧ out = .slice A' k c' ∧ MkI w wr A' k c' (partL k x)) (fun _ _ i _ => n - (intOf i).toNat)
 case atStart => exact ⟨0, _, _, by omega, rfl, rfl, by simpa [partL] using hM⟩
 case round =>
  obtain ⟨k, A', c', hk, rfl, rfl, hM2⟩ := hrel
  clear hM
  by_cases hlt : k < n
  · have h2 := two_lt hlt
    have hw : wrap64 (2 ^ k) = ((2 ^ k : Nat) : Int) := wrap_pw k (by omega)
    obtain ⟨q, hq⟩ : ∃ q : Nat, q = 2 ^ k := ⟨_, rfl⟩
    rw [← hq] at h2 hw
    obtain ⟨gx, ox, rfl, hxk, hcx⟩ := (hx.below hM2.b).int h2
    have HV : Hid (partL (k + 1) x = partL k x ++ [x[q]]) := Lib.hid (by rw [partL_succ, ← hq, List.getD_eq_getElem?_getD, List.getElem?_eq_getElem hxk]; rfl)
    have HM := Lib.hid hM2
    clear hq hM2
    go_wp2_with (at_builtin; refine wpList_app1 w _ 24 2 _ _ Tryz.underlying24 info_i rfl (by omega) rfl _ _ rfl A' k c' _ _ HM.out (by omega) rfl rfl rfl ?_; intro A2 c2 w2 hM3 _ _)
    go_roundw
    case rel => exact ⟨k + 1, A2, c2, by omega, by go_num, rfl, by rw [HV.out]; simpa [MkI, ints] using hM3⟩
    case measure => simp [intOf]; omega
  · obtain rfl : k = n := by omega
    go_wp2
    go_ret
    exact ⟨_, _, rfl, hM2⟩
set_option maxHeartbeats 800000 in
set_option maxRecDepth 8000 in
theorem l04List_any (P : Int) (A : Option Addr) (n c : Nat) (X : Option Addr) (cx : Nat) (x : List Int) (w : World) (hn : n ≤ 10) (hx : Rd w X (pw n) (ints x)) :
    Calls Tryz.prog 176 #[.agg #[.int .i64 P, .slice A n c], .slice X (pw n) cx] w fun e w' => ∃ A' c', e = .returned (.slice A' n c') ∧ MkI w w' A' n c' (partL n x) := by
 have hB0 : Below w.heap.size w (w.alloc (.cells #[.int .i64 P, .slice A n c] 26)) := (Below.refl _ w).alloc (Nat.le_refl _) _
 have hk0 : Blk (w.alloc (.cells #[.int .i64 P, .slice A n c] 26)) w.heap.size 26 #[.int .i64 P, .slice A n c] := Blk.new w _ _
 have hM0 := Mk.lit (E := 2) hB0 #[] (by simp)
 have hM : MkI w ((w.alloc (.cells #[.int .i64 P, .slice A n c] 26)).alloc (.cells #[] 2)) (some ⟨w.heap.size + 1, 0, none⟩) 0 0 [] := by simpa [MkI, ints] using hM0
 have hk1 := hk0.alloc (.cells #[] 2)
 go_enter Tryz.func176, Tryz.ntmps176
 go_wp2
 clear hM0 hB0 hk0
 obtain ⟨w1, hw1⟩ : ∃ W, W = (w.alloc (.cells #[.int .i64 P, .slice A n c] 26)).alloc (.cells #[] 2) := ⟨_, rfl⟩
 rw [← hw1] at hM hk1 ⊢
 clear hw1
 go_loopw [5, 6] (fun out i wr => ∃ (k : Nat) (A' : Option Addr) (c' : Nat), k ≤ n ∧ i = .int .i64 k ∧ out = .slice A' k c' ∧ MkI w wr A' k c' (partL k x) ∧ Blk wr w.heap.size 26 #[.int .i64 P, .slice A n c]) (fun _ i _ => n - (intOf i).toNat)
 case atStart => exact ⟨0, _, _, by omega, rfl, rfl, by simpa [partL] using hM, hk1⟩
 case round =>
  obtain ⟨k, A', c', hk, rfl, rfl, hM2, hk2⟩ := hrel
  clear hM hk1
  obtain ⟨kc0, kc1⟩ := hk2.two
  by_cases hlt : k < n
  · have h2 := two_lt hlt
    have hw : wrap64 (2 ^ k) = ((2 ^ k : Nat) : Int) := wrap_pw k (by omega)
    obtain ⟨q, hq⟩ : ∃ q : Nat, q = 2 ^ k := ⟨_, rfl⟩
    rw [← hq] at h2 hw
    obtain ⟨gx, ox, rfl, hxk, hcx⟩ := (hx.below hM2.b).int h2
    have HV : Hid (partL (k + 1) x = partL k x ++ [x[q]]) := Lib.hid (by rw [partL_succ, ← hq, List.getD_eq_getElem?_getD, List.getElem?_eq_getElem hxk]; rfl)
    have HM := Lib.hid hM2
    have HNE := Lib.hid (Own.ne_blk hM2.2 hk2 (by decide))
    clear hq hM2
    go_wp2_with (at_builtin; refine wpList_app1 w _ 24 2 _ _ Tryz.underlying24 info_i rfl (by omega) rfl _ _ rfl A' k c' _ _ HM.out (by omega) rfl rfl rfl ?_; intro A2 c2 w2 hM3 hgr _)
    have hk3 := hk2.grown hgr HNE.out
    go_roundw
    case rel => exact ⟨k + 1, A2, c2, by omega, by go_num, rfl, by rw [HV.out]; simpa [MkI, ints] using hM3, hk3⟩
    case measure => simp [intOf]; omega
  · obtain rfl : k = n := by omega
    go_wp2
    go_ret
    exact ⟨_, _, rfl, hM2⟩
theorem sumTo_169 {n : Nat} {f : Nat → Int} (h : ∀ i, i < n → 0 ≤ f i ∧ f i ≤ 169) : 0 ≤ sumTo n f ∧ sumTo n f ≤ 169 * (n : Int) := by
 induction n with
 | zero => simp [sumTo]
 | succ n ih =>
  obtain ⟨a, b⟩ := ih fun i hi => h i (by omega)
  obtain ⟨c, d⟩ := h n (by omega)
  rw [sumTo_succ]
  omega
set_option maxHeartbeats 800000 in
set_option maxRecDepth 8000 in
theorem dot_any (p : Int) (A : Option Addr) (n c : Nat) (B : Option Addr) (m d : Nat) (xs ys : List Int) (w : World) (hp : 2 ≤ p) (hp2 : p ≤ 13) (hn : n ≤ 65536) (hnm : n ≤ m) (ha : Rd w A n (ints xs)) (hx : NumsL p xs) (hb : Rd w B m (ints ys)) (hy : NumsL p ys) :
    Calls Tryz.prog 196 #[.int .i64 p, .slice A n c, .slice B m d] w fun e w' => e = .returned (.int .i64 (dotL p xs ys)) ∧ w = w' := by
 have hxl := ha.lenI
 have hyl := hb.lenI
 have hsb : Hid (∀ j, j ≤ n → 0 ≤ (sumTo j fun i => xs.getD i 0 * ys.getD i 0) ∧ (sumTo j fun i => xs.getD i 0 * ys.getD i 0) ≤ 169 * (j : Int)) := Lib.hid (fun j hj => sumTo_169 (n := j) (f := fun i => xs.getD i 0 * ys.getD i 0) fun i hi => by
  show 0 ≤ xs.getD i 0 * ys.getD i 0 ∧ xs.getD i 0 * ys.getD i 0 ≤ 169
  have h1 : i < xs.length := by omega
  have h2 : i < ys.length := by omega
  rw [getD_of_lt 0 h1, getD_of_lt 0 h2]
  obtain ⟨a1, a2⟩ := hx _ (List.getElem_mem h1)
  obtain ⟨b1, b2⟩ := hy _ (List.getElem_mem h2)
  exact mul_small a1 (show xs[i] ≤ 13 by omega) b1 (show ys[i] ≤ 13 by omega))
 have Hx := Lib.hid hxl
 clear hxl hyl
 go_enter Tryz.func196, Tryz.ntmps196
 go_wp2
 go_loopw [7, 8, 9, 12] (fun s _ _ i wr => ∃ j : Nat, j ≤ n ∧ i = .int .i64 j ∧ s = .int .i64 (sumTo j fun i => xs.getD i 0 * ys.getD i 0) ∧ wr = w) (fun _ _ _ i _ => n - (intOf i).toNat)
 case atStart => exact ⟨0, by omega, rfl, rfl, rfl⟩
 case round =>
  obtain ⟨j, hj, rfl, rfl, rfl⟩ := hrel
  obtain ⟨b1, b2⟩ := hsb.out j hj
  have hsucc : Hid ((sumTo (j + 1) fun i => xs.getD i 0 * ys.getD i 0) = (sumTo j fun i => xs.getD i 0 * ys.getD i 0) + xs.getD j 0 * ys.getD j 0) := Lib.hid (sumTo_succ _ _)
  have hdot : Hid (j = n → dotL p xs ys = (sumTo j fun i => xs.getD i 0 * ys.getD i 0) % p) := Lib.hid (fun h => by unfold dotL; rw [Hx.out, h])
  obtain ⟨s, hs⟩ : ∃ s, s = sumTo j fun i => xs.getD i 0 * ys.getD i 0 := ⟨_, rfl⟩
  rw [← hs] at b1 b2 hsucc hdot ⊢
  clear hs
  by_cases hlt : j < n
  · obtain ⟨g, o, rfl, hxj, hcx⟩ := ha.int hlt
    obtain ⟨g2, o2, rfl, hyj, hcy⟩ := hb.int (show j < m by omega)
    obtain ⟨x1, x2⟩ := hx _ (List.getElem_mem hxj)
    obtain ⟨y1, y2⟩ := hy _ (List.getElem_mem hyj)
    obtain ⟨m1, m2⟩ := mul_small x1 (show xs[j] ≤ 13 by omega) y1 (show ys[j] ≤ 13 by omega)
    have HV : Hid ((sumTo (j + 1) fun i => xs.getD i 0 * ys.getD i 0) = s + xs[j] * ys[j]) := Lib.hid (by rw [hsucc.out, getD_of_lt 0 hxj, getD_of_lt 0 hyj])
    clear ha hb
    go_wp2
    go_roundw
    case rel => exact ⟨j + 1, by omega, by go_num, by rw [HV.out], trivial⟩
    case measure => simp [intOf]; omega
  · go_wp2_with fail
    refine (num_any p s _ (by omega) hp2 (by omega) (by omega)).mono ?_
    rintro e w' ⟨rfl, rfl⟩
    go_wp2
    go_ret
    exact ⟨ret_int (hdot.out (by omega)).symm, rfl⟩
set_option maxHeartbeats 800000 in
set_option maxRecDepth 8000 in
theorem apply_any (p : Int) (A : Option Addr) (n c : Nat) (M : List (List Int)) (B : Option Addr) (m d : Nat) (v : List Int) (w : World) (hp : 2 ≤ p) (hp2 : p ≤ 13) (hn : n ≤ 65536) (hm : m ≤ 65536) (ha : RdII w A n M) (hM : Tab p m M) (hb : Rd w B m (ints v)) (hv : NumsL p v) :
    Calls Tryz.prog 90 #[.int .i64 p, .slice A n c, .slice B m d] w fun e w' => ∃ A' c', e = .returned (.slice A' n c') ∧ MkI w w' A' n c' (applyL p M v) := by
 have HL := Lib.hid ha.len
 have HT := Lib.hid hM
 have hM0 := Mk.lit (E := 2) (Below.refl w.heap.size w) #[] (by simp)
 clear hM
 go_enter Tryz.func90, Tryz.ntmps90
 go_wp2
 go_loopw [7, 9, 13] (fun out _ i wr => ∃ (j : Nat) (A' : Option Addr) (c' : Nat), j ≤ n ∧ i = .int .i64 j ∧ out = .slice A' j c' ∧ MkI w wr A' j c' (tab j fun i => dotL p (M.getD i []) v)) (fun _ _ i _ => n - (intOf i).toNat)
 case atStart => exact ⟨0, _, _, by omega, rfl, rfl, by simpa [MkI, ints, tab] using hM0⟩
 case round =>
  obtain ⟨j, A', c', hj, rfl, rfl, hM⟩ := hrel
  clear hM0
  by_cases hlt : j < n
  · obtain ⟨g, o, rfl, hxj, A1, c1, hcx, hr1, _⟩ := (ha.below hM.b).at_ hlt
    have HRow := Lib.hid (HT.out M[j] (List.getElem_mem hxj))
    have hle : M[j].length ≤ m := by rw [HRow.out.1]; exact Nat.le_refl _
    have hle2 : M[j].length ≤ 65536 := by omega
    have HV : Hid ((tab (j + 1) fun i => dotL p (M.getD i []) v) = (tab j fun i => dotL p (M.getD i []) v) ++ [dotL p M[j] v]) := Lib.hid (by rw [tab_succ, getD_of_lt [] hxj])
    have hdot := fun w' (hb' : Below wr.heap.size wr w') => dot_any p A1 M[j].length c1 B m d M[j] v w' hp hp2 hle2 hle (hr1.below hb') HRow.out.2 (hb.below (hM.b.trans (hb'.mono hM.b.size))) hv
    have HM := Lib.hid hM
    clear ha hM
    go_wp2_with (first
     | (go_at_call 196; refine (hdot _ zG).mono ?_; rintro e w' ⟨rfl, rfl⟩)
     | (at_builtin; refine wpList_app1 w _ 24 2 _ _ Tryz.underlying24 info_i rfl (by omega) rfl _ _ rfl A' j c' _ _ HM.out (by omega) rfl rfl rfl ?_; intro A2 c2 w2 hM2 _ _))
    go_roundw
    case rel => exact ⟨j + 1, A2, c2, by omega, by go_num, rfl, by rw [HV.out]; simpa [MkI, ints] using hM2⟩
    case measure => simp [intOf]; omega
  · go_wp2
    go_ret
    obtain rfl : j = n := by omega
    exact ⟨_, _, rfl, by unfold applyL; rw [HL.out]; exact hM⟩
section
variable {P : Int} {n : Nat} {F G : List Int → Int}
end
/-- Where a vector's numbers lie in its multivector. -/
theorem vecTo_getD {n : Nat} (v : List Int) {b : Nat} (hb : b < pw n) : ∀ k, k ≤ n → (vecTo n v k).getD b 0 = sumTo k fun i => if b = 2 ^ i then v.getD i 0 else 0 := by
 intro k
 induction k with
 | zero => intro _; simp [vecTo, sumTo, List.getD_eq_getElem?_getD, hb]
 | succ k ih =>
  intro hk
  rw [vecTo_succ, sumTo_succ, List.getD_eq_getElem?_getD, List.getElem?_set]
  have hl : 2 ^ k < (vecTo n v k).length := by rw [vecTo_len]; exact two_lt (by omega)
  by_cases h : b = 2 ^ k
  · rw [if_pos h.symm, if_pos hl, if_pos h]
    have h0 : (sumTo k fun i => if b = 2 ^ i then v.getD i 0 else 0) = 0 := sumTo_zero fun i hi => by
     rw [if_neg]
     intro e
     have : 2 ^ i < 2 ^ k := Nat.pow_lt_pow_right (by omega) hi
     omega
    rw [h0]
    simp
  · rw [if_neg (fun e => h e.symm), if_neg h, ← ih (by omega), Int.add_zero, List.getD_eq_getElem?_getD]
theorem unitRow_getD {n k i : Nat} (hi : i < n) : (unitRow n k).getD i 0 = if k = i then 1 else 0 := by
 unfold unitRow
 rw [List.getD_eq_getElem?_getD, List.getElem?_set]
 by_cases h : k = i
 · rw [if_pos h, if_pos (by simp; omega), if_pos h]; rfl
 · rw [if_neg h, if_neg h, List.getElem?_replicate, if_pos hi]; rfl
end Go.Proofs.YtmkjdpnoloofjaaGreat
namespace Go.Proofs.YtmkjdpnoloofjaaGreat
theorem bit_eq (a i : Nat) : bit a i = (a.testBit i).toNat := by
 unfold bit
 rw [Nat.testBit_eq_decide_div_mod_eq]
 rcases Nat.mod_two_eq_zero_or_one (a / 2 ^ i) with h | h <;> rw [h] <;> rfl
theorem bit_le (a i : Nat) : bit a i < 2 := by unfold bit; exact Nat.mod_lt _ (by decide)
theorem bit_xor (a b i : Nat) : bit (a ^^^ b) i = (bit a i + bit b i) % 2 := by
 rw [bit_eq, bit_eq, bit_eq, Nat.testBit_xor]
 cases a.testBit i <;> cases b.testBit i <;> rfl
/-- The number of the first k bits. -/
def pcn (a : Nat) : Nat → Nat
 | 0 => 0
 | k + 1 => pcn a k + bit a k
theorem bit_half (a i : Nat) : bit (a / 2) i = bit a (i + 1) := by
 unfold bit
 rw [Nat.div_div_eq_div_mul, Nat.pow_succ, Nat.mul_comm]
theorem pcn_half (a : Nat) : ∀ k, pcn a (k + 1) = a % 2 + pcn (a / 2) k := by
 intro k
 induction k with
 | zero => simp [pcn, bit]
 | succ k ih =>
  rw [pcn, ih, pcn, bit_half, Nat.add_assoc]
theorem pc_pcn : ∀ (k a : Nat), a < 2 ^ k → pc a = pcn a k := by
 intro k
 induction k with
 | zero =>
  intro a h
  obtain rfl : a = 0 := by omega
  rw [pc_zero]; rfl
 | succ k ih =>
  intro a h
  rw [pc_rec, pcn_half, ih _ (by rw [Nat.pow_succ] at h; omega)]
theorem pcn_xor (a b : Nat) : ∀ k, pcn (a ^^^ b) k % 2 = (pcn a k + pcn b k) % 2 := by
 intro k
 induction k with
 | zero => rfl
 | succ k ih =>
  simp only [pcn]
  rw [bit_xor]
  omega
theorem pc_xor (a b : Nat) : pc (a ^^^ b) % 2 = (pc a + pc b) % 2 := by
 obtain ⟨k, ha, hb⟩ : ∃ k, a < 2 ^ k ∧ b < 2 ^ k :=
  ⟨a + b, Nat.lt_of_le_of_lt (Nat.le_add_right a b) Nat.lt_two_pow_self, Nat.lt_of_le_of_lt (Nat.le_add_left b a) Nat.lt_two_pow_self⟩
 rw [pc_pcn k _ (Nat.xor_lt_two_pow ha hb), pc_pcn k _ ha, pc_pcn k _ hb]
 exact pcn_xor a b k
theorem xor_div (a b k : Nat) : (a ^^^ b) / 2 ^ k = (a / 2 ^ k) ^^^ (b / 2 ^ k) := by
 rw [← Nat.shiftRight_eq_div_pow, ← Nat.shiftRight_eq_div_pow, ← Nat.shiftRight_eq_div_pow]
 exact Nat.shiftRight_xor_distrib
theorem swaps_left (a c b : Nat) : ∀ n, swaps (a ^^^ c) b n % 2 = (swaps a b n + swaps c b n) % 2 := by
 intro n
 induction n with
 | zero => rfl
 | succ n ih =>
  simp only [swaps]
  by_cases h : bit b n = 1
  · simp only [if_pos h]
    have := pc_xor (a / 2 ^ (n + 1)) (c / 2 ^ (n + 1))
    rw [xor_div]
    omega
  · simp only [if_neg h]; omega
theorem swaps_right (a b c : Nat) : ∀ n, swaps a (b ^^^ c) n % 2 = (swaps a b n + swaps a c n) % 2 := by
 intro n
 induction n with
 | zero => rfl
 | succ n ih =>
  simp only [swaps]
  rw [bit_xor]
  have h1 := bit_le b n
  have h2 := bit_le c n
  rcases (show bit b n = 0 ∨ bit b n = 1 by omega) with e1 | e1 <;> rcases (show bit c n = 0 ∨ bit c n = 1 by omega) with e2 | e2 <;> simp [e1, e2] <;> omega
/-- 1 or -1: the sign of a number of exchanges. -/
def sg (k : Nat) : Int := if k % 2 = 1 then -1 else 1
theorem sg_add (k l : Nat) : sg (k + l) = sg k * sg l := by
 unfold sg
 rcases Nat.mod_two_eq_zero_or_one k with h | h <;> rcases Nat.mod_two_eq_zero_or_one l with h' | h' <;> simp [Nat.add_mod, h, h']
theorem sg_congr {k l : Nat} (h : k % 2 = l % 2) : sg k = sg l := by unfold sg; rw [h]
/-- The product of the first i squares that both masks have, as an integer. -/
def comZ (sq : List Int) (a b : Nat) : Nat → Int
 | 0 => 1
 | i + 1 => comZ sq a b i * (if bit b i = 1 ∧ bit a i = 1 then sq.getD i 0 else 1)
theorem common_comZ (p : Int) (sq : List Int) (a b : Nat) : ∀ i, common p sq a b i % p = comZ sq a b i % p := by
 intro i
 induction i with
 | zero => rfl
 | succ i ih =>
  simp only [common, comZ]
  split
  · rw [Int.emod_emod_of_dvd _ (Int.dvd_refl p), Int.mul_emod, ih, ← Int.mul_emod]
  · rw [Int.mul_one, ih]
theorem comZ_symm (sq : List Int) (a b : Nat) : ∀ i, comZ sq a b i = comZ sq b a i := by
 intro i
 induction i with
 | zero => rfl
 | succ i ih => simp only [comZ]; rw [ih]; congr 1; simp only [And.comm]
theorem comZ_cocycle (sq : List Int) (a b c : Nat) : ∀ i, comZ sq a b i * comZ sq (a ^^^ b) c i = comZ sq b c i * comZ sq a (b ^^^ c) i := by
 intro i
 induction i with
 | zero => rfl
 | succ i ih =>
  simp only [comZ]
  rw [bit_xor, bit_xor]
  have key : ∀ X Y Z W s t u v : Int, X * Y = Z * W → s * t = u * v → (X * s) * (Y * t) = (Z * u) * (W * v) := fun X Y Z W s t u v h1 h2 => by
   rw [show (X * s) * (Y * t) = (X * Y) * (s * t) by rw [Int.mul_assoc, Int.mul_left_comm s, ← Int.mul_assoc], h1, h2]
   rw [Int.mul_assoc, Int.mul_left_comm W, ← Int.mul_assoc]
  refine key _ _ _ _ _ _ _ _ ih ?_
  have h1 := bit_le a i
  have h2 := bit_le b i
  have h3 := bit_le c i
  rcases (show bit a i = 0 ∨ bit a i = 1 by omega) with e1 | e1 <;> rcases (show bit b i = 0 ∨ bit b i = 1 by omega) with e2 | e2 <;> rcases (show bit c i = 0 ∨ bit c i = 1 by omega) with e3 | e3 <;> simp [e1, e2, e3]
/-- The number by which the product of two blades is that of their different bits, as an integer. -/
def facZ (sq : List Int) (a b : Nat) : Int := sg (swaps a b sq.length) * comZ sq a b sq.length
theorem fac_facZ (p : Int) (sq : List Int) (a b : Nat) : fac p sq a b % p = facZ sq a b % p := by
 unfold fac facZ sg
 split
 · rw [Int.emod_emod_of_dvd _ (Int.dvd_refl p), Int.neg_mul, Int.one_mul, ← Int.zero_sub, ← Int.zero_sub, Int.sub_emod, common_comZ, ← Int.sub_emod]
 · rw [Int.one_mul, common_comZ]
theorem facZ_cocycle (sq : List Int) (a b c : Nat) : facZ sq a b * facZ sq (a ^^^ b) c = facZ sq b c * facZ sq a (b ^^^ c) := by
 unfold facZ
 have hs : sg (swaps a b sq.length) * sg (swaps (a ^^^ b) c sq.length) = sg (swaps b c sq.length) * sg (swaps a (b ^^^ c) sq.length) := by
  rw [← sg_add, ← sg_add]
  apply sg_congr
  have h1 := swaps_left a b c sq.length
  have h2 := swaps_right a b c sq.length
  omega
 have hc := comZ_cocycle sq a b c sq.length
 have key : ∀ X Y Z W s t u v : Int, X * Y = Z * W → s * t = u * v → (X * s) * (Y * t) = (Z * u) * (W * v) := fun X Y Z W s t u v h1 h2 => by
  rw [show (X * s) * (Y * t) = (X * Y) * (s * t) by rw [Int.mul_assoc, Int.mul_left_comm s, ← Int.mul_assoc], h1, h2]
  rw [Int.mul_assoc, Int.mul_left_comm W, ← Int.mul_assoc]
 exact key _ _ _ _ _ _ _ _ hs hc
theorem xor_self_left (a b : Nat) : a ^^^ (a ^^^ b) = b := by rw [← Nat.xor_assoc, Nat.xor_self, Nat.zero_xor]
theorem xor_self_right (a b : Nat) : (b ^^^ a) ^^^ a = b := by rw [Nat.xor_assoc, Nat.xor_self, Nat.xor_zero]
theorem sumTo_xor {n : Nat} (f : Nat → Int) {c : Nat} (hc : c < pw n) : sumTo (pw n) f = sumTo (pw n) fun a => f (a ^^^ c) := by
 have h : ∀ b, b < pw n → f b = sumTo (pw n) fun a => if a ^^^ c = b then f b else 0 := fun b hb => by
  rw [sumTo_one (b ^^^ c) (xor_lt hb hc) fun i _ hne => if_neg fun e => hne (by rw [← e, xor_self_right]), if_pos (xor_self_right c b)]
 rw [sumTo_congr h, sumTo_comm]
 refine sumTo_congr fun a ha => ?_
 rw [sumTo_one (a ^^^ c) (xor_lt ha hc) fun i _ hne => if_neg fun e => hne e.symm, if_pos rfl]
theorem sumTo_mul_right (n : Nat) (f : Nat → Int) (c : Int) : sumTo n (fun i => f i * c) = sumTo n f * c := by
 rw [Int.mul_comm, ← sumTo_mul]
 exact sumTo_congr fun i _ => Int.mul_comm _ _
/-- The product of multivectors over the integers, at place m. -/
def mulZ (sq : List Int) (x y : Nat → Int) (m : Nat) : Int := sumTo (pw sq.length) fun a => x a * y (a ^^^ m) * facZ sq a (a ^^^ m)
theorem mulZ_assoc (sq : List Int) (x y z : Nat → Int) {m : Nat} (hm : m < pw sq.length) : mulZ sq (mulZ sq x y) z m = mulZ sq x (mulZ sq y z) m := by
 unfold mulZ
 rw [sumTo_congr (g := fun c => sumTo (pw sq.length) fun a => x a * y (a ^^^ c) * facZ sq a (a ^^^ c) * (z (c ^^^ m) * facZ sq c (c ^^^ m))) fun c _ => by
  rw [sumTo_mul_right, Int.mul_assoc], sumTo_comm]
 refine sumTo_congr fun a ha => ?_
 rw [sumTo_xor _ ha, ← sumTo_mul, ← sumTo_mul_right]
 refine sumTo_congr fun b hb => ?_
 have e1 : a ^^^ (b ^^^ a) = b := by rw [Nat.xor_comm b, xor_self_left]
 have e2 : (b ^^^ a) ^^^ m = b ^^^ (a ^^^ m) := Nat.xor_assoc _ _ _
 rw [e1, e2]
 have h := facZ_cocycle sq a b (b ^^^ (a ^^^ m))
 rw [xor_self_left, Nat.xor_comm a b] at h
 calc x a * y b * facZ sq a b * (z (b ^^^ (a ^^^ m)) * facZ sq (b ^^^ a) (b ^^^ (a ^^^ m)))
     = x a * y b * z (b ^^^ (a ^^^ m)) * (facZ sq a b * facZ sq (b ^^^ a) (b ^^^ (a ^^^ m))) := by
       rw [Int.mul_assoc (x a * y b), Int.mul_left_comm (facZ sq a b), ← Int.mul_assoc]
   _ = x a * y b * z (b ^^^ (a ^^^ m)) * (facZ sq b (b ^^^ (a ^^^ m)) * facZ sq a (a ^^^ m)) := by rw [h]
   _ = _ := by
       rw [← Int.mul_assoc, Int.mul_assoc (x a), Int.mul_assoc (x a)]
theorem mulZ_cg (p : Int) (sq : List Int) {x x' y y' : Nat → Int} (hx : ∀ a, a < pw sq.length → x a % p = x' a % p) (hy : ∀ a, a < pw sq.length → y a % p = y' a % p) {m : Nat} (hm : m < pw sq.length) : mulZ sq x y m % p = mulZ sq x' y' m % p := by
 unfold mulZ
 refine sumTo_mod p fun a ha => ?_
 have h1 := hx a ha
 have h2 := hy _ (xor_lt ha hm)
 rw [Int.mul_emod, Int.mul_emod (x a), h1, h2, ← Int.mul_emod (x' a), ← Int.mul_emod]
structure Cl (p : Int) (sq : List Int) where
 l : List Int
 len : l.length = pw sq.length
 nums : NumsL p l
 pos : 0 < p
section
variable {p : Int} {sq : List Int}
/-- The number at a place. -/
def Cl.co (x : Cl p sq) (m : Nat) : Int := x.l.getD m 0
theorem Cl.ext {x y : Cl p sq} (h : x.l = y.l) : x = y := by
 cases x; cases y; cases h; rfl
theorem Cl.co_small (x : Cl p sq) (m : Nat) : 0 ≤ x.co m ∧ x.co m < p := x.nums.getD x.pos m
theorem Cl.co_mod (x : Cl p sq) (m : Nat) : x.co m % p = x.co m := Int.emod_eq_of_lt (x.co_small m).1 (x.co_small m).2
theorem Cl.same {x y : Cl p sq} (h : ∀ m, m < pw sq.length → x.co m % p = y.co m % p) : x = y := by
 refine Cl.ext (list_ext_getD 0 (by rw [x.len, y.len]) fun m hm => ?_)
 have := h m (by rw [← x.len]; exact hm)
 rwa [x.co_mod, y.co_mod] at this
/-- The multivector with these numbers. -/
def Cl.of (hp : 0 < p) (f : Nat → Int) : Cl p sq := ⟨tab (pw sq.length) fun m => f m % p, tab_len _ _, NumsL.tab fun _ _ => ⟨Int.emod_nonneg _ (by omega), Int.emod_lt_of_pos _ hp⟩, hp⟩
theorem Cl.of_co (hp : 0 < p) (f : Nat → Int) {m : Nat} (hm : m < pw sq.length) : (Cl.of hp f : Cl p sq).co m = f m % p := tab_getD hm 0
theorem Cl.of_cg (hp : 0 < p) (f : Nat → Int) {m : Nat} (hm : m < pw sq.length) : (Cl.of hp f : Cl p sq).co m % p = f m % p := by rw [Cl.of_co hp f hm, Int.emod_emod_of_dvd _ (Int.dvd_refl p)]
instance : Mul (Cl p sq) := ⟨fun x y => Cl.of x.pos (mulZ sq x.co y.co)⟩
instance : Add (Cl p sq) := ⟨fun x y => Cl.of x.pos fun m => x.co m + y.co m⟩
instance : Neg (Cl p sq) := ⟨fun x => Cl.of x.pos fun m => -(x.co m)⟩
instance : HMul Int (Cl p sq) (Cl p sq) := ⟨fun k x => Cl.of x.pos fun m => k * x.co m⟩
theorem Cl.mul_co (x y : Cl p sq) {m : Nat} (hm : m < pw sq.length) : (x * y).co m % p = mulZ sq x.co y.co m % p := Cl.of_cg _ _ hm
theorem Cl.add_co (x y : Cl p sq) {m : Nat} (hm : m < pw sq.length) : (x + y).co m % p = (x.co m + y.co m) % p := Cl.of_cg _ _ hm
theorem Cl.sm_co (k : Int) (x : Cl p sq) {m : Nat} (hm : m < pw sq.length) : (k * x).co m % p = (k * x.co m) % p := Cl.of_cg _ _ hm
theorem Cl.mul_assoc (x y z : Cl p sq) : x * y * z = x * (y * z) := Cl.same fun m hm => by
 rw [Cl.mul_co _ _ hm, Cl.mul_co _ _ hm, mulZ_cg p sq (fun a ha => Cl.mul_co x y ha) (fun _ _ => rfl) hm, mulZ_assoc sq _ _ _ hm]
 exact mulZ_cg p sq (fun _ _ => rfl) (fun a ha => (Cl.mul_co y z ha).symm) hm
theorem Cl.add_mul (x y z : Cl p sq) : (x + y) * z = x * z + y * z := Cl.same fun m hm => by
 rw [Cl.mul_co _ _ hm, mulZ_cg p sq (fun a ha => Cl.add_co x y ha) (fun _ _ => rfl) hm, Cl.add_co _ _ hm, Int.add_emod, Cl.mul_co _ _ hm, Cl.mul_co _ _ hm, ← Int.add_emod]
 unfold mulZ
 rw [← sumTo_add]
 congr 1
 exact sumTo_congr fun a _ => by rw [Int.add_mul, Int.add_mul]
theorem Cl.sm_mul (k : Int) (x y : Cl p sq) : (k * x) * y = k * (x * y) := Cl.same fun m hm => by
 rw [Cl.mul_co _ _ hm, mulZ_cg p sq (fun a ha => Cl.sm_co k x ha) (fun _ _ => rfl) hm, Cl.sm_co _ _ hm, Int.mul_emod k, Cl.mul_co _ _ hm, ← Int.mul_emod]
 unfold mulZ
 rw [← sumTo_mul]
 congr 1
 exact sumTo_congr fun a _ => by rw [Int.mul_assoc, Int.mul_assoc, Int.mul_assoc]
theorem Cl.mul_sm (k : Int) (x y : Cl p sq) : x * (k * y) = k * (x * y) := Cl.same fun m hm => by
 rw [Cl.mul_co _ _ hm, mulZ_cg p sq (fun _ _ => rfl) (fun a ha => Cl.sm_co k y ha) hm, Cl.sm_co _ _ hm, Int.mul_emod k, Cl.mul_co _ _ hm, ← Int.mul_emod]
 unfold mulZ
 rw [← sumTo_mul]
 congr 1
 exact sumTo_congr fun a _ => by rw [Int.mul_left_comm, Int.mul_assoc, Int.mul_assoc]
theorem Cl.add_comm (x y : Cl p sq) : x + y = y + x := Cl.same fun m hm => by rw [Cl.add_co _ _ hm, Cl.add_co _ _ hm, Int.add_comm]
theorem Cl.add_assoc (x y z : Cl p sq) : x + y + z = x + (y + z) := Cl.same fun m hm => by
 rw [Cl.add_co _ _ hm, Cl.add_co _ _ hm, Int.add_emod, Cl.add_co _ _ hm, ← Int.add_emod, Int.add_emod (x.co m), Cl.add_co _ _ hm, ← Int.add_emod, Int.add_assoc]
theorem Cl.sm_sm (k j : Int) (x : Cl p sq) : k * (j * x) = (k * j) * x := Cl.same fun m hm => by
 rw [Cl.sm_co _ _ hm, Int.mul_emod, Cl.sm_co _ _ hm, ← Int.mul_emod, Cl.sm_co _ _ hm, Int.mul_assoc]
theorem Cl.sm_add (k : Int) (x y : Cl p sq) : k * (x + y) = k * x + k * y := Cl.same fun m hm => by
 rw [Cl.sm_co _ _ hm, Int.mul_emod, Cl.add_co _ _ hm, ← Int.mul_emod, Cl.add_co _ _ hm, Int.add_emod, Cl.sm_co _ _ hm, Cl.sm_co _ _ hm, ← Int.add_emod, Int.mul_add]
theorem Cl.add_sm (k j : Int) (x : Cl p sq) : (k + j) * x = k * x + j * x := Cl.same fun m hm => by
 rw [Cl.sm_co _ _ hm, Cl.add_co _ _ hm, Int.add_emod, Cl.sm_co _ _ hm, Cl.sm_co _ _ hm, ← Int.add_emod, Int.add_mul]
theorem Cl.sm_cg {k j : Int} (h : k % p = j % p) (x : Cl p sq) : k * x = j * x := Cl.same fun m hm => by
 rw [Cl.sm_co _ _ hm, Cl.sm_co _ _ hm, Int.mul_emod, h, ← Int.mul_emod]
theorem Cl.one_sm (x : Cl p sq) : (1 : Int) * x = x := Cl.same fun m hm => by rw [Cl.sm_co _ _ hm, Int.one_mul]
/-- The numbers of a list, and no more than there are places. -/
def Cl.zero (hp : 0 < p) : Cl p sq := Cl.of hp fun _ => 0
theorem Cl.zero_sm (x : Cl p sq) : (0 : Int) * x = Cl.zero x.pos := Cl.same fun m hm => by
 rw [Cl.sm_co _ _ hm]; unfold Cl.zero; rw [Cl.of_cg _ _ hm, Int.zero_mul]
theorem Cl.add_zero (x : Cl p sq) (hp : 0 < p) : x + Cl.zero hp = x := Cl.same fun m hm => by
 rw [Cl.add_co _ _ hm, Int.add_emod]; unfold Cl.zero; rw [Cl.of_cg _ _ hm, ← Int.add_emod, Int.add_zero]
/-- The multivector 1. -/
def Cl.one (hp : 0 < p) : Cl p sq := Cl.of hp fun m => if m = 0 then 1 else 0
theorem Cl.one_co (hp : 0 < p) {m : Nat} (hm : m < pw sq.length) : (Cl.one hp : Cl p sq).co m % p = (if m = 0 then 1 else 0) % p := Cl.of_cg _ _ hm
theorem swaps_zero_right (a : Nat) : ∀ n, swaps a 0 n = 0 := by
 intro n
 induction n with
 | zero => rfl
 | succ n ih => simp [swaps, ih, bit_zero]
theorem swaps_zero_left (b : Nat) : ∀ n, swaps 0 b n = 0 := by
 intro n
 induction n with
 | zero => rfl
 | succ n ih => simp [swaps, ih, pc_zero]
theorem comZ_zero_left (sq : List Int) (b : Nat) : ∀ n, comZ sq 0 b n = 1 := by
 intro n
 induction n with
 | zero => rfl
 | succ n ih => simp [comZ, ih, bit_zero]
theorem facZ_zero_left (sq : List Int) (b : Nat) : facZ sq 0 b = 1 := by unfold facZ; rw [swaps_zero_left, comZ_zero_left]; rfl
theorem facZ_zero_right (sq : List Int) (a : Nat) : facZ sq a 0 = 1 := by unfold facZ; rw [swaps_zero_right, comZ_symm, comZ_zero_left]; rfl
theorem mulZ_one_left (sq : List Int) (x : Nat → Int) (m : Nat) : mulZ sq (fun m => if m = 0 then 1 else 0) x m = x m := by
 unfold mulZ
 rw [sumTo_one 0 (pw_pos _) fun i _ h => by dsimp only; rw [if_neg h, Int.zero_mul, Int.zero_mul]]
 dsimp only
 rw [if_pos rfl, Nat.zero_xor, facZ_zero_left, Int.one_mul, Int.mul_one]
theorem mulZ_one_right (sq : List Int) (x : Nat → Int) {m : Nat} (hm : m < pw sq.length) : mulZ sq x (fun m => if m = 0 then 1 else 0) m = x m := by
 unfold mulZ
 rw [sumTo_one m hm fun i _ h => by dsimp only; rw [if_neg (fun e => h (by have := (xor_eq_iff i m 0).1 e; rw [this, Nat.xor_zero])), Int.mul_zero, Int.zero_mul]]
 dsimp only
 rw [Nat.xor_self, if_pos rfl, facZ_zero_right, Int.mul_one, Int.mul_one]
theorem Cl.one_mul (hp : 0 < p) (x : Cl p sq) : Cl.one hp * x = x := Cl.same fun m hm => by
 rw [Cl.mul_co _ _ hm, mulZ_cg p sq (fun a ha => Cl.one_co hp ha) (fun _ _ => rfl) hm, mulZ_one_left]
theorem Cl.mul_one (hp : 0 < p) (x : Cl p sq) : x * Cl.one hp = x := Cl.same fun m hm => by
 rw [Cl.mul_co _ _ hm, mulZ_cg p sq (fun _ _ => rfl) (fun a ha => Cl.one_co hp ha) hm, mulZ_one_right sq _ hm]
theorem mulL_co {n : Nat} (hn : sq.length = n) {xs ys : List Int} (hx : xs.length = pw n) (hy : ys.length = pw n) {m : Nat} (hm : m < pw n) : (mulL p sq xs ys).getD m 0 % p = mulZ sq (fun a => xs.getD a 0) (fun a => ys.getD a 0) m % p := by
 subst hn
 unfold mulL
 rw [prodL_getD p sq _ xs ys _ m hx hy hm, Int.emod_emod_of_dvd _ (Int.dvd_refl p)]
 unfold mulZ
 refine sumTo_mod p fun a _ => ?_
 unfold term
 rw [if_pos rfl, Int.mul_emod, fac_facZ, ← Int.mul_emod]
theorem Cl.mul_l (x y : Cl p sq) : (x * y).l = mulL p sq x.l y.l := by
 refine list_ext_getD 0 (by rw [(x * y).len, mulL_len, x.len]) fun m hm => ?_
 rw [(x * y).len] at hm
 have h1 := (x * y).co_mod m
 have h2 := Cl.mul_co x y hm
 have h3 := mulL_co (p := p) rfl x.len y.len hm
 have h4 := (mulL_nums x.pos sq x.l y.l).getD x.pos m
 rw [Int.emod_eq_of_lt h4.1 h4.2] at h3
 rw [h3]
 rw [h1] at h2
 exact h2
theorem Cl.one_l (hp : 2 ≤ p) : (Cl.one (by omega) : Cl p sq).l = bladeL sq.length 0 := by
 refine list_ext_getD 0 (by rw [Cl.len, bladeL_len]) fun m hm => ?_
 rw [Cl.len] at hm
 rw [bladeL_getD _ _ _ hm]
 show (Cl.one _ : Cl p sq).co m = _
 unfold Cl.one
 rw [Cl.of_co _ _ hm]
 by_cases h : m = 0
 · rw [if_pos h, if_pos h.symm, Int.emod_eq_of_lt (by omega) (by omega)]
 · rw [if_neg h, if_neg (fun e => h e.symm), Int.zero_emod]
theorem Cl.sm_l (x : Cl p sq) (k : Int) : (k * x).l = scaleL p x.l k := by
 refine list_ext_getD 0 (by rw [Cl.len, scaleL_len, x.len]) fun m hm => ?_
 rw [Cl.len] at hm
 rw [scaleL_getD _ (by rw [x.len]; exact hm)]
 have h1 := (k * x).co_mod m
 rw [Cl.sm_co _ _ hm, Int.mul_comm] at h1
 exact h1.symm
end
end Go.Proofs.YtmkjdpnoloofjaaGreat
namespace Go.Proofs.YtmkjdpnoloofjaaGreat
open Go.RowKit
set_option maxRecDepth 8000 in
set_option maxHeartbeats 400000 in
set_option maxRecDepth 8000 in
theorem clone_any (A : Option Addr) (n c : Nat) (xs : List Int) (w : World) (hn : n ≤ 65536) (ha : Rd w A n (ints xs)) :
    Calls Tryz.prog 197 #[.slice A n c] w fun e w' => ∃ A' c', e = .returned (.slice A' n c') ∧ MkI w w' A' n c' xs := by
 have hxl : xs.length = n := by have := ha.1; rwa [ints_length] at this
 cases A with
 | none =>
  have h0 : n = 0 := by
   rcases Nat.eq_zero_or_pos n with h | h
   · exact h
   · obtain ⟨g, o, e, _⟩ := ha.2 h; cases e
  subst h0
  have hxs : xs = [] := List.eq_nil_of_length_eq_zero hxl
  subst hxs
  clear ha hxl hn
  have hq := fun w : World => Lib.run_eql_slice_nil (P := Tryz.prog) w 24 2 none 0 c 0 0 Tryz.underlying24
  simp only [Option.isNone_none] at hq
  go_enter Tryz.func197, Tryz.ntmps197
  go_wp2
  go_ret
  exact ⟨none, 0, rfl, Mk.nil zG⟩
 | some p =>
  have hM0 := Mk.lit (E := 2) (Below.refl w.heap.size w) #[] (by simp)
  obtain ⟨i, hi, h1, h2, h3⟩ := info_parts info_i
  obtain ⟨b1, b2⟩ := bound_of (Nat.le_trans hn (by decide))
  clear b1
  have HB := Lib.hid b2
  clear b2
  have hnews : ∀ (j : Nat) (u : Value), (ints xs)[j]? = some u → (w.alloc (.cells #[] 2)).cell? (p.add j) = some u := fun j u hu => by
   have hj : j < n := by have := (List.getElem?_eq_some_iff.1 hu).1; rw [ints_length] at this; omega
   obtain ⟨g, o, e, hc⟩ := (ha.below ((Below.refl _ w).alloc (Nat.le_refl _) (.cells #[] 2))).2 (by omega)
   injection e with e; subst e
   rw [Addr.add_lit]
   exact hc j u hu
  have Hx := Lib.hid hxl
  have HN := Lib.hid hnews
  have HI := Lib.hid hi
  have H1 := Lib.hid h1
  have H2 := Lib.hid h2
  have H3 := Lib.hid h3
  clear hnews hi h1 h2 h3 hxl
  have hq := fun w : World => Lib.run_eql_slice_nil (P := Tryz.prog) w 24 2 (some p) n c 0 0 Tryz.underlying24
  simp only [Option.isNone_some] at hq
  go_enter Tryz.func197, Tryz.ntmps197
  go_wp2_with (at_builtin; refine wpList_append_own_at (w.alloc (.cells #[] 2)) rfl _ _ 24 rfl w.heap.size 2 i _ 1 8 Tryz.underlying24 HI.out H1.out H2.out H3.out rfl (by omega) (.slice (some ⟨w.heap.size, 0, none⟩) 0 0) 0 [] rfl hM0.2 p n c (ints xs) rfl (by rw [ints_length, Hx.out, Nat.mul_one]) HN.out (by intro u hu; obtain ⟨y, _, rfl⟩ := List.mem_map.1 hu; rfl) (by simp only [maxLen]; omega) (by have := HB.out 8 (by omega); omega) (by simp) ?_; intro v' w' hown hg _ _)
  have hb' : Below w.heap.size w w' := hM0.1.grown hg (by simp) (fun k hk => (hM0.2.lt k hk).1)
  rw [Nat.zero_add, List.nil_append] at hown
  rcases hown.2 with ⟨rfl, h0⟩ | ⟨g, cap, cur, rfl, hr⟩
  · subst h0
    go_ret
    exact ⟨none, 0, rfl, hb', hown⟩
  · go_ret
    exact ⟨_, _, rfl, hb', hown⟩
/-- The blades of the grades that t tells turned to their negatives. -/
def sgnL (p : Int) (t : Nat → Bool) (xs : List Int) : List Int := tab xs.length fun i => if t (pc i) then (-(xs.getD i 0)) % p else xs.getD i 0
theorem sgnL_len (p : Int) (t : Nat → Bool) (xs : List Int) : (sgnL p t xs).length = xs.length := tab_len _ _
theorem sgnL_nums {p : Int} (hp : 0 < p) (t : Nat → Bool) {xs : List Int} (h : NumsL p xs) : NumsL p (sgnL p t xs) := NumsL.tab fun i _ => by
 split
 · exact ⟨Int.emod_nonneg _ (by omega), Int.emod_lt_of_pos _ hp⟩
 · exact h.getD hp i
theorem sgnL_getD {p : Int} {t : Nat → Bool} {xs : List Int} {i : Nat} (h : i < xs.length) : (sgnL p t xs).getD i 0 = if t (pc i) then (-(xs.getD i 0)) % p else xs.getD i 0 := tab_getD h 0
/-- The first k places of f, then those of xs. -/
def mixL (f : Nat → Int) (xs : List Int) (k : Nat) : List Int := tab xs.length fun i => if i < k then f i else xs.getD i 0
theorem mixL_len (f : Nat → Int) (xs : List Int) (k : Nat) : (mixL f xs k).length = xs.length := tab_len _ _
theorem mixL_zero (f : Nat → Int) (xs : List Int) : mixL f xs 0 = xs := by
 refine Eq.trans (tab_congr fun i _ => ?_) (eq_tab 0 rfl).symm
 rw [if_neg (by omega)]
theorem mixL_all (f : Nat → Int) (xs : List Int) : mixL f xs xs.length = tab xs.length f := tab_congr fun _i hi => if_pos hi
theorem mixL_succ (f : Nat → Int) (xs : List Int) (k : Nat) (hk : k < xs.length) : mixL f xs (k + 1) = (mixL f xs k).set k (f k) := by
 apply list_ext_getD 0 (by rw [List.length_set, mixL_len, mixL_len])
 intro i hi
 rw [mixL_len] at hi
 rw [getD_set, mixL_len]
 unfold mixL
 rw [tab_getD hi, tab_getD hi]
 by_cases h : k = i
 · subst h; rw [if_pos (by omega), if_pos ⟨rfl, hk⟩]
 · rw [if_neg (c := k = i ∧ _) (fun hh => h hh.1)]
   by_cases h2 : i < k
   · rw [if_pos (by omega), if_pos h2]
   · rw [if_neg (by omega), if_neg h2]
theorem mixL_skip (f : Nat → Int) (xs : List Int) (k : Nat) (hf : f k = xs.getD k 0) : mixL f xs (k + 1) = mixL f xs k := by
 refine tab_congr fun i _ => ?_
 by_cases h : i < k
 · rw [if_pos (by omega), if_pos h]
 · by_cases h2 : i = k
   · subst h2; rw [if_pos (by omega), if_neg (by omega), hf]
   · rw [if_neg (by omega), if_neg h]
set_option maxHeartbeats 1600000 in
set_option maxRecDepth 8000 in
theorem signed_any (f : FuncId) (t : Nat → Bool) (hf : ∀ (k : Nat) (w : World), k ≤ 6 → Calls Tryz.prog f #[.int .i64 k] w fun e w' => e = .returned (.bool (t k)) ∧ w = w') (hcf : ∀ (args : Array Value) (w : World), (callFunc f args).run Tryz.prog w = .ok (.enter f args) w)
    (P : Int) (A : Option Addr) (n c : Nat) (X : Option Addr) (m cx : Nat) (xs : List Int) (w : World) (hp : 2 ≤ P) (hp2 : P ≤ 13) (hm : m ≤ 64) (hx : Rd w X m (ints xs)) (hxs : NumsL P xs) :
    Calls Tryz.prog 217 #[.agg #[.int .i64 P, .slice A n c], .slice X m cx, .func (.func f) #[] #[]] w fun e w' => ∃ A' c', e = .returned (.slice A' m c') ∧ MkI w w' A' m c' (sgnL P t xs) := by
 have hxl : xs.length = m := by have := hx.1; rwa [ints_length] at this
 have hB0 : Below w.heap.size w (w.alloc (.cells #[.int .i64 P, .slice A n c] 26)) := (Below.refl _ w).alloc (Nat.le_refl _) _
 have k0 : Blk (w.alloc (.cells #[.int .i64 P, .slice A n c] 26)) w.heap.size 26 #[.int .i64 P, .slice A n c] := Blk.new _ _ _
 have HX := Lib.hid hxl; clear hxl
 go_enter Tryz.func217, Tryz.ntmps217
 go_wp2_with fail
 refine (clone_any _ _ _ _ _ (by omega) (hx.below hB0)).mono ?_
 rintro e w1 ⟨A', c', rfl, hM1⟩
 have k1 := k0.below hM1.b k0.lt
 have hM := hM1.after hB0
 have hl0 : MkI w w1 A' m c' (mixL (fun i => if t (pc i) then (-(xs.getD i 0)) % P else xs.getD i 0) xs 0) := by rw [mixL_zero]; exact hM
 clear k0 hM1 hM hB0
 go_wp2_with fail
 go_loopw [8, 9, 14] (fun _ _ i wr => ∃ k : Nat, k ≤ m ∧ i = .int .i64 k ∧ MkI w wr A' m c' (mixL (fun i => if t (pc i) then (-(xs.getD i 0)) % P else xs.getD i 0) xs k) ∧ Blk wr w.heap.size 26 #[.int .i64 P, .slice A n c]) (fun _ _ i _ => m - (intOf i).toNat)
 case atStart => exact ⟨0, by omega, rfl, hl0, k1⟩
 case round =>
  obtain ⟨k, hk, rfl, hM, hk2⟩ := hrel
  clear hl0 k1
  by_cases hlt : k < m
  · obtain ⟨gx, ox, rfl, hxk, hcx⟩ := (hx.below hM.b).int hlt
    obtain ⟨x1, x2⟩ := hxs _ (List.getElem_mem hxk)
    have hpk := pc_le 6 k (by omega)
    rcases hM.2.form with ⟨_, h0⟩ | ⟨g, rfl, hg, hgl⟩
    · omega
    have HNE : Hid (g ≠ w.heap.size) := Lib.hid (fun e => by
     have hne := hM.2.ne_blk hk2 (by decide)
     simp [Value.ownBlock, e] at hne)
    cases ht : t (pc k)
    · have HM := Lib.hid (mixL_skip (fun i => if t (pc i) then (-(xs.getD i 0)) % P else xs.getD i 0) xs k (by simp [ht]) ▸ hM)
      have HT := Lib.hid ht
      clear hM ht
      go_wp2_with (go_at_call 227; refine (gradeOf_any k _ (by omega)).mono ?_; rintro e w' ⟨rfl, rfl⟩)
      refine (hf (pc k) _ hpk).mono ?_
      rintro e w' ⟨rfl, rfl⟩
      rw [HT.out]
      go_wp2
      go_roundw
      case rel => exact ⟨k + 1, by omega, by go_num, HM.out, hk2⟩
      case measure => simp [intOf]; omega
    · have hset := (hM.set k (.int .i64 ((-xs[k]) % P))).1
      have hfk : (if t (pc k) = true then (-(xs.getD k 0)) % P else xs.getD k 0) = (-xs[k]) % P := by rw [if_pos ht, getD_of_lt 0 hxk]
      rw [ints_set] at hset
      have HS : Hid (MkI w (wr.setCell ⟨g, k, none⟩ (.int .i64 ((-xs[k]) % P))) (some ⟨g, 0, none⟩) m c' (mixL (fun i => if t (pc i) then (-(xs.getD i 0)) % P else xs.getD i 0) xs (k + 1))) := Lib.hid (by rw [mixL_succ _ _ _ (by rw [HX.out]; exact hlt), hfk]; exact hset)
      have hAt : Hid (∀ w', MkI w w' (some ⟨g, 0, none⟩) m c' (mixL (fun i => if t (pc i) then (-(xs.getD i 0)) % P else xs.getD i 0) xs k) → w'.cell? ⟨g, k, none⟩ = some (.int .i64 ((mixL (fun i => if t (pc i) then (-(xs.getD i 0)) % P else xs.getD i 0) xs k).getD k 0)) ∧ w'.frozen? ⟨g, k, none⟩ = false) :=
       Lib.hid (fun w' h => mkI_at h hlt)
      have HT := Lib.hid ht
      have HM := Lib.hid hM
      clear hset hfk ht hM
      go_wp2_with (go_at_call 227; refine (gradeOf_any k _ (by omega)).mono ?_; rintro e w' ⟨rfl, rfl⟩)
      refine (hf (pc k) _ hpk).mono ?_
      rintro e w' ⟨rfl, rfl⟩
      rw [HT.out]
      obtain ⟨q0, q1⟩ := hk2.two
      go_wp2_with fail
      refine (field_any _ _ _ _ _).mono ?_
      rintro e w2 ⟨rfl, hb2⟩
      have hM2 := HM.out.below hb2
      have hk3 := hk2.below hb2 hk2.lt
      obtain ⟨hoc, hof⟩ := hAt.out _ hM2
      obtain ⟨v0, hv0⟩ : ∃ v, v = (mixL (fun i => if t (pc i) then (-(xs.getD i 0)) % P else xs.getD i 0) xs k).getD k 0 := ⟨_, rfl⟩
      rw [← hv0] at hoc
      have hset := (hM2.set k (.int .i64 ((-xs[k]) % P))).1
      have hfk : (if t (pc k) = true then (-(xs.getD k 0)) % P else xs.getD k 0) = (-xs[k]) % P := by rw [if_pos HT.out, getD_of_lt 0 hxk]
      rw [ints_set] at hset
      have HS2 : Hid (MkI w (w2.setCell ⟨g, k, none⟩ (.int .i64 ((-xs[k]) % P))) (some ⟨g, 0, none⟩) m c' (mixL (fun i => if t (pc i) then (-(xs.getD i 0)) % P else xs.getD i 0) xs (k + 1))) := Lib.hid (by rw [mixL_succ _ _ _ (by rw [HX.out]; exact hlt), hfk]; exact hset)
      have HKN := Lib.hid (hk3.far (p := ⟨g, k, none⟩) HNE.out.symm (.int .i64 ((-xs[k]) % P)))
      clear hv0 HS HM hM2 hk3 hk2 q0 q1 hset hfk
      go_wp2_with (go_at_call 122; refine (num_any _ (-xs[k]) _ (by omega) hp2 (by omega) (by omega)).mono ?_; rintro e w' ⟨rfl, rfl⟩)
      go_roundw
      case rel => exact ⟨k + 1, by omega, by go_num, HS2.out, HKN.out⟩
      case measure => simp [intOf]; omega
  · obtain rfl : k = m := by omega
    have hM2 := hM
    rw [← HX.out, mixL_all, HX.out] at hM2
    go_wp2
    go_ret
    exact ⟨_, _, rfl, by unfold sgnL; rw [HX.out]; exact hM2⟩
def revT (k : Nat) : Bool := k * (k - 1) / 2 % 2 == 1
def oddT (k : Nat) : Bool := k % 2 == 1
theorem rev_bool (k : Nat) (hk : k ≤ 1000) : ((k : Int) * ((k : Int) - 1) / 2 % 2 == 1) = revT k := by
 unfold revT
 rw [Bool.eq_iff_iff]
 simp only [beq_iff_eq]
 rcases Nat.eq_zero_or_pos k with h | h
 · subst h; simp
 · have e : (k : Int) * ((k : Int) - 1) = ((k * (k - 1) : Nat) : Int) := by rw [Int.natCast_mul]; congr 1; omega
   rw [e]; omega
set_option maxHeartbeats 400000 in
set_option maxRecDepth 8000 in
theorem reverse1_tells (k : Nat) (w : World) (hk : k ≤ 6) : Calls Tryz.prog 218 #[.int .i64 k] w fun e w' => e = .returned (.bool (revT k)) ∧ w = w' := by
 have hm : 0 ≤ (k : Int) * ((k : Int) - 1) ∧ (k : Int) * ((k : Int) - 1) ≤ 1000000 := by
  rcases Nat.eq_zero_or_pos k with h | h
  · subst h; simp
  · have := mul_small (show (0 : Int) ≤ k by omega) (show (k : Int) ≤ 1000 by omega) (show (0 : Int) ≤ (k : Int) - 1 by omega) (show (k : Int) - 1 ≤ 1000 by omega)
    omega
 obtain ⟨m1, m2⟩ := hm
 go_enter Tryz.func218, Tryz.ntmps218
 go_wp2
 go_ret
 exact ⟨ret_bool (rev_bool k (by omega)), rfl⟩
set_option maxHeartbeats 400000 in
set_option maxRecDepth 8000 in
theorem involute1_tells (k : Nat) (w : World) (hk : k ≤ 6) : Calls Tryz.prog 219 #[.int .i64 k] w fun e w' => e = .returned (.bool (oddT k)) ∧ w = w' := by
 go_enter Tryz.func219, Tryz.ntmps219
 go_wp2
 go_ret
 refine ⟨ret_bool ?_, rfl⟩
 unfold oddT
 rw [Bool.eq_iff_iff]
 simp only [beq_iff_eq]
 omega
def revL (p : Int) (xs : List Int) : List Int := sgnL p revT xs
def invoL (p : Int) (xs : List Int) : List Int := sgnL p oddT xs
set_option maxRecDepth 8000 in
set_option maxHeartbeats 400000 in
set_option maxRecDepth 8000 in
theorem reverse_any (P : Int) (A : Option Addr) (n c : Nat) (X : Option Addr) (m cx : Nat) (xs : List Int) (w : World) (hp : 2 ≤ P) (hp2 : P ≤ 13) (hm : m ≤ 64) (hx : Rd w X m (ints xs)) (hxs : NumsL P xs) :
    Calls Tryz.prog 111 #[.agg #[.int .i64 P, .slice A n c], .slice X m cx] w fun e w' => ∃ A' c', e = .returned (.slice A' m c') ∧ MkI w w' A' m c' (revL P xs) := by
 have hB0 : Below w.heap.size w (w.alloc (.cells #[.int .i64 P, .slice A n c] 26)) := (Below.refl _ w).alloc (Nat.le_refl _) _
 have hcall := signed_any 218 revT reverse1_tells (fun _ _ => rfl) P A n c X m cx xs _ hp hp2 hm (hx.below hB0) hxs
 go_enter Tryz.func111, Tryz.ntmps111
 go_wp2_with (go_at_call 217; refine hcall.mono ?_; rintro e w1 ⟨A', c', rfl, hM⟩)
 go_ret
 exact ⟨_, _, rfl, hM.after hB0⟩
set_option maxRecDepth 8000 in
set_option maxHeartbeats 400000 in
set_option maxRecDepth 8000 in
theorem involute_any (P : Int) (A : Option Addr) (n c : Nat) (X : Option Addr) (m cx : Nat) (xs : List Int) (w : World) (hp : 2 ≤ P) (hp2 : P ≤ 13) (hm : m ≤ 64) (hx : Rd w X m (ints xs)) (hxs : NumsL P xs) :
    Calls Tryz.prog 112 #[.agg #[.int .i64 P, .slice A n c], .slice X m cx] w fun e w' => ∃ A' c', e = .returned (.slice A' m c') ∧ MkI w w' A' m c' (invoL P xs) := by
 have hB0 : Below w.heap.size w (w.alloc (.cells #[.int .i64 P, .slice A n c] 26)) := (Below.refl _ w).alloc (Nat.le_refl _) _
 have hcall := signed_any 219 oddT involute1_tells (fun _ _ => rfl) P A n c X m cx xs _ hp hp2 hm (hx.below hB0) hxs
 go_enter Tryz.func112, Tryz.ntmps112
 go_wp2_with (go_at_call 217; refine hcall.mono ?_; rintro e w1 ⟨A', c', rfl, hM⟩)
 go_ret
 exact ⟨_, _, rfl, hM.after hB0⟩
set_option maxHeartbeats 1600000 in
set_option maxRecDepth 8000 in
theorem l04Signs_rev (P : Int) (A : Option Addr) (n c : Nat) (X : Option Addr) (m cx : Nat) (xs : List Int) (w : World) (hp : 2 ≤ P) (hp2 : P ≤ 13) (hm : m ≤ 64) (hx : Rd w X m (ints xs)) (hxs : NumsL P xs) :
    Calls Tryz.prog 275 #[.agg #[.int .i64 P, .slice A n c], .slice X m cx, .bool true, .bool false] w fun e w' => ∃ A' c', e = .returned (.slice A' m c') ∧ MkI w w' A' m c' (sgnL P revT xs) := by
 have hxl : xs.length = m := by have := hx.1; rwa [ints_length] at this
 have hB0 : Below w.heap.size w (w.alloc (.cells #[.int .i64 P, .slice A n c] 26)) := (Below.refl _ w).alloc (Nat.le_refl _) _
 have k0 : Blk (w.alloc (.cells #[.int .i64 P, .slice A n c] 26)) w.heap.size 26 #[.int .i64 P, .slice A n c] := Blk.new _ _ _
 have hM0 := Mk.lit (E := 2) hB0 #[] (by simp)
 have hM1 : MkI w ((w.alloc (.cells #[.int .i64 P, .slice A n c] 26)).alloc (.cells #[] 2)) (some ⟨w.heap.size + 1, 0, none⟩) 0 0 [] := by simpa [MkI, ints] using hM0
 have k1 := k0.alloc (.cells #[] 2)
 have HX := Lib.hid hxl; clear hxl
 go_enter Tryz.func275, Tryz.ntmps275
 go_wp2
 clear hM0 hB0 k0
 obtain ⟨w1, hw1⟩ : ∃ W, W = (w.alloc (.cells #[.int .i64 P, .slice A n c] 26)).alloc (.cells #[] 2) := ⟨_, rfl⟩
 rw [← hw1] at hM1 k1 ⊢
 clear hw1
 go_loopw [9, 10, 11, 12] (fun o i _ _ wr => ∃ (k : Nat) (A' : Option Addr) (c' : Nat), k ≤ m ∧ i = .int .i64 k ∧ o = .slice A' k c' ∧ MkI w wr A' k c' (tab k fun i => if revT (pc i) then (-(xs.getD i 0)) % P else xs.getD i 0) ∧ Blk wr w.heap.size 26 #[.int .i64 P, .slice A n c]) (fun _ i _ _ _ => m - (intOf i).toNat)
 case atStart => exact ⟨0, _, _, by omega, rfl, rfl, by simpa [tab] using hM1, k1⟩
 case round =>
  obtain ⟨k, A', c', hk, rfl, rfl, hM, hk2⟩ := hrel
  clear hM1 k1
  by_cases hlt : k < m
  · obtain ⟨gx, ox, rfl, hxk, hcx⟩ := (hx.below hM.b).int hlt
    obtain ⟨x1, x2⟩ := hxs _ (List.getElem_mem hxk)
    have hpk := pc_le 6 k (by omega)
    have hxd := getD_of_lt 0 hxk
    have HXD := Lib.hid hxd; clear hxd
    have hmm : 0 ≤ ((pc k : Nat) : Int) * (((pc k : Nat) : Int) - 1) ∧ ((pc k : Nat) : Int) * (((pc k : Nat) : Int) - 1) ≤ 1000000 := by
     rcases Nat.eq_zero_or_pos (pc k) with h | h
     · rw [h]; simp
     · have := mul_small (show (0 : Int) ≤ (pc k : Nat) by omega) (show ((pc k : Nat) : Int) ≤ 1000 by omega) (show (0 : Int) ≤ ((pc k : Nat) : Int) - 1 by omega) (show ((pc k : Nat) : Int) - 1 ≤ 1000 by omega)
       omega
    obtain ⟨m1, m2⟩ := hmm
    have hbT := rev_bool (pc k) (by omega)
    cases ht : revT (pc k)
    · rw [ht] at hbT
      have HV : Hid ((tab (k + 1) fun i => if revT (pc i) then (-(xs.getD i 0)) % P else xs.getD i 0) = (tab k fun i => if revT (pc i) then (-(xs.getD i 0)) % P else xs.getD i 0) ++ [xs[k]]) := Lib.hid (by rw [tab_succ, if_neg (by rw [ht]; decide), HXD.out])
      have HM := Lib.hid hM
      clear hM ht
      go_wp2_with (first
       | (go_at_call 249; refine (l04Grade_any k _ (by omega)).mono ?_; rintro e w' ⟨rfl, rfl⟩)
       | (at_builtin; refine wpList_app1 w _ 24 2 _ _ Tryz.underlying24 info_i rfl (by omega) rfl _ _ rfl A' k c' _ _ HM.out (by omega) rfl rfl rfl ?_; intro A2 c2 w2 hM2 hgr _))
      have hne := HM.out.2.ne_blk hk2 (by decide)
      have hk3 := hk2.grown hgr hne
      go_roundw
      case rel => exact ⟨k + 1, A2, c2, by omega, by go_num, rfl, by rw [HV.out]; simpa [MkI, ints] using hM2, hk3⟩
      case measure => simp [intOf]; omega
    · rw [ht] at hbT
      have HV : Hid ((tab (k + 1) fun i => if revT (pc i) then (-(xs.getD i 0)) % P else xs.getD i 0) = (tab k fun i => if revT (pc i) then (-(xs.getD i 0)) % P else xs.getD i 0) ++ [(-xs[k]) % P]) := Lib.hid (by rw [tab_succ, if_pos ht, HXD.out])
      clear ht
      have W1 := i64_fit (P - xs[k]) (by omega) (by omega)
      have W2 : (P - xs[k]).tmod P = (-xs[k]) % P := by rw [Int.tmod_eq_emod_of_nonneg (by omega), show P - xs[k] = -xs[k] + P by omega, Int.add_emod_right]
      have i1 : (0 : Int) ≤ (k : Int) := by omega
      have hP0 : ¬ P = 0 := by omega
      have i2 : (k : Int) < (m : Int) := by omega
      go_wp2_with (go_at_call 249; refine (l04Grade_any k _ (by omega)).mono ?_; rintro e w' ⟨rfl, rfl⟩)
      go_wp2
      refine wp_obs 12 [[],[],[1],[],[],[3,4],[3,4,5],[1,2,3,4,5,6],[],[8],[1,2,3,4,5,6,7,8,9],[1,2,3,4,5,6,7,8,9,10],[0,1,2,3,4,5,6,7,8,9,10,11],[0,1,2,3,4,5,6,7,8,9,10,11,12]] [VIs (.slice A' k c'), VIs (.pointer (some ⟨w.heap.size, 0, none⟩)), VIs (.int .i64 P), VIs (.slice (some ⟨gx, ox, none⟩) m cx), VIs (.int .i64 k), VIs (.pointer (some ⟨gx, ox + k, none⟩)), VIs (.int .i64 xs[k]), VIs (.int .i64 (P - xs[k])), VIs (.pointer (some ⟨w.heap.size, 0, none⟩)), VIs (.int .i64 P), VIs (.int .i64 ((-xs[k]) % P)), VBs 2 #[.int .i64 ((-xs[k]) % P)]] (fun w' => Blk w' w.heap.size 26 #[.int .i64 P, .slice A n c] ∧ MkI w w' A' k c' (tab k fun i => if revT (pc i) then (-(xs.getD i 0)) % P else xs.getD i 0) ∧ w'.cell? ⟨gx, ox + k, none⟩ = some (.int .i64 xs[k])) (by kernel_rfl) (by kernel_rfl) (fun _ _ h hb => ⟨h.1.below hb h.1.lt, h.2.1.below hb, (hb.cell (World.block_lt_of_cell? _ _ h.2.2)).trans h.2.2⟩) (⟨hk2.drew, hM.drew, hcx⟩) (fun x => ?_)
      refine zS (fun w' hS hV K hK => ?_) ?_
      · obtain ⟨q0, q1⟩ := hS.1.two; have q2 := hS.2.2; go_simp; exact zO hK
      refine zS (fun w' hS hV K hK => ?_) ?_
      · obtain ⟨q0, q1⟩ := hS.1.two; have q2 := hS.2.2; go_simp; exact zO hK
      refine zS (fun w' hS hV K hK => ?_) ?_
      · simp only [List.mem_cons, zJ, or_false, forall_eq, zH, zI, VIs, VAny, VBs] at hV; obtain e1 := hV; obtain ⟨q0, q1⟩ := hS.1.two; have q2 := hS.2.2; go_simp; exact zO hK
      refine zS (fun w' hS hV K hK => ?_) ?_
      · obtain ⟨q0, q1⟩ := hS.1.two; have q2 := hS.2.2; go_simp; exact zO hK
      refine zS (fun w' hS hV K hK => ?_) ?_
      · obtain ⟨q0, q1⟩ := hS.1.two; have q2 := hS.2.2; go_simp; exact zO hK
      refine zS (fun w' hS hV K hK => ?_) ?_
      · simp only [zL, zM, zH, zI, VIs, VAny, VBs] at hV; obtain ⟨e3, e4⟩ := hV; obtain ⟨q0, q1⟩ := hS.1.two; have q2 := hS.2.2; go_simp; exact zO hK
      refine zS (fun w' hS hV K hK => ?_) ?_
      · simp only [zL, zM, zH, zI, VIs, VAny, VBs] at hV; obtain ⟨e3, e4, e5⟩ := hV; obtain ⟨q0, q1⟩ := hS.1.two; have q2 := hS.2.2; go_simp; exact zO hK
      refine zS (fun w' hS hV K hK => ?_) ?_
      · simp only [zL, zM, zH, zI, VIs, VAny, VBs] at hV; obtain ⟨e1, e2, e3, e4, e5, e6⟩ := hV; obtain ⟨q0, q1⟩ := hS.1.two; have q2 := hS.2.2; go_simp; exact zO hK
      refine zS (fun w' hS hV K hK => ?_) ?_
      · obtain ⟨q0, q1⟩ := hS.1.two; have q2 := hS.2.2; go_simp; exact zO hK
      refine zS (fun w' hS hV K hK => ?_) ?_
      · simp only [List.mem_cons, zJ, or_false, forall_eq, zH, zI, VIs, VAny, VBs] at hV; obtain e8 := hV; obtain ⟨q0, q1⟩ := hS.1.two; have q2 := hS.2.2; go_simp; exact zO hK
      refine zS (fun w' hS hV K hK => ?_) ?_
      · simp only [zL, zM, zH, zI, VIs, VAny, VBs] at hV; obtain ⟨e1, e2, e3, e4, e5, e6, e7, e8, e9⟩ := hV; obtain ⟨q0, q1⟩ := hS.1.two; have q2 := hS.2.2; go_simp; exact zO hK
      refine zS (fun w' hS hV K hK => ?_) ?_
      · simp only [zL, zM, zH, zI, VIs, VAny, VBs] at hV; obtain ⟨e1, e2, e3, e4, e5, e6, e7, e8, e9, e10⟩ := hV; obtain ⟨q0, q1⟩ := hS.1.two; have q2 := hS.2.2; go_simp; exact hK.out _ _ _ rfl rfl ⟨_, rfl, Blk.new _ _ _⟩ (zG.alloc (Nat.le_refl _) _)
      refine fun w' hS hV => ?_
      have hV := fun i hi => hV i (List.mem_range.1 hi)
      simp only [List.range, List.range.loop, zL, zM, zH, zI, VIs, VAny, VBs] at hV
      obtain ⟨e0, e1, e2, e3, e4, e5, e6, e7, e8, e9, e10, ⟨b11, e11, h11⟩⟩ := hV
      simp only [e0, e1, e2, e3, e4, e5, e6, e7, e8, e9, e10, e11]
      clear e0 e1 e2 e3 e4 e5 e6 e7 e8 e9 e10 e11
      obtain ⟨s1, s2, s3⟩ := hS
      refine any_plain (j := 12) (by kernel_rfl) (Eq.trans (by simp only [zA, zB, zC]; exact rfl) rfl) rfl (fun K hK => ?_)
      refine wp_app1 w w' 24 2 _ _ Tryz.underlying24 info_i rfl (by omega) _ _ rfl A' k c' _ _ s2 (by omega) rfl _ h11 (by rfl) (by rfl) ?_
      intro A2 c2 w2 hM2 hgr
      refine hK.out _ _ ?_
      have hne := s2.2.ne_blk s1 (by decide)
      have hk3 := s1.grown hgr hne
      simp only [Act.put, zD, zE, zF]
      refine any_one (j := 13) (by kernel_rfl) (Eq.trans (by simp only [zA, zB, zC]; exact rfl) rfl) (fun K hK => ?_)
      go_simp
      refine hK.out _ _ (wpAny_done (by kernel_rfl) ?_ _)
      clear W1 W2 s2 s3 hM
      go_wp2
      go_roundw
      case rel => exact ⟨k + 1, A2, c2, by omega, by go_num, rfl, by rw [HV.out]; simpa [MkI, ints] using hM2, hk3⟩
      case measure => simp [intOf]; omega
  · obtain rfl : k = m := by omega
    go_wp2
    go_ret
    exact ⟨_, _, rfl, by unfold sgnL; rw [HX.out]; exact hM⟩
set_option maxHeartbeats 1600000 in
set_option maxRecDepth 8000 in
theorem l04Signs_inv (P : Int) (A : Option Addr) (n c : Nat) (X : Option Addr) (m cx : Nat) (xs : List Int) (w : World) (hp : 2 ≤ P) (hp2 : P ≤ 13) (hm : m ≤ 64) (hx : Rd w X m (ints xs)) (hxs : NumsL P xs) :
    Calls Tryz.prog 275 #[.agg #[.int .i64 P, .slice A n c], .slice X m cx, .bool false, .bool true] w fun e w' => ∃ A' c', e = .returned (.slice A' m c') ∧ MkI w w' A' m c' (sgnL P oddT xs) := by
 have hxl : xs.length = m := by have := hx.1; rwa [ints_length] at this
 have hB0 : Below w.heap.size w (w.alloc (.cells #[.int .i64 P, .slice A n c] 26)) := (Below.refl _ w).alloc (Nat.le_refl _) _
 have k0 : Blk (w.alloc (.cells #[.int .i64 P, .slice A n c] 26)) w.heap.size 26 #[.int .i64 P, .slice A n c] := Blk.new _ _ _
 have hM0 := Mk.lit (E := 2) hB0 #[] (by simp)
 have hM1 : MkI w ((w.alloc (.cells #[.int .i64 P, .slice A n c] 26)).alloc (.cells #[] 2)) (some ⟨w.heap.size + 1, 0, none⟩) 0 0 [] := by simpa [MkI, ints] using hM0
 have k1 := k0.alloc (.cells #[] 2)
 have HX := Lib.hid hxl; clear hxl
 go_enter Tryz.func275, Tryz.ntmps275
 go_wp2
 clear hM0 hB0 k0
 obtain ⟨w1, hw1⟩ : ∃ W, W = (w.alloc (.cells #[.int .i64 P, .slice A n c] 26)).alloc (.cells #[] 2) := ⟨_, rfl⟩
 rw [← hw1] at hM1 k1 ⊢
 clear hw1
 go_loopw [9, 10, 11, 12] (fun o i _ _ wr => ∃ (k : Nat) (A' : Option Addr) (c' : Nat), k ≤ m ∧ i = .int .i64 k ∧ o = .slice A' k c' ∧ MkI w wr A' k c' (tab k fun i => if oddT (pc i) then (-(xs.getD i 0)) % P else xs.getD i 0) ∧ Blk wr w.heap.size 26 #[.int .i64 P, .slice A n c]) (fun _ i _ _ _ => m - (intOf i).toNat)
 case atStart => exact ⟨0, _, _, by omega, rfl, rfl, by simpa [tab] using hM1, k1⟩
 case round =>
  obtain ⟨k, A', c', hk, rfl, rfl, hM, hk2⟩ := hrel
  clear hM1 k1
  by_cases hlt : k < m
  · obtain ⟨gx, ox, rfl, hxk, hcx⟩ := (hx.below hM.b).int hlt
    obtain ⟨x1, x2⟩ := hxs _ (List.getElem_mem hxk)
    have hpk := pc_le 6 k (by omega)
    have hxd := getD_of_lt 0 hxk
    have HXD := Lib.hid hxd; clear hxd
    have hbT : (((pc k : Nat) : Int) % 2 == 1) = oddT (pc k) := by
     unfold oddT
     rw [Bool.eq_iff_iff]
     simp only [beq_iff_eq]
     omega
    cases ht : oddT (pc k)
    · rw [ht] at hbT
      have HV : Hid ((tab (k + 1) fun i => if oddT (pc i) then (-(xs.getD i 0)) % P else xs.getD i 0) = (tab k fun i => if oddT (pc i) then (-(xs.getD i 0)) % P else xs.getD i 0) ++ [xs[k]]) := Lib.hid (by rw [tab_succ, if_neg (by rw [ht]; decide), HXD.out])
      have HM := Lib.hid hM
      clear hM ht
      go_wp2_with (first
       | (go_at_call 249; refine (l04Grade_any k _ (by omega)).mono ?_; rintro e w' ⟨rfl, rfl⟩)
       | (at_builtin; refine wpList_app1 w _ 24 2 _ _ Tryz.underlying24 info_i rfl (by omega) rfl _ _ rfl A' k c' _ _ HM.out (by omega) rfl rfl rfl ?_; intro A2 c2 w2 hM2 hgr _))
      have hne := HM.out.2.ne_blk hk2 (by decide)
      have hk3 := hk2.grown hgr hne
      go_roundw
      case rel => exact ⟨k + 1, A2, c2, by omega, by go_num, rfl, by rw [HV.out]; simpa [MkI, ints] using hM2, hk3⟩
      case measure => simp [intOf]; omega
    · rw [ht] at hbT
      have HV : Hid ((tab (k + 1) fun i => if oddT (pc i) then (-(xs.getD i 0)) % P else xs.getD i 0) = (tab k fun i => if oddT (pc i) then (-(xs.getD i 0)) % P else xs.getD i 0) ++ [(-xs[k]) % P]) := Lib.hid (by rw [tab_succ, if_pos ht, HXD.out])
      clear ht
      have W1 := i64_fit (P - xs[k]) (by omega) (by omega)
      have W2 : (P - xs[k]).tmod P = (-xs[k]) % P := by rw [Int.tmod_eq_emod_of_nonneg (by omega), show P - xs[k] = -xs[k] + P by omega, Int.add_emod_right]
      have i1 : (0 : Int) ≤ (k : Int) := by omega
      have hP0 : ¬ P = 0 := by omega
      have i2 : (k : Int) < (m : Int) := by omega
      go_wp2_with (go_at_call 249; refine (l04Grade_any k _ (by omega)).mono ?_; rintro e w' ⟨rfl, rfl⟩)
      go_wp2
      refine wp_obs 12 [[],[],[1],[],[],[3,4],[3,4,5],[1,2,3,4,5,6],[],[8],[1,2,3,4,5,6,7,8,9],[1,2,3,4,5,6,7,8,9,10],[0,1,2,3,4,5,6,7,8,9,10,11],[0,1,2,3,4,5,6,7,8,9,10,11,12]] [VIs (.slice A' k c'), VIs (.pointer (some ⟨w.heap.size, 0, none⟩)), VIs (.int .i64 P), VIs (.slice (some ⟨gx, ox, none⟩) m cx), VIs (.int .i64 k), VIs (.pointer (some ⟨gx, ox + k, none⟩)), VIs (.int .i64 xs[k]), VIs (.int .i64 (P - xs[k])), VIs (.pointer (some ⟨w.heap.size, 0, none⟩)), VIs (.int .i64 P), VIs (.int .i64 ((-xs[k]) % P)), VBs 2 #[.int .i64 ((-xs[k]) % P)]] (fun w' => Blk w' w.heap.size 26 #[.int .i64 P, .slice A n c] ∧ MkI w w' A' k c' (tab k fun i => if oddT (pc i) then (-(xs.getD i 0)) % P else xs.getD i 0) ∧ w'.cell? ⟨gx, ox + k, none⟩ = some (.int .i64 xs[k])) (by kernel_rfl) (by kernel_rfl) (fun _ _ h hb => ⟨h.1.below hb h.1.lt, h.2.1.below hb, (hb.cell (World.block_lt_of_cell? _ _ h.2.2)).trans h.2.2⟩) (⟨hk2.drew, hM.drew, hcx⟩) (fun x => ?_)
      refine zS (fun w' hS hV K hK => ?_) ?_
      · obtain ⟨q0, q1⟩ := hS.1.two; have q2 := hS.2.2; go_simp; exact zO hK
      refine zS (fun w' hS hV K hK => ?_) ?_
      · obtain ⟨q0, q1⟩ := hS.1.two; have q2 := hS.2.2; go_simp; exact zO hK
      refine zS (fun w' hS hV K hK => ?_) ?_
      · simp only [List.mem_cons, zJ, or_false, forall_eq, zH, zI, VIs, VAny, VBs] at hV; obtain e1 := hV; obtain ⟨q0, q1⟩ := hS.1.two; have q2 := hS.2.2; go_simp; exact zO hK
      refine zS (fun w' hS hV K hK => ?_) ?_
      · obtain ⟨q0, q1⟩ := hS.1.two; have q2 := hS.2.2; go_simp; exact zO hK
      refine zS (fun w' hS hV K hK => ?_) ?_
      · obtain ⟨q0, q1⟩ := hS.1.two; have q2 := hS.2.2; go_simp; exact zO hK
      refine zS (fun w' hS hV K hK => ?_) ?_
      · simp only [zL, zM, zH, zI, VIs, VAny, VBs] at hV; obtain ⟨e3, e4⟩ := hV; obtain ⟨q0, q1⟩ := hS.1.two; have q2 := hS.2.2; go_simp; exact zO hK
      refine zS (fun w' hS hV K hK => ?_) ?_
      · simp only [zL, zM, zH, zI, VIs, VAny, VBs] at hV; obtain ⟨e3, e4, e5⟩ := hV; obtain ⟨q0, q1⟩ := hS.1.two; have q2 := hS.2.2; go_simp; exact zO hK
      refine zS (fun w' hS hV K hK => ?_) ?_
      · simp only [zL, zM, zH, zI, VIs, VAny, VBs] at hV; obtain ⟨e1, e2, e3, e4, e5, e6⟩ := hV; obtain ⟨q0, q1⟩ := hS.1.two; have q2 := hS.2.2; go_simp; exact zO hK
      refine zS (fun w' hS hV K hK => ?_) ?_
      · obtain ⟨q0, q1⟩ := hS.1.two; have q2 := hS.2.2; go_simp; exact zO hK
      refine zS (fun w' hS hV K hK => ?_) ?_
      · simp only [List.mem_cons, zJ, or_false, forall_eq, zH, zI, VIs, VAny, VBs] at hV; obtain e8 := hV; obtain ⟨q0, q1⟩ := hS.1.two; have q2 := hS.2.2; go_simp; exact zO hK
      refine zS (fun w' hS hV K hK => ?_) ?_
      · simp only [zL, zM, zH, zI, VIs, VAny, VBs] at hV; obtain ⟨e1, e2, e3, e4, e5, e6, e7, e8, e9⟩ := hV; obtain ⟨q0, q1⟩ := hS.1.two; have q2 := hS.2.2; go_simp; exact zO hK
      refine zS (fun w' hS hV K hK => ?_) ?_
      · simp only [zL, zM, zH, zI, VIs, VAny, VBs] at hV; obtain ⟨e1, e2, e3, e4, e5, e6, e7, e8, e9, e10⟩ := hV; obtain ⟨q0, q1⟩ := hS.1.two; have q2 := hS.2.2; go_simp; exact hK.out _ _ _ rfl rfl ⟨_, rfl, Blk.new _ _ _⟩ (zG.alloc (Nat.le_refl _) _)
      refine fun w' hS hV => ?_
      have hV := fun i hi => hV i (List.mem_range.1 hi)
      simp only [List.range, List.range.loop, zL, zM, zH, zI, VIs, VAny, VBs] at hV
      obtain ⟨e0, e1, e2, e3, e4, e5, e6, e7, e8, e9, e10, ⟨b11, e11, h11⟩⟩ := hV
      simp only [e0, e1, e2, e3, e4, e5, e6, e7, e8, e9, e10, e11]
      clear e0 e1 e2 e3 e4 e5 e6 e7 e8 e9 e10 e11
      obtain ⟨s1, s2, s3⟩ := hS
      refine any_plain (j := 12) (by kernel_rfl) (Eq.trans (by simp only [zA, zB, zC]; exact rfl) rfl) rfl (fun K hK => ?_)
      refine wp_app1 w w' 24 2 _ _ Tryz.underlying24 info_i rfl (by omega) _ _ rfl A' k c' _ _ s2 (by omega) rfl _ h11 (by rfl) (by rfl) ?_
      intro A2 c2 w2 hM2 hgr
      refine hK.out _ _ ?_
      have hne := s2.2.ne_blk s1 (by decide)
      have hk3 := s1.grown hgr hne
      simp only [Act.put, zD, zE, zF]
      refine any_one (j := 13) (by kernel_rfl) (Eq.trans (by simp only [zA, zB, zC]; exact rfl) rfl) (fun K hK => ?_)
      go_simp
      refine hK.out _ _ (wpAny_done (by kernel_rfl) ?_ _)
      clear W1 W2 s2 s3 hM
      go_wp2
      go_roundw
      case rel => exact ⟨k + 1, A2, c2, by omega, by go_num, rfl, by rw [HV.out]; simpa [MkI, ints] using hM2, hk3⟩
      case measure => simp [intOf]; omega
  · obtain rfl : k = m := by omega
    go_wp2
    go_ret
    exact ⟨_, _, rfl, by unfold sgnL; rw [HX.out]; exact hM⟩
set_option maxHeartbeats 400000 in
set_option maxRecDepth 8000 in
theorem l04Reverse_any (P : Int) (A : Option Addr) (n c : Nat) (X : Option Addr) (m cx : Nat) (xs : List Int) (w : World) (hp : 2 ≤ P) (hp2 : P ≤ 13) (hm : m ≤ 64) (hx : Rd w X m (ints xs)) (hxs : NumsL P xs) :
    Calls Tryz.prog 259 #[.agg #[.int .i64 P, .slice A n c], .slice X m cx] w fun e w' => ∃ A' c', e = .returned (.slice A' m c') ∧ MkI w w' A' m c' (revL P xs) := by
 have hB0 : Below w.heap.size w (w.alloc (.cells #[.int .i64 P, .slice A n c] 26)) := (Below.refl _ w).alloc (Nat.le_refl _) _
 have hcall := l04Signs_rev P A n c X m cx xs _ hp hp2 hm (hx.below hB0) hxs
 go_enter Tryz.func259, Tryz.ntmps259
 go_wp2_with (go_at_call 275; refine hcall.mono ?_; rintro e w1 ⟨A', c', rfl, hM⟩)
 go_ret
 exact ⟨_, _, rfl, hM.after hB0⟩
set_option maxHeartbeats 400000 in
set_option maxRecDepth 8000 in
theorem l04Involute_any (P : Int) (A : Option Addr) (n c : Nat) (X : Option Addr) (m cx : Nat) (xs : List Int) (w : World) (hp : 2 ≤ P) (hp2 : P ≤ 13) (hm : m ≤ 64) (hx : Rd w X m (ints xs)) (hxs : NumsL P xs) :
    Calls Tryz.prog 261 #[.agg #[.int .i64 P, .slice A n c], .slice X m cx] w fun e w' => ∃ A' c', e = .returned (.slice A' m c') ∧ MkI w w' A' m c' (invoL P xs) := by
 have hB0 : Below w.heap.size w (w.alloc (.cells #[.int .i64 P, .slice A n c] 26)) := (Below.refl _ w).alloc (Nat.le_refl _) _
 have hcall := l04Signs_inv P A n c X m cx xs _ hp hp2 hm (hx.below hB0) hxs
 go_enter Tryz.func261, Tryz.ntmps261
 go_wp2_with (go_at_call 275; refine hcall.mono ?_; rintro e w1 ⟨A', c', rfl, hM⟩)
 go_ret
 exact ⟨_, _, rfl, hM.after hB0⟩
/-- The spinor norm. -/
def nrmL (P : Int) (sq xs : List Int) : Int := (mulL P sq xs (revL P xs)).getD 0 0
theorem nrmL_small {P : Int} (hp : 2 ≤ P) (sq xs : List Int) : 0 ≤ nrmL P sq xs ∧ nrmL P sq xs < P := (mulL_nums (by omega) sq xs _).getD (by omega) 0
/-- The inverse of a versor. -/
def vinvL (P : Int) (sq xs : List Int) : List Int := scaleL P (revL P xs) (invF P (nrmL P sq xs))
theorem vinvL_nums {P : Int} (hp : 2 ≤ P) (sq xs : List Int) : NumsL P (vinvL P sq xs) := scaleL_nums (by omega) _ _
/-- The sandwich of a versor. -/
def sandL (P : Int) (sq : List Int) (n : Nat) (xs v : List Int) : List Int := partL n (mulL P sq (mulL P sq (invoL P xs) (vecTo n v n)) (vinvL P sq xs))
theorem sandL_nums {P : Int} (hp : 2 ≤ P) (sq : List Int) (n : Nat) (xs v : List Int) : NumsL P (sandL P sq n xs v) := partL_nums (by omega) n _ (mulL_nums (by omega) sq _ _)
set_option maxHeartbeats 1600000 in
set_option maxRecDepth 8000 in
theorem spinorNorm_any (P : Int) (A : Option Addr) (n c : Nat) (sq : List Int) (X : Option Addr) (cx : Nat) (xs : List Int) (w : World) (hp : 2 ≤ P) (hp2 : P ≤ 13) (hn : n ≤ 6) (ha : Rd w A n (ints sq)) (hs : NumsL P sq) (hx : Rd w X (pw n) (ints xs)) (hxs : NumsL P xs) (hcx : pw n ≤ cx) :
    Calls Tryz.prog 201 #[.agg #[.int .i64 P, .slice A n c], .slice X (pw n) cx] w fun e w' => e = .returned (.int .i64 (nrmL P sq xs)) ∧ Below w.heap.size w w' := by
 have hB0 : Below w.heap.size w (w.alloc (.cells #[.int .i64 P, .slice A n c] 26)) := zG.alloc (Nat.le_refl _) _
 have k0 : Blk (w.alloc (.cells #[.int .i64 P, .slice A n c] 26)) w.heap.size 26 #[.int .i64 P, .slice A n c] := Blk.new _ _ _
 have HPW : pw n ≤ 65536 := Nat.le_trans (pw_le (show n ≤ 10 by omega)) (by decide)
 have HPW64 : pw n ≤ 64 := pw_le hn
 go_enter Tryz.func201, Tryz.ntmps201
 go_wp2
 refine wp_obs 10 [[],[],[],[],[2,3],[1,2,3,4],[0,1,2,3,4,5],[0,1,2,3,4,5,6],[0,1,2,3,4,5,6,7],[0,1,2,3,4,5,6,7,8]] [VIs (.agg #[.int .i64 P, .slice A n c]), VIs (.slice X (pw n) cx), VIs (.agg #[.int .i64 P, .slice A n c]), VIs (.slice X (pw n) cx), VSl w (pw n) (revL P xs), VRow 2 [xs, (revL P xs)], VSl w (pw n) (timesL P sq n [xs, (revL P xs)]), VCell (.int .i64 ((timesL P sq n [xs, (revL P xs)]).getD 0 0)), VIs (.int .i64 ((timesL P sq n [xs, (revL P xs)]).getD 0 0)), VIs (.int .i64 ((timesL P sq n [xs, (revL P xs)]).getD 0 0))] (fun w' => Blk w' w.heap.size 26 #[.int .i64 P, .slice A n c] ∧ Below w.heap.size w w') (by kernel_rfl) (by kernel_rfl) (fun _ _ h hb => ⟨h.1.below hb h.1.lt, h.2.trans (hb.mono h.2.size)⟩) (⟨k0.drew, hB0.drew⟩) (fun x => ?_)
 refine zS (fun w' hS hV K hK => ?_) ?_
 · obtain ⟨q0, q1⟩ := hS.1.two; go_simp; exact zO hK
 refine zS (fun w' hS hV K hK => ?_) ?_
 · obtain ⟨q0, q1⟩ := hS.1.two; go_simp; exact zO hK
 refine zS (fun w' hS hV K hK => ?_) ?_
 · obtain ⟨q0, q1⟩ := hS.1.two; go_simp; exact zO hK
 refine zS (fun w' hS hV K hK => ?_) ?_
 · obtain ⟨q0, q1⟩ := hS.1.two; go_simp; exact zO hK
 refine zS (fun w' hS hV K hK => ?_) ?_
 · have e2 := zQ hV 2; have e3 := zQ hV 3; obtain ⟨q0, q1⟩ := hS.1.two; go_simp; refine (reverse_any P A n c _ (pw n) _ xs _ hp hp2 HPW64 (hx.below hS.2) hxs).mono ?_; rintro e w1 ⟨A2, c2, rfl, hM⟩; exact hK.out _ _ _ rfl rfl ⟨_, _, rfl, hM.after hS.2⟩ hM.b
 refine zS (fun w' hS hV K hK => ?_) ?_
 · have e1 := zQ hV 1; obtain ⟨A4, c4, e4, h4⟩ := hV 4 (by decide); obtain ⟨q0, q1⟩ := hS.1.two; go_simp; exact hK.out _ _ _ rfl rfl ⟨_, _, rfl, rdII_two (Blk.new _ _ _) (Rd.below ((hx.below hS.2)) (zG.alloc (Nat.le_refl _) _)) (Rd.below (h4.rd) (zG.alloc (Nat.le_refl _) _)) (hcx) (h4.2.cap)⟩ (zG.alloc (Nat.le_refl _) _)
 refine zS (fun w' hS hV K hK => ?_) ?_
 · have e0 := zQ hV 0; obtain ⟨A4, c4, e4, h4⟩ := hV 4 (by decide); obtain ⟨A5, c5, e5, h5⟩ := hV 5 (by decide); obtain ⟨q0, q1⟩ := hS.1.two; go_simp; refine (times_any P A n c sq _ 2 _ [xs, (revL P xs)] _ hp hp2 hn (by omega) (ha.below hS.2) hs h5 (all_two ⟨hxs, Rd.lenI ((hx.below hS.2))⟩ ⟨(sgnL_nums (by omega) revT hxs), Rd.lenI (h4.rd)⟩)).mono ?_; rintro e w1 ⟨A2, c2, rfl, hM⟩; exact hK.out _ _ _ rfl rfl ⟨_, _, rfl, hM.after hS.2⟩ hM.b
 refine zS (fun w' hS hV K hK => ?_) ?_
 · obtain ⟨A6, c6, e6, h6⟩ := hV 6 (by decide)
   obtain ⟨q0, q1⟩ := hS.1.two
   rcases h6.2.form with ⟨_, hz⟩ | ⟨g6, hg6, _, _⟩
   · exact absurd hz (by have := pw_pos n; omega)
   subst hg6
   obtain ⟨hcell, _⟩ := mkI_at h6 (pw_pos n)
   have hposI : 0 < pw n := pw_pos n
   go_simp
   exact hK.out _ _ _ rfl rfl ⟨_, rfl, hcell⟩ zG
 refine zS (fun w' hS hV K hK => ?_) ?_
 · obtain ⟨p7, e7, h7⟩ := hV 7 (by decide); obtain ⟨q0, q1⟩ := hS.1.two; go_simp; exact zO hK
 refine zS (fun w' hS hV K hK => ?_) ?_
 · have e8 := zQ hV 8; obtain ⟨q0, q1⟩ := hS.1.two; go_simp; exact zO hK
 refine fun w' hS hV => ?_
 have hV := fun i hi => hV i (List.mem_range.1 hi)
 simp only [List.range, List.range.loop, zL, zM, zH, zI, VIs, VSl, VRow, VAny, VCell] at hV
 obtain ⟨e0, e1, e2, e3, ⟨A4, c4, e4, h4⟩, ⟨A5, c5, e5, h5⟩, ⟨A6, c6, e6, h6⟩, ⟨p7, e7, h7⟩, e8, e9⟩ := hV
 simp only [e0, e1, e2, e3, e4, e5, e6, e7, e8, e9]
 clear e0 e1 e2 e3 e4 e5 e6 e7 e8 e9
 refine wpAny_done (by kernel_rfl) ?_ _
 go_wp2
 go_ret
 exact ⟨ret_int (by unfold nrmL; rw [timesL_two P sq n _ _ hx.lenI hxs, List.getD_eq_getElem?_getD]), hS.2⟩
set_option maxHeartbeats 1600000 in
set_option maxRecDepth 8000 in
theorem l07Norm_any (P : Int) (A : Option Addr) (n c : Nat) (sq : List Int) (X : Option Addr) (cx : Nat) (xs : List Int) (w : World) (hp : 2 ≤ P) (hp2 : P ≤ 13) (hn : n ≤ 6) (ha : Rd w A n (ints sq)) (hs : NumsL P sq) (hx : Rd w X (pw n) (ints xs)) (hxs : NumsL P xs) (_hcx : pw n ≤ cx) :
    Calls Tryz.prog 277 #[.agg #[.int .i64 P, .slice A n c], .slice X (pw n) cx] w fun e w' => e = .returned (.int .i64 (nrmL P sq xs)) ∧ Below w.heap.size w w' := by
 have hB0 : Below w.heap.size w (w.alloc (.cells #[.int .i64 P, .slice A n c] 26)) := zG.alloc (Nat.le_refl _) _
 have k0 : Blk (w.alloc (.cells #[.int .i64 P, .slice A n c] 26)) w.heap.size 26 #[.int .i64 P, .slice A n c] := Blk.new _ _ _
 have HPW : pw n ≤ 65536 := Nat.le_trans (pw_le (show n ≤ 10 by omega)) (by decide)
 have HPW64 : pw n ≤ 64 := pw_le hn
 go_enter Tryz.func277, Tryz.ntmps277
 go_wp2
 refine wp_obs 9 [[],[],[],[],[2,3],[0,1,2,3,4],[0,1,2,3,4,5],[0,1,2,3,4,5,6],[0,1,2,3,4,5,6,7]] [VIs (.agg #[.int .i64 P, .slice A n c]), VIs (.slice X (pw n) cx), VIs (.agg #[.int .i64 P, .slice A n c]), VIs (.slice X (pw n) cx), VSl w (pw n) (revL P xs), VSl w (pw n) (mulL P sq xs (revL P xs)), VCell (.int .i64 ((mulL P sq xs (revL P xs)).getD 0 0)), VIs (.int .i64 ((mulL P sq xs (revL P xs)).getD 0 0)), VIs (.int .i64 ((mulL P sq xs (revL P xs)).getD 0 0))] (fun w' => Blk w' w.heap.size 26 #[.int .i64 P, .slice A n c] ∧ Below w.heap.size w w') (by kernel_rfl) (by kernel_rfl) (fun _ _ h hb => ⟨h.1.below hb h.1.lt, h.2.trans (hb.mono h.2.size)⟩) (⟨k0.drew, hB0.drew⟩) (fun x => ?_)
 refine zS (fun w' hS hV K hK => ?_) ?_
 · obtain ⟨q0, q1⟩ := hS.1.two; go_simp; exact zO hK
 refine zS (fun w' hS hV K hK => ?_) ?_
 · obtain ⟨q0, q1⟩ := hS.1.two; go_simp; exact zO hK
 refine zS (fun w' hS hV K hK => ?_) ?_
 · obtain ⟨q0, q1⟩ := hS.1.two; go_simp; exact zO hK
 refine zS (fun w' hS hV K hK => ?_) ?_
 · obtain ⟨q0, q1⟩ := hS.1.two; go_simp; exact zO hK
 refine zS (fun w' hS hV K hK => ?_) ?_
 · have e2 := zQ hV 2; have e3 := zQ hV 3; obtain ⟨q0, q1⟩ := hS.1.two; go_simp; refine (l04Reverse_any P A n c _ (pw n) _ xs _ hp hp2 HPW64 (hx.below hS.2) hxs).mono ?_; rintro e w1 ⟨A2, c2, rfl, hM⟩; exact hK.out _ _ _ rfl rfl ⟨_, _, rfl, hM.after hS.2⟩ hM.b
 refine zS (fun w' hS hV K hK => ?_) ?_
 · have e0 := zQ hV 0; have e1 := zQ hV 1; obtain ⟨A4, c4, e4, h4⟩ := hV 4 (by decide); obtain ⟨q0, q1⟩ := hS.1.two; go_simp; refine (l04Times_any P A n c sq _ _ xs _ _ (revL P xs) _ hp hp2 hn (ha.below hS.2) hs (hx.below hS.2) hxs h4.rd (sgnL_nums (by omega) revT hxs)).mono ?_; rintro e w1 ⟨A2, c2, rfl, hM⟩; exact hK.out _ _ _ rfl rfl ⟨_, _, rfl, hM.after hS.2⟩ hM.b
 refine zS (fun w' hS hV K hK => ?_) ?_
 · obtain ⟨A5, c5, e5, h5⟩ := hV 5 (by decide)
   obtain ⟨q0, q1⟩ := hS.1.two
   rcases h5.2.form with ⟨_, hz⟩ | ⟨g5, hg5, _, _⟩
   · exact absurd hz (by have := pw_pos n; omega)
   subst hg5
   obtain ⟨hcell, _⟩ := mkI_at h5 (pw_pos n)
   have hposI : 0 < pw n := pw_pos n
   go_simp
   exact hK.out _ _ _ rfl rfl ⟨_, rfl, hcell⟩ zG
 refine zS (fun w' hS hV K hK => ?_) ?_
 · obtain ⟨p6, e6, h6⟩ := hV 6 (by decide); obtain ⟨q0, q1⟩ := hS.1.two; go_simp; exact zO hK
 refine zS (fun w' hS hV K hK => ?_) ?_
 · have e7 := zQ hV 7; obtain ⟨q0, q1⟩ := hS.1.two; go_simp; exact zO hK
 refine fun w' hS hV => ?_
 have hV := fun i hi => hV i (List.mem_range.1 hi)
 simp only [List.range, List.range.loop, zL, zM, zH, zI, VIs, VSl, VAny, VCell] at hV
 obtain ⟨e0, e1, e2, e3, ⟨A4, c4, e4, h4⟩, ⟨A5, c5, e5, h5⟩, ⟨p6, e6, h6⟩, e7, e8⟩ := hV
 simp only [e0, e1, e2, e3, e4, e5, e6, e7, e8]
 clear e0 e1 e2 e3 e4 e5 e6 e7 e8
 refine wpAny_done (by kernel_rfl) ?_ _
 go_wp2
 go_ret
 exact ⟨ret_int (by unfold nrmL; rw [List.getD_eq_getElem?_getD]), hS.2⟩
set_option maxHeartbeats 1600000 in
set_option maxRecDepth 8000 in
theorem versorInverse_any (P : Int) (A : Option Addr) (n c : Nat) (sq : List Int) (X : Option Addr) (cx : Nat) (xs : List Int) (w : World) (hp : 2 ≤ P) (hp2 : P ≤ 13) (hn : n ≤ 6) (ha : Rd w A n (ints sq)) (hs : NumsL P sq) (hx : Rd w X (pw n) (ints xs)) (hxs : NumsL P xs) (hcx : pw n ≤ cx) :
    Calls Tryz.prog 202 #[.agg #[.int .i64 P, .slice A n c], .slice X (pw n) cx] w fun e w' => ∃ A' c', e = .returned (.slice A' (pw n) c') ∧ MkI w w' A' (pw n) c' (vinvL P sq xs) := by
 have hB0 : Below w.heap.size w (w.alloc (.cells #[.int .i64 P, .slice A n c] 26)) := zG.alloc (Nat.le_refl _) _
 have k0 : Blk (w.alloc (.cells #[.int .i64 P, .slice A n c] 26)) w.heap.size 26 #[.int .i64 P, .slice A n c] := Blk.new _ _ _
 have HPW : pw n ≤ 65536 := Nat.le_trans (pw_le (show n ≤ 10 by omega)) (by decide)
 have HPW64 : pw n ≤ 64 := pw_le hn
 go_enter Tryz.func202, Tryz.ntmps202
 go_wp2
 refine wp_obs 13 [[],[0],[],[],[2,3],[],[5],[],[],[7,8],[5,6,7,8,9],[0,1,2,3,4,5,6,7,8,9,10],[0,1,2,3,4,5,6,7,8,9,10,11]] [VIs (.agg #[.int .i64 P, .slice A n c]), VIs (.int .i64 P), VIs (.agg #[.int .i64 P, .slice A n c]), VIs (.slice X (pw n) cx), VSl w (pw n) (revL P xs), VIs (.agg #[.int .i64 P, .slice A n c]), VIs (.int .i64 P), VIs (.agg #[.int .i64 P, .slice A n c]), VIs (.slice X (pw n) cx), VIs (.int .i64 (nrmL P sq xs)), VIs (.int .i64 (invF P (nrmL P sq xs))), VSl w (pw n) (scaleL P (revL P xs) (invF P (nrmL P sq xs))), VSl w (pw n) (scaleL P (revL P xs) (invF P (nrmL P sq xs)))] (fun w' => Blk w' w.heap.size 26 #[.int .i64 P, .slice A n c] ∧ Below w.heap.size w w') (by kernel_rfl) (by kernel_rfl) (fun _ _ h hb => ⟨h.1.below hb h.1.lt, h.2.trans (hb.mono h.2.size)⟩) (⟨k0.drew, hB0.drew⟩) (fun x => ?_)
 refine zS (fun w' hS hV K hK => ?_) ?_
 · obtain ⟨q0, q1⟩ := hS.1.two; go_simp; exact zO hK
 refine zS (fun w' hS hV K hK => ?_) ?_
 · simp only [List.mem_cons, zJ, or_false, forall_eq, zH, zI, VIs, VSl, VAny] at hV; obtain e0 := hV; obtain ⟨q0, q1⟩ := hS.1.two; go_simp; refine (field_any _ _ _ _ _).mono ?_; rintro e w1 ⟨rfl, hb⟩; exact hK.out _ _ _ rfl rfl rfl hb
 refine zS (fun w' hS hV K hK => ?_) ?_
 · obtain ⟨q0, q1⟩ := hS.1.two; go_simp; exact zO hK
 refine zS (fun w' hS hV K hK => ?_) ?_
 · obtain ⟨q0, q1⟩ := hS.1.two; go_simp; exact zO hK
 refine zS (fun w' hS hV K hK => ?_) ?_
 · have e2 := zQ hV 2; have e3 := zQ hV 3; obtain ⟨q0, q1⟩ := hS.1.two; go_simp; refine (reverse_any P A n c _ (pw n) _ xs _ hp hp2 HPW64 (hx.below hS.2) hxs).mono ?_; rintro e w1 ⟨A2, c2, rfl, hM⟩; exact hK.out _ _ _ rfl rfl ⟨_, _, rfl, hM.after hS.2⟩ hM.b
 refine zS (fun w' hS hV K hK => ?_) ?_
 · obtain ⟨q0, q1⟩ := hS.1.two; go_simp; exact zO hK
 refine zS (fun w' hS hV K hK => ?_) ?_
 · simp only [List.mem_cons, zJ, or_false, forall_eq, zH, zI, VIs, VSl, VAny] at hV; obtain e5 := hV; obtain ⟨q0, q1⟩ := hS.1.two; go_simp; refine (field_any _ _ _ _ _).mono ?_; rintro e w1 ⟨rfl, hb⟩; exact hK.out _ _ _ rfl rfl rfl hb
 refine zS (fun w' hS hV K hK => ?_) ?_
 · obtain ⟨q0, q1⟩ := hS.1.two; go_simp; exact zO hK
 refine zS (fun w' hS hV K hK => ?_) ?_
 · obtain ⟨q0, q1⟩ := hS.1.two; go_simp; exact zO hK
 refine zS (fun w' hS hV K hK => ?_) ?_
 · have e7 := zQ hV 7; have e8 := zQ hV 8; obtain ⟨q0, q1⟩ := hS.1.two; go_simp; refine (spinorNorm_any P A n c sq _ _ xs _ hp hp2 hn (ha.below hS.2) hs (hx.below hS.2) hxs hcx).mono ?_; rintro e w1 ⟨rfl, hb⟩; exact hK.out _ _ _ rfl rfl rfl hb
 refine zS (fun w' hS hV K hK => ?_) ?_
 · have e6 := zQ hV 6; have e9 := zQ hV 9; obtain ⟨q0, q1⟩ := hS.1.two; go_simp; refine (inv_any P (nrmL P sq xs) _ hp hp2 (nrmL_small hp sq xs).1 (nrmL_small hp sq xs).2).mono ?_; rintro e w1 ⟨rfl, rfl⟩; exact zO hK
 refine zS (fun w' hS hV K hK => ?_) ?_
 · have e1 := zQ hV 1; obtain ⟨A4, c4, e4, h4⟩ := hV 4 (by decide); have e10 := zQ hV 10; obtain ⟨q0, q1⟩ := hS.1.two; go_simp; refine (scaled_any P _ (pw n) _ (invF P (nrmL P sq xs)) (revL P xs) _ hp hp2 HPW h4.rd (sgnL_nums (by omega) revT hxs) (by have := (invF_small hp (nrmL P sq xs)); omega) (by have := (invF_small hp (nrmL P sq xs)); omega)).mono ?_; rintro e w1 ⟨A2, c2, rfl, hM⟩; exact hK.out _ _ _ rfl rfl ⟨_, _, rfl, hM.after hS.2⟩ hM.b
 refine zS (fun w' hS hV K hK => ?_) ?_
 · obtain ⟨A11, c11, e11, h11⟩ := hV 11 (by decide); obtain ⟨q0, q1⟩ := hS.1.two; go_simp; exact hK.out _ _ _ rfl rfl ⟨_, _, rfl, h11⟩ zG
 refine fun w' hS hV => ?_
 have hV := fun i hi => hV i (List.mem_range.1 hi)
 simp only [List.range, List.range.loop, zL, zM, zH, zI, VIs, VSl, VAny] at hV
 obtain ⟨e0, e1, e2, e3, ⟨A4, c4, e4, h4⟩, e5, e6, e7, e8, e9, e10, ⟨A11, c11, e11, h11⟩, ⟨A12, c12, e12, h12⟩⟩ := hV
 simp only [e0, e1, e2, e3, e4, e5, e6, e7, e8, e9, e10, e11, e12]
 clear e0 e1 e2 e3 e4 e5 e6 e7 e8 e9 e10 e11 e12
 refine wpAny_done (by kernel_rfl) ?_ _
 go_wp2
 go_ret
 exact ⟨_, _, rfl, h12⟩
set_option maxHeartbeats 1600000 in
set_option maxRecDepth 8000 in
theorem l07Inverse_any (P : Int) (A : Option Addr) (n c : Nat) (sq : List Int) (X : Option Addr) (cx : Nat) (xs : List Int) (w : World) (hp : 2 ≤ P) (hp2 : P ≤ 13) (hn : n ≤ 6) (ha : Rd w A n (ints sq)) (hs : NumsL P sq) (hx : Rd w X (pw n) (ints xs)) (hxs : NumsL P xs) (hcx : pw n ≤ cx) (HP : isP P = true) (hpos : 0 < nrmL P sq xs) :
    Calls Tryz.prog 262 #[.agg #[.int .i64 P, .slice A n c], .slice X (pw n) cx] w fun e w' => ∃ A' c', e = .returned (.slice A' (pw n) c') ∧ MkI w w' A' (pw n) c' (vinvL P sq xs) := by
 have hB0 : Below w.heap.size w (w.alloc (.cells #[.int .i64 P, .slice A n c] 26)) := zG.alloc (Nat.le_refl _) _
 have k0 : Blk (w.alloc (.cells #[.int .i64 P, .slice A n c] 26)) w.heap.size 26 #[.int .i64 P, .slice A n c] := Blk.new _ _ _
 have HPW : pw n ≤ 65536 := Nat.le_trans (pw_le (show n ≤ 10 by omega)) (by decide)
 have HPW64 : pw n ≤ 64 := pw_le hn
 go_enter Tryz.func262, Tryz.ntmps262
 go_wp2
 refine wp_obs 13 [[],[0],[],[],[2,3],[],[5],[],[],[7,8],[5,6,7,8,9],[0,1,2,3,4,5,6,7,8,9,10],[0,1,2,3,4,5,6,7,8,9,10,11]] [VIs (.pointer (some ⟨w.heap.size, 0, none⟩)), VIs (.int .i64 P), VIs (.agg #[.int .i64 P, .slice A n c]), VIs (.slice X (pw n) cx), VSl w (pw n) (revL P xs), VIs (.pointer (some ⟨w.heap.size, 0, none⟩)), VIs (.int .i64 P), VIs (.agg #[.int .i64 P, .slice A n c]), VIs (.slice X (pw n) cx), VIs (.int .i64 (nrmL P sq xs)), VIs (.int .i64 (invF P (nrmL P sq xs))), VSl w (pw n) (scaleL P (revL P xs) (invF P (nrmL P sq xs))), VSl w (pw n) (scaleL P (revL P xs) (invF P (nrmL P sq xs)))] (fun w' => Blk w' w.heap.size 26 #[.int .i64 P, .slice A n c] ∧ Below w.heap.size w w') (by kernel_rfl) (by kernel_rfl) (fun _ _ h hb => ⟨h.1.below hb h.1.lt, h.2.trans (hb.mono h.2.size)⟩) (⟨k0.drew, hB0.drew⟩) (fun x => ?_)
 refine zS (fun w' hS hV K hK => ?_) ?_
 · obtain ⟨q0, q1⟩ := hS.1.two; go_simp; exact zO hK
 refine zS (fun w' hS hV K hK => ?_) ?_
 · simp only [List.mem_cons, zJ, or_false, forall_eq, zH, zI, VIs, VSl, VAny] at hV; obtain e0 := hV; obtain ⟨q0, q1⟩ := hS.1.two; go_simp; exact zO hK
 refine zS (fun w' hS hV K hK => ?_) ?_
 · obtain ⟨q0, q1⟩ := hS.1.two; go_simp; exact zO hK
 refine zS (fun w' hS hV K hK => ?_) ?_
 · obtain ⟨q0, q1⟩ := hS.1.two; go_simp; exact zO hK
 refine zS (fun w' hS hV K hK => ?_) ?_
 · have e2 := zQ hV 2; have e3 := zQ hV 3; obtain ⟨q0, q1⟩ := hS.1.two; go_simp; refine (l04Reverse_any P A n c _ (pw n) _ xs _ hp hp2 HPW64 (hx.below hS.2) hxs).mono ?_; rintro e w1 ⟨A2, c2, rfl, hM⟩; exact hK.out _ _ _ rfl rfl ⟨_, _, rfl, hM.after hS.2⟩ hM.b
 refine zS (fun w' hS hV K hK => ?_) ?_
 · obtain ⟨q0, q1⟩ := hS.1.two; go_simp; exact zO hK
 refine zS (fun w' hS hV K hK => ?_) ?_
 · simp only [List.mem_cons, zJ, or_false, forall_eq, zH, zI, VIs, VSl, VAny] at hV; obtain e5 := hV; obtain ⟨q0, q1⟩ := hS.1.two; go_simp; exact zO hK
 refine zS (fun w' hS hV K hK => ?_) ?_
 · obtain ⟨q0, q1⟩ := hS.1.two; go_simp; exact zO hK
 refine zS (fun w' hS hV K hK => ?_) ?_
 · obtain ⟨q0, q1⟩ := hS.1.two; go_simp; exact zO hK
 refine zS (fun w' hS hV K hK => ?_) ?_
 · have e7 := zQ hV 7; have e8 := zQ hV 8; obtain ⟨q0, q1⟩ := hS.1.two; go_simp; refine (l07Norm_any P A n c sq _ _ xs _ hp hp2 hn (ha.below hS.2) hs (hx.below hS.2) hxs hcx).mono ?_; rintro e w1 ⟨rfl, hb⟩; exact hK.out _ _ _ rfl rfl rfl hb
 refine zS (fun w' hS hV K hK => ?_) ?_
 · have e6 := zQ hV 6; have e9 := zQ hV 9; obtain ⟨q0, q1⟩ := hS.1.two; go_simp; refine (l01Inv_any P (nrmL P sq xs) _ HP hpos (nrmL_small hp sq xs).2).mono ?_; rintro e w1 ⟨rfl, rfl⟩; exact zO hK
 refine zS (fun w' hS hV K hK => ?_) ?_
 · have e1 := zQ hV 1; obtain ⟨A4, c4, e4, h4⟩ := hV 4 (by decide); have e10 := zQ hV 10; obtain ⟨q0, q1⟩ := hS.1.two; go_simp; refine (l02Scale_any P _ (pw n) _ (invF P (nrmL P sq xs)) (revL P xs) _ hp hp2 HPW h4.rd (sgnL_nums (by omega) revT hxs) (by have := (invF_small hp (nrmL P sq xs)); omega) (by have := (invF_small hp (nrmL P sq xs)); omega)).mono ?_; rintro e w1 ⟨A2, c2, rfl, hM⟩; exact hK.out _ _ _ rfl rfl ⟨_, _, rfl, hM.after hS.2⟩ hM.b
 refine zS (fun w' hS hV K hK => ?_) ?_
 · obtain ⟨A11, c11, e11, h11⟩ := hV 11 (by decide); obtain ⟨q0, q1⟩ := hS.1.two; go_simp; exact hK.out _ _ _ rfl rfl ⟨_, _, rfl, h11⟩ zG
 refine fun w' hS hV => ?_
 have hV := fun i hi => hV i (List.mem_range.1 hi)
 simp only [List.range, List.range.loop, zL, zM, zH, zI, VIs, VSl, VAny] at hV
 obtain ⟨e0, e1, e2, e3, ⟨A4, c4, e4, h4⟩, e5, e6, e7, e8, e9, e10, ⟨A11, c11, e11, h11⟩, ⟨A12, c12, e12, h12⟩⟩ := hV
 simp only [e0, e1, e2, e3, e4, e5, e6, e7, e8, e9, e10, e11, e12]
 clear e0 e1 e2 e3 e4 e5 e6 e7 e8 e9 e10 e11 e12
 refine wpAny_done (by kernel_rfl) ?_ _
 go_wp2
 go_ret
 exact ⟨_, _, rfl, h12⟩
set_option maxHeartbeats 1600000 in
set_option maxRecDepth 8000 in
theorem sandwich_any (P : Int) (A : Option Addr) (n c : Nat) (sq : List Int) (X : Option Addr) (cx : Nat) (xs : List Int) (Y : Option Addr) (cy : Nat) (v : List Int) (w : World) (hp : 2 ≤ P) (hp2 : P ≤ 13) (hn : n ≤ 6) (ha : Rd w A n (ints sq)) (hs : NumsL P sq) (hx : Rd w X (pw n) (ints xs)) (hxs : NumsL P xs) (hcx : pw n ≤ cx) (hy : Rd w Y n (ints v)) (hys : NumsL P v) (_hcy : n ≤ cy) :
    Calls Tryz.prog 101 #[.agg #[.int .i64 P, .slice A n c], .slice X (pw n) cx, .slice Y n cy] w fun e w' => ∃ A' c', e = .returned (.slice A' (n) c') ∧ MkI w w' A' (n) c' (sandL P sq n xs v) := by
 have hB0 : Below w.heap.size w (w.alloc (.cells #[.int .i64 P, .slice A n c] 26)) := zG.alloc (Nat.le_refl _) _
 have k0 : Blk (w.alloc (.cells #[.int .i64 P, .slice A n c] 26)) w.heap.size 26 #[.int .i64 P, .slice A n c] := Blk.new _ _ _
 have HPW : pw n ≤ 65536 := Nat.le_trans (pw_le (show n ≤ 10 by omega)) (by decide)
 have HPW64 : pw n ≤ 64 := pw_le hn
 go_enter Tryz.func101, Tryz.ntmps101
 go_wp2
 refine wp_obs 15 [[],[],[],[],[2,3],[],[],[5,6],[],[],[8,9],[2,3,4,5,6,7,8,9,10],[1,2,3,4,5,6,7,8,9,10,11],[0,1,2,3,4,5,6,7,8,9,10,11,12],[0,1,2,3,4,5,6,7,8,9,10,11,12,13]] [VIs (.agg #[.int .i64 P, .slice A n c]), VIs (.agg #[.int .i64 P, .slice A n c]), VIs (.agg #[.int .i64 P, .slice A n c]), VIs (.slice X (pw n) cx), VSl w (pw n) (invoL P xs), VIs (.agg #[.int .i64 P, .slice A n c]), VIs (.slice Y n cy), VSl w (pw n) (vecTo n v n), VIs (.agg #[.int .i64 P, .slice A n c]), VIs (.slice X (pw n) cx), VSl w (pw n) (vinvL P sq xs), VRow 3 [(invoL P xs), (vecTo n v n), (vinvL P sq xs)], VSl w (pw n) (timesL P sq n [(invoL P xs), (vecTo n v n), (vinvL P sq xs)]), VSl w (n) (partL n (timesL P sq n [(invoL P xs), (vecTo n v n), (vinvL P sq xs)])), VSl w (n) (partL n (timesL P sq n [(invoL P xs), (vecTo n v n), (vinvL P sq xs)]))] (fun w' => Blk w' w.heap.size 26 #[.int .i64 P, .slice A n c] ∧ Below w.heap.size w w') (by kernel_rfl) (by kernel_rfl) (fun _ _ h hb => ⟨h.1.below hb h.1.lt, h.2.trans (hb.mono h.2.size)⟩) (⟨k0.drew, hB0.drew⟩) (fun x => ?_)
 refine zS (fun w' hS hV K hK => ?_) ?_
 · obtain ⟨q0, q1⟩ := hS.1.two; go_simp; exact zO hK
 refine zS (fun w' hS hV K hK => ?_) ?_
 · obtain ⟨q0, q1⟩ := hS.1.two; go_simp; exact zO hK
 refine zS (fun w' hS hV K hK => ?_) ?_
 · obtain ⟨q0, q1⟩ := hS.1.two; go_simp; exact zO hK
 refine zS (fun w' hS hV K hK => ?_) ?_
 · obtain ⟨q0, q1⟩ := hS.1.two; go_simp; exact zO hK
 refine zS (fun w' hS hV K hK => ?_) ?_
 · have e2 := zQ hV 2; have e3 := zQ hV 3; obtain ⟨q0, q1⟩ := hS.1.two; go_simp; refine (involute_any P A n c _ (pw n) _ xs _ hp hp2 HPW64 (hx.below hS.2) hxs).mono ?_; rintro e w1 ⟨A2, c2, rfl, hM⟩; exact hK.out _ _ _ rfl rfl ⟨_, _, rfl, hM.after hS.2⟩ hM.b
 refine zS (fun w' hS hV K hK => ?_) ?_
 · obtain ⟨q0, q1⟩ := hS.1.two; go_simp; exact zO hK
 refine zS (fun w' hS hV K hK => ?_) ?_
 · obtain ⟨q0, q1⟩ := hS.1.two; go_simp; exact zO hK
 refine zS (fun w' hS hV K hK => ?_) ?_
 · have e5 := zQ hV 5; have e6 := zQ hV 6; obtain ⟨q0, q1⟩ := hS.1.two; go_simp; refine (vector_any P A n c _ _ v _ (by omega) (hy.below hS.2)).mono ?_; rintro e w1 ⟨A2, c2, rfl, hM⟩; exact hK.out _ _ _ rfl rfl ⟨_, _, rfl, hM.after hS.2⟩ hM.b
 refine zS (fun w' hS hV K hK => ?_) ?_
 · obtain ⟨q0, q1⟩ := hS.1.two; go_simp; exact zO hK
 refine zS (fun w' hS hV K hK => ?_) ?_
 · obtain ⟨q0, q1⟩ := hS.1.two; go_simp; exact zO hK
 refine zS (fun w' hS hV K hK => ?_) ?_
 · have e8 := zQ hV 8; have e9 := zQ hV 9; obtain ⟨q0, q1⟩ := hS.1.two; go_simp; refine (versorInverse_any P A n c sq _ _ xs _ hp hp2 hn (ha.below hS.2) hs (hx.below hS.2) hxs hcx).mono ?_; rintro e w1 ⟨A2, c2, rfl, hM⟩; exact hK.out _ _ _ rfl rfl ⟨_, _, rfl, hM.after hS.2⟩ hM.b
 refine zS (fun w' hS hV K hK => ?_) ?_
 · obtain ⟨A4, c4, e4, h4⟩ := hV 4 (by decide); obtain ⟨A7, c7, e7, h7⟩ := hV 7 (by decide); obtain ⟨A10, c10, e10, h10⟩ := hV 10 (by decide); obtain ⟨q0, q1⟩ := hS.1.two; go_simp; exact hK.out _ _ _ rfl rfl ⟨_, _, rfl, rdII_three (Blk.new _ _ _) (Rd.below (h4.rd) (zG.alloc (Nat.le_refl _) _)) (Rd.below (h7.rd) (zG.alloc (Nat.le_refl _) _)) (Rd.below (h10.rd) (zG.alloc (Nat.le_refl _) _)) (h4.2.cap) (h7.2.cap) (h10.2.cap)⟩ (zG.alloc (Nat.le_refl _) _)
 refine zS (fun w' hS hV K hK => ?_) ?_
 · have e1 := zQ hV 1; obtain ⟨A4, c4, e4, h4⟩ := hV 4 (by decide); obtain ⟨A7, c7, e7, h7⟩ := hV 7 (by decide); obtain ⟨A10, c10, e10, h10⟩ := hV 10 (by decide); obtain ⟨A11, c11, e11, h11⟩ := hV 11 (by decide); obtain ⟨q0, q1⟩ := hS.1.two; go_simp; refine (times_any P A n c sq _ 3 _ [(invoL P xs), (vecTo n v n), (vinvL P sq xs)] _ hp hp2 hn (by omega) (ha.below hS.2) hs h11 (all_three ⟨(sgnL_nums (by omega) oddT hxs), Rd.lenI (h4.rd)⟩ ⟨(vecTo_nums (by omega) n v hys n), Rd.lenI (h7.rd)⟩ ⟨(vinvL_nums hp sq xs), Rd.lenI (h10.rd)⟩)).mono ?_; rintro e w1 ⟨A2, c2, rfl, hM⟩; exact hK.out _ _ _ rfl rfl ⟨_, _, rfl, hM.after hS.2⟩ hM.b
 refine zS (fun w' hS hV K hK => ?_) ?_
 · have e0 := zQ hV 0; obtain ⟨A12, c12, e12, h12⟩ := hV 12 (by decide); obtain ⟨q0, q1⟩ := hS.1.two; go_simp; refine (vectorPart_any P A n c _ _ (timesL P sq n [(invoL P xs), (vecTo n v n), (vinvL P sq xs)]) _ (by omega) h12.rd).mono ?_; rintro e w1 ⟨A2, c2, rfl, hM⟩; exact hK.out _ _ _ rfl rfl ⟨_, _, rfl, hM.after hS.2⟩ hM.b
 refine zS (fun w' hS hV K hK => ?_) ?_
 · obtain ⟨A13, c13, e13, h13⟩ := hV 13 (by decide); obtain ⟨q0, q1⟩ := hS.1.two; go_simp; exact hK.out _ _ _ rfl rfl ⟨_, _, rfl, h13⟩ zG
 refine fun w' hS hV => ?_
 have hV := fun i hi => hV i (List.mem_range.1 hi)
 simp only [List.range, List.range.loop, zL, zM, zH, zI, VIs, VSl, VRow, VAny] at hV
 obtain ⟨e0, e1, e2, e3, ⟨A4, c4, e4, h4⟩, e5, e6, ⟨A7, c7, e7, h7⟩, e8, e9, ⟨A10, c10, e10, h10⟩, ⟨A11, c11, e11, h11⟩, ⟨A12, c12, e12, h12⟩, ⟨A13, c13, e13, h13⟩, ⟨A14, c14, e14, h14⟩⟩ := hV
 simp only [e0, e1, e2, e3, e4, e5, e6, e7, e8, e9, e10, e11, e12, e13, e14]
 clear e0 e1 e2 e3 e4 e5 e6 e7 e8 e9 e10 e11 e12 e13 e14
 refine wpAny_done (by kernel_rfl) ?_ _
 go_wp2
 go_ret
 refine ⟨_, _, rfl, ?_⟩
 unfold sandL
 rw [← timesL_three P sq n (invoL P xs) _ _ (by unfold invoL; rw [sgnL_len, hx.lenI]) (sgnL_nums (by omega) oddT hxs)]
 exact h14
set_option maxHeartbeats 1600000 in
set_option maxRecDepth 8000 in
theorem l07Sandwich_any (P : Int) (A : Option Addr) (n c : Nat) (sq : List Int) (X : Option Addr) (cx : Nat) (xs : List Int) (Y : Option Addr) (cy : Nat) (v : List Int) (w : World) (hp : 2 ≤ P) (hp2 : P ≤ 13) (hn : n ≤ 6) (ha : Rd w A n (ints sq)) (hs : NumsL P sq) (hx : Rd w X (pw n) (ints xs)) (hxs : NumsL P xs) (hcx : pw n ≤ cx) (hy : Rd w Y n (ints v)) (hys : NumsL P v) (_hcy : n ≤ cy) (HP : isP P = true) (hpos : 0 < nrmL P sq xs) :
    Calls Tryz.prog 205 #[.agg #[.int .i64 P, .slice A n c], .slice X (pw n) cx, .slice Y n cy] w fun e w' => ∃ A' c', e = .returned (.slice A' (n) c') ∧ MkI w w' A' (n) c' (sandL P sq n xs v) := by
 have hB0 : Below w.heap.size w (w.alloc (.cells #[.int .i64 P, .slice A n c] 26)) := zG.alloc (Nat.le_refl _) _
 have k0 : Blk (w.alloc (.cells #[.int .i64 P, .slice A n c] 26)) w.heap.size 26 #[.int .i64 P, .slice A n c] := Blk.new _ _ _
 have HPW : pw n ≤ 65536 := Nat.le_trans (pw_le (show n ≤ 10 by omega)) (by decide)
 have HPW64 : pw n ≤ 64 := pw_le hn
 go_enter Tryz.func205, Tryz.ntmps205
 go_wp2
 refine wp_obs 16 [[],[],[],[],[],[3,4],[],[],[6,7],[2,3,4,5,6,7,8],[],[],[10,11],[1,2,3,4,5,6,7,8,9,10,11,12],[0,1,2,3,4,5,6,7,8,9,10,11,12,13],[0,1,2,3,4,5,6,7,8,9,10,11,12,13,14]] [VIs (.agg #[.int .i64 P, .slice A n c]), VIs (.agg #[.int .i64 P, .slice A n c]), VIs (.agg #[.int .i64 P, .slice A n c]), VIs (.agg #[.int .i64 P, .slice A n c]), VIs (.slice X (pw n) cx), VSl w (pw n) (invoL P xs), VIs (.agg #[.int .i64 P, .slice A n c]), VIs (.slice Y n cy), VSl w (pw n) (vecTo n v n), VSl w (pw n) (mulL P sq (invoL P xs) (vecTo n v n)), VIs (.agg #[.int .i64 P, .slice A n c]), VIs (.slice X (pw n) cx), VSl w (pw n) (vinvL P sq xs), VSl w (pw n) (mulL P sq (mulL P sq (invoL P xs) (vecTo n v n)) (vinvL P sq xs)), VSl w (n) (partL n (mulL P sq (mulL P sq (invoL P xs) (vecTo n v n)) (vinvL P sq xs))), VSl w (n) (partL n (mulL P sq (mulL P sq (invoL P xs) (vecTo n v n)) (vinvL P sq xs)))] (fun w' => Blk w' w.heap.size 26 #[.int .i64 P, .slice A n c] ∧ Below w.heap.size w w') (by kernel_rfl) (by kernel_rfl) (fun _ _ h hb => ⟨h.1.below hb h.1.lt, h.2.trans (hb.mono h.2.size)⟩) (⟨k0.drew, hB0.drew⟩) (fun x => ?_)
 refine zS (fun w' hS hV K hK => ?_) ?_
 · obtain ⟨q0, q1⟩ := hS.1.two; go_simp; exact zO hK
 refine zS (fun w' hS hV K hK => ?_) ?_
 · obtain ⟨q0, q1⟩ := hS.1.two; go_simp; exact zO hK
 refine zS (fun w' hS hV K hK => ?_) ?_
 · obtain ⟨q0, q1⟩ := hS.1.two; go_simp; exact zO hK
 refine zS (fun w' hS hV K hK => ?_) ?_
 · obtain ⟨q0, q1⟩ := hS.1.two; go_simp; exact zO hK
 refine zS (fun w' hS hV K hK => ?_) ?_
 · obtain ⟨q0, q1⟩ := hS.1.two; go_simp; exact zO hK
 refine zS (fun w' hS hV K hK => ?_) ?_
 · have e3 := zQ hV 3; have e4 := zQ hV 4; obtain ⟨q0, q1⟩ := hS.1.two; go_simp; refine (l04Involute_any P A n c _ (pw n) _ xs _ hp hp2 HPW64 (hx.below hS.2) hxs).mono ?_; rintro e w1 ⟨A2, c2, rfl, hM⟩; exact hK.out _ _ _ rfl rfl ⟨_, _, rfl, hM.after hS.2⟩ hM.b
 refine zS (fun w' hS hV K hK => ?_) ?_
 · obtain ⟨q0, q1⟩ := hS.1.two; go_simp; exact zO hK
 refine zS (fun w' hS hV K hK => ?_) ?_
 · obtain ⟨q0, q1⟩ := hS.1.two; go_simp; exact zO hK
 refine zS (fun w' hS hV K hK => ?_) ?_
 · have e6 := zQ hV 6; have e7 := zQ hV 7; obtain ⟨q0, q1⟩ := hS.1.two; go_simp; refine (l04Vector_any P A n c _ _ v _ (by omega) (hy.below hS.2)).mono ?_; rintro e w1 ⟨A2, c2, rfl, hM⟩; exact hK.out _ _ _ rfl rfl ⟨_, _, rfl, hM.after hS.2⟩ hM.b
 refine zS (fun w' hS hV K hK => ?_) ?_
 · have e2 := zQ hV 2; obtain ⟨A5, c5, e5, h5⟩ := hV 5 (by decide); obtain ⟨A8, c8, e8, h8⟩ := hV 8 (by decide); obtain ⟨q0, q1⟩ := hS.1.two; go_simp; refine (l04Times_any P A n c sq _ _ (invoL P xs) _ _ (vecTo n v n) _ hp hp2 hn (ha.below hS.2) hs h5.rd (sgnL_nums (by omega) oddT hxs) h8.rd (vecTo_nums (by omega) n v hys n)).mono ?_; rintro e w1 ⟨A2, c2, rfl, hM⟩; exact hK.out _ _ _ rfl rfl ⟨_, _, rfl, hM.after hS.2⟩ hM.b
 refine zS (fun w' hS hV K hK => ?_) ?_
 · obtain ⟨q0, q1⟩ := hS.1.two; go_simp; exact zO hK
 refine zS (fun w' hS hV K hK => ?_) ?_
 · obtain ⟨q0, q1⟩ := hS.1.two; go_simp; exact zO hK
 refine zS (fun w' hS hV K hK => ?_) ?_
 · have e10 := zQ hV 10; have e11 := zQ hV 11; obtain ⟨q0, q1⟩ := hS.1.two; go_simp; refine (l07Inverse_any P A n c sq _ _ xs _ hp hp2 hn (ha.below hS.2) hs (hx.below hS.2) hxs hcx HP hpos).mono ?_; rintro e w1 ⟨A2, c2, rfl, hM⟩; exact hK.out _ _ _ rfl rfl ⟨_, _, rfl, hM.after hS.2⟩ hM.b
 refine zS (fun w' hS hV K hK => ?_) ?_
 · have e1 := zQ hV 1; obtain ⟨A9, c9, e9, h9⟩ := hV 9 (by decide); obtain ⟨A12, c12, e12, h12⟩ := hV 12 (by decide); obtain ⟨q0, q1⟩ := hS.1.two; go_simp; refine (l04Times_any P A n c sq _ _ (mulL P sq (invoL P xs) (vecTo n v n)) _ _ (vinvL P sq xs) _ hp hp2 hn (ha.below hS.2) hs h9.rd (mulL_nums (by omega) sq (invoL P xs) (vecTo n v n)) h12.rd (vinvL_nums hp sq xs)).mono ?_; rintro e w1 ⟨A2, c2, rfl, hM⟩; exact hK.out _ _ _ rfl rfl ⟨_, _, rfl, hM.after hS.2⟩ hM.b
 refine zS (fun w' hS hV K hK => ?_) ?_
 · have e0 := zQ hV 0; obtain ⟨A13, c13, e13, h13⟩ := hV 13 (by decide); obtain ⟨q0, q1⟩ := hS.1.two; go_simp; refine (l04List_any P A n c _ _ (mulL P sq (mulL P sq (invoL P xs) (vecTo n v n)) (vinvL P sq xs)) _ (by omega) h13.rd).mono ?_; rintro e w1 ⟨A2, c2, rfl, hM⟩; exact hK.out _ _ _ rfl rfl ⟨_, _, rfl, hM.after hS.2⟩ hM.b
 refine zS (fun w' hS hV K hK => ?_) ?_
 · obtain ⟨A14, c14, e14, h14⟩ := hV 14 (by decide); obtain ⟨q0, q1⟩ := hS.1.two; go_simp; exact hK.out _ _ _ rfl rfl ⟨_, _, rfl, h14⟩ zG
 refine fun w' hS hV => ?_
 have hV := fun i hi => hV i (List.mem_range.1 hi)
 simp only [List.range, List.range.loop, zL, zM, zH, zI, VIs, VSl, VAny] at hV
 obtain ⟨e0, e1, e2, e3, e4, ⟨A5, c5, e5, h5⟩, e6, e7, ⟨A8, c8, e8, h8⟩, ⟨A9, c9, e9, h9⟩, e10, e11, ⟨A12, c12, e12, h12⟩, ⟨A13, c13, e13, h13⟩, ⟨A14, c14, e14, h14⟩, ⟨A15, c15, e15, h15⟩⟩ := hV
 simp only [e0, e1, e2, e3, e4, e5, e6, e7, e8, e9, e10, e11, e12, e13, e14, e15]
 clear e0 e1 e2 e3 e4 e5 e6 e7 e8 e9 e10 e11 e12 e13 e14 e15
 refine wpAny_done (by kernel_rfl) ?_ _
 go_wp2
 go_ret
 exact ⟨_, _, rfl, h15⟩
end Go.Proofs.YtmkjdpnoloofjaaGreat
