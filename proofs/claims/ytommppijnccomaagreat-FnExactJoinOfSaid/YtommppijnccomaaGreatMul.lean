/-
  Blades, vectors, products of several multivectors: the program's functions.
-/
import Derived.Test.YtommppijnccomaaGreatProd
namespace Go.Proofs.YtommppijnccomaaGreat
open Go.RowKit

/-- The blade of a mask. -/
def bladeL (n m : Nat) : List Int := (List.replicate (pw n) 0).set m 1
theorem bladeL_len (n m : Nat) : (bladeL n m).length = pw n := by simp [bladeL]
theorem bladeL_nums {p : Int} (hp : 2 ≤ p) (n m : Nat) : NumsL p (bladeL n m) := (NumsL.replicate (by omega) _).set _ ⟨by omega, by omega⟩

set_option maxHeartbeats 400000 in
theorem blade_any (P : Int) (A : Option Addr) (n c : Nat) (m : Nat) (w : World) (hn : n ≤ 10) (hm : m < pw n) :
    Calls Tryz.prog 148 #[.agg #[.int .i64 P, .slice A n c], .int .i64 m] w fun e w' => ∃ A' c', e = .returned (.slice A' (pw n) c') ∧ MkI w w' A' (pw n) c' (bladeL n m) := by
  have hB0 : Below w.heap.size w (w.alloc (.cells #[.int .i64 P, .slice A n c] 28)) := (Below.refl _ w).alloc (Nat.le_refl _) _
  go_enter Tryz.func148, Tryz.ntmps148
  go_wp2_with (go_at_call 99; refine (nothing_any _ _ _ _ _ hn).mono ?_; rintro e w1 ⟨G, c1, rfl, hM1⟩; have hM := hM1.after hB0; rcases hM.2.form with ⟨_, h0⟩ | ⟨g, rfl, hg, _⟩; (omega); obtain ⟨u1, hc1⟩ := hM.2.cellI hm; have hf1 := hM.2.frozen_ m; have hset := (hM.set m (.int .i64 1)).1; rw [ints_set] at hset; have HS := Lib.hid hset; clear hM hM1 hset)
  go_ret
  exact ⟨_, _, rfl, HS.out⟩

set_option maxHeartbeats 400000 in
theorem one_any (P : Int) (A : Option Addr) (n c : Nat) (w : World) (hn : n ≤ 10) :
    Calls Tryz.prog 134 #[.agg #[.int .i64 P, .slice A n c]] w fun e w' => ∃ A' c', e = .returned (.slice A' (pw n) c') ∧ MkI w w' A' (pw n) c' (bladeL n 0) := by
  have hB0 : Below w.heap.size w (w.alloc (.cells #[.int .i64 P, .slice A n c] 28)) := (Below.refl _ w).alloc (Nat.le_refl _) _
  go_enter Tryz.func134, Tryz.ntmps134
  go_wp2_with (go_at_call 148; refine (blade_any P A n c 0 _ hn (pw_pos n)).mono ?_; rintro e w1 ⟨G, c1, rfl, hM1⟩)
  go_ret
  exact ⟨_, _, rfl, hM1.after hB0⟩

set_option maxHeartbeats 400000 in
theorem anyPair_takes : Takes 135 (fun _ _ => true) := by
  intro a b w h1 h2
  go_enter Tryz.func135, Tryz.ntmps135
  go_wp2
  go_ret
  exact ⟨rfl, rfl⟩

/-- The product of two multivectors. -/
def mulL (p : Int) (sq xs ys : List Int) : List Int := prodL p sq (fun _ _ => true) xs ys
/-- The product of several. -/
def timesL (p : Int) (sq : List Int) (n : Nat) (xss : List (List Int)) : List Int := xss.foldl (mulL p sq) (bladeL n 0)

set_option maxRecDepth 8000 in
set_option maxHeartbeats 1600000 in
theorem times_any (P : Int) (A : Option Addr) (n c : Nat) (sq : List Int) (X : Option Addr) (k cx : Nat) (xss : List (List Int)) (w : World) (hp : 2 ≤ P) (hp2 : P ≤ 13) (hn : n ≤ 6) (hk : k ≤ 1000)
    (ha : Rd w A n (ints sq)) (hs : NumsL P sq) (hx : RdII w X k xss) (hxs : ∀ xs ∈ xss, NumsL P xs ∧ xs.length = pw n) :
    Calls Tryz.prog 101 #[.agg #[.int .i64 P, .slice A n c], .slice X k cx] w fun e w' => ∃ A' c', e = .returned (.slice A' (pw n) c') ∧ MkI w w' A' (pw n) c' (timesL P sq n xss) := by
  have hxl := hx.len
  have Hx := Lib.hid hxl; clear hxl
  have hB0 : Below w.heap.size w (w.alloc (.cells #[.int .i64 P, .slice A n c] 28)) := (Below.refl _ w).alloc (Nat.le_refl _) _
  go_enter Tryz.func101, Tryz.ntmps101
  go_wp2_with (go_at_call 134; refine (one_any P A n c _ (by omega)).mono ?_; rintro e w1 ⟨G, c1, rfl, hM1⟩)
  have hk0 : Blk w1 w.heap.size 28 #[.int .i64 P, .slice A n c] := (Blk.new w _ _).below hM1.b (by simp)
  have hM := hM1.after hB0
  clear hM1 hB0
  go_loopw [5, 7, 12] (fun o _ i wr => ∃ (j : Nat) (G : Option Addr) (d : Nat), j ≤ k ∧ i = .int .i64 j ∧ o = .slice G (pw n) d ∧ MkI w wr G (pw n) d (timesL P sq n (xss.take j)) ∧ NumsL P (timesL P sq n (xss.take j)) ∧ Blk wr w.heap.size 28 #[.int .i64 P, .slice A n c]) (fun _ _ i _ => k - (intOf i).toNat)
  case atStart => exact ⟨0, _, _, by omega, rfl, rfl, by simpa [timesL] using hM, by simpa [timesL] using bladeL_nums hp n 0, hk0⟩
  case round =>
    obtain ⟨j, G, d, hj, rfl, rfl, hM2, hN2, hk2⟩ := hrel
    clear hM hk0
    have hL2 : (timesL P sq n (xss.take j)).length = pw n := by have := hM2.2.len; rwa [ints_length] at this
    by_cases hlt : j < k
    · obtain ⟨g, o, rfl, hxj, A', c', hcx, hr, _⟩ := (hx.below hM2.b).at_ hlt
      obtain ⟨hn1, hl1⟩ := hxs _ (List.getElem_mem hxj)
      rw [hl1] at hcx hr
      have hc1 := hk2.two
      obtain ⟨kc0, kc1⟩ := hc1
      have hcall := product_any 135 (fun _ _ => true) anyPair_takes (fun _ _ => rfl) P A n c sq G d _ A' c' _ wr hp hp2 hn (ha.below hM2.b) hs hM2.rd hN2 hr hn1
      have HC := Lib.hid hcall
      have HT : Hid (timesL P sq n (xss.take (j + 1)) = prodL P sq (fun _ _ => true) (timesL P sq n (xss.take j)) xss[j]) := Lib.hid (by unfold timesL; rw [List.take_succ_eq_append_getElem hxj, List.foldl_append]; rfl)
      have HN := Lib.hid (prodL_nums (p := P) sq (fun _ _ => true) (timesL P sq n (xss.take j)) xss[j] (by omega))
      have HB := Lib.hid hM2.b
      clear hcall hN2 hM2 hn1 hr hL2
      go_wp2_with (go_at_call 97; refine HC.out.mono ?_; rintro e w2 ⟨G2, d2, rfl, hM3⟩)
      have hk3 := hk2.below hM3.b hk2.lt
      go_roundw
      case rel => exact ⟨j + 1, G2, d2, by omega, by go_num, rfl, by rw [HT.out]; exact hM3.after HB.out, by rw [HT.out]; exact HN.out, hk3⟩
      case measure => simp [intOf]; omega
    · obtain rfl : j = k := by omega
      rw [List.take_of_length_le (by rw [Hx.out]; omega)] at hM2
      go_wp2
      go_ret
      exact ⟨_, _, rfl, hM2⟩

/-- A vector as a multivector: its first k places laid. -/
def vecTo (n : Nat) (v : List Int) (k : Nat) : List Int := (List.range k).foldl (fun o i => o.set (2 ^ i) (v.getD i 0)) (List.replicate (pw n) 0)
theorem vecTo_succ (n : Nat) (v : List Int) (k : Nat) : vecTo n v (k + 1) = (vecTo n v k).set (2 ^ k) (v.getD k 0) := by simp [vecTo, List.range_succ]
theorem vecTo_len (n : Nat) (v : List Int) (k : Nat) : (vecTo n v k).length = pw n := by
  induction k with
  | zero => simp [vecTo]
  | succ k ih => rw [vecTo_succ, List.length_set, ih]
theorem vecTo_nums {p : Int} (hp : 0 < p) (n : Nat) (v : List Int) (hv : NumsL p v) (k : Nat) : NumsL p (vecTo n v k) := by
  induction k with
  | zero => simpa [vecTo] using NumsL.replicate hp _
  | succ k ih => rw [vecTo_succ]; exact ih.set _ (hv.getD hp k)
theorem two_lt {n k : Nat} (h : k < n) : 2 ^ k < pw n := Nat.pow_lt_pow_right (by omega) h

set_option maxHeartbeats 800000 in
theorem vector_any (P : Int) (A : Option Addr) (n c : Nat) (X : Option Addr) (cx : Nat) (v : List Int) (w : World) (hn : n ≤ 10) (hx : Rd w X n (ints v)) :
    Calls Tryz.prog 57 #[.agg #[.int .i64 P, .slice A n c], .slice X n cx] w fun e w' => ∃ A' c', e = .returned (.slice A' (pw n) c') ∧ MkI w w' A' (pw n) c' (vecTo n v n) := by
  have hB0 : Below w.heap.size w (w.alloc (.cells #[.int .i64 P, .slice A n c] 28)) := (Below.refl _ w).alloc (Nat.le_refl _) _
  go_enter Tryz.func57, Tryz.ntmps57
  go_wp2_with (go_at_call 99; refine (nothing_any _ _ _ _ _ hn).mono ?_; rintro e w1 ⟨G, c1, rfl, hM1⟩)
  have hM := hM1.after hB0
  have hpos := pw_pos n
  rcases hM.2.form with ⟨_, h0⟩ | ⟨g, rfl, hg, _⟩
  · omega
  clear hM1 hB0 hg hpos
  go_loopw [6, 7, 12] (fun _ _ i wr => ∃ k : Nat, k ≤ n ∧ i = .int .i64 k ∧ MkI w wr (some ⟨g, 0, none⟩) (pw n) c1 (vecTo n v k)) (fun _ _ i _ => n - (intOf i).toNat)
  case atStart => exact ⟨0, by omega, rfl, by simpa [vecTo] using hM⟩
  case round =>
    obtain ⟨k, hk, rfl, hM2⟩ := hrel
    clear hM
    by_cases hlt : k < n
    · obtain ⟨gx, ox, rfl, hxk, hcx⟩ := (hx.below hM2.b).int hlt
      have hvn : v.getD k 0 = v[k] := by rw [List.getD_eq_getElem?_getD, List.getElem?_eq_getElem hxk]; rfl
      have h2 := two_lt hlt
      have hset := (hM2.set (2 ^ k) (.int .i64 v[k])).1
      rw [ints_set, ← hvn, ← vecTo_succ, hvn] at hset
      have hw : wrap64 (2 ^ k) = ((2 ^ k : Nat) : Int) := wrap_pw k (by omega)
      obtain ⟨q, hq⟩ : ∃ q : Nat, q = 2 ^ k := ⟨_, rfl⟩
      rw [← hq] at h2 hset hw
      obtain ⟨hoc, hof⟩ := mkI_at hM2 h2
      have HS := Lib.hid hset
      clear hq
      clear hvn hset hM2
      go_wp2
      go_roundw
      case rel => exact ⟨k + 1, by omega, by go_num, HS.out⟩
      case measure => simp [intOf]; omega
    · obtain rfl : k = n := by omega
      go_wp2
      go_ret
      exact ⟨_, _, rfl, hM2⟩

theorem and_all : ∀ x : Nat, x < 64 → ∀ y : Nat, y < 64 → (bits BinOp.and IntKind.i64 (x : Int) (y : Int) == 0) = (x &&& y == 0) := by decide +kernel
/-- The outer product of two multivectors. -/
def wedgeL (p : Int) (sq xs ys : List Int) : List Int := prodL p sq (fun a b => a &&& b == 0) xs ys

set_option maxHeartbeats 400000 in
theorem apart_takes : Takes 98 (fun a b => a &&& b == 0) := by
  intro a b w h1 h2
  have h := and_all a h1 b h2
  go_enter Tryz.func98, Tryz.ntmps98
  go_wp2
  go_ret
  exact ⟨rfl, rfl⟩

set_option maxRecDepth 8000 in
set_option maxHeartbeats 800000 in
theorem wedge_any (P : Int) (A : Option Addr) (n c : Nat) (sq : List Int) (X : Option Addr) (cx : Nat) (xs : List Int) (Y : Option Addr) (cy : Nat) (ys : List Int) (w : World) (hp : 2 ≤ P) (hp2 : P ≤ 13) (hn : n ≤ 6)
    (ha : Rd w A n (ints sq)) (hs : NumsL P sq) (hx : Rd w X (pw n) (ints xs)) (hxs : NumsL P xs) (hy : Rd w Y (pw n) (ints ys)) (hys : NumsL P ys) :
    Calls Tryz.prog 56 #[.agg #[.int .i64 P, .slice A n c], .slice X (pw n) cx, .slice Y (pw n) cy] w fun e w' => ∃ A' c', e = .returned (.slice A' (pw n) c') ∧ MkI w w' A' (pw n) c' (wedgeL P sq xs ys) := by
  have hB0 : Below w.heap.size w (w.alloc (.cells #[.int .i64 P, .slice A n c] 28)) := (Below.refl _ w).alloc (Nat.le_refl _) _
  have hcall := product_any 98 _ apart_takes (fun _ _ => rfl) P A n c sq X cx xs Y cy ys _ hp hp2 hn (ha.below hB0) hs (hx.below hB0) hxs (hy.below hB0) hys
  go_enter Tryz.func56, Tryz.ntmps56
  go_wp2_with (go_at_call 97; refine hcall.mono ?_; rintro e w2 ⟨G2, d2, rfl, hM3⟩)
  go_ret
  exact ⟨_, _, rfl, hM3.after hB0⟩

end Go.Proofs.YtommppijnccomaaGreat
