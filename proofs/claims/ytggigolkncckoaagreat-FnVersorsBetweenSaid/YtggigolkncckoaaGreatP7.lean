/-
  LawFnVersorsBetween: part 7 of the texts that the proof needs. No condition.
-/
import Derived.Test.YtggigolkncckoaaGreatP6
namespace Go.Proofs.YtggigolkncckoaaGreat
open Go.RowKit
set_option maxHeartbeats 1600000 in
theorem l07Vectors_any (P : Int) (A : Option Addr) (n c : Nat) (sq : List Int) (B : Option Addr) (m d : Nat) (L : List (List Int)) (w : World) (hn : n ≤ 1048576) (hm : m ≤ 16) (ha : Rd w A n (ints sq)) (hb : RdII w B m L) (hL : ∀ ys ∈ L, ys.length ≤ 1048576) :
    Calls Tryz.prog 156 #[.agg #[.int .i64 P, .slice A n c], .slice B m d] w fun e w' => e = .returned (.int .i64 (codeVb P sq L)) ∧ Below w.heap.size w w' := by
  have hB0 : Below w.heap.size w (w.alloc (.cells #[.int .i64 P, .slice A n c] 26)) := (Below.refl _ _).alloc (Nat.le_refl _) _
  have k0 : Blk (w.alloc (.cells #[.int .i64 P, .slice A n c] 26)) w.heap.size 26 #[.int .i64 P, .slice A n c] := Blk.new _ _ _
  have hsl := ha.lenI
  have hli := l05List_any P A n c sq B m d L (w.alloc (.cells #[.int .i64 P, .slice A n c] 26)) hn (by omega) (ha.below hB0) (hb.below hB0) hL
  have hcl : codeLs P sq L = codeV P sq L := by
    unfold codeLs
    by_cases h : codeV P sq L = 0
    · rw [if_pos h, if_neg (by rw [hb.len]; omega), h]
    · rw [if_neg h]
  rw [hcl] at hli
  obtain ⟨r1, h1⟩ : ∃ r, r = codeV P sq L := ⟨_, rfl⟩
  rw [← h1] at hli
  clear hcl
  by_cases e1 : r1 = 0
  · obtain ⟨hp, hp1, hp2, -, -, hnum, -⟩ := codeV_spec (h1.symm.trans e1)
    have hd := disc_reg hp hnum
    rw [hsl] at hd
    have HN := Lib.hid hnum
    have HV : Hid (codeVb P sq L = if regB sq then 0 else 5) := Lib.hid (by unfold codeVb; rw [← h1, if_pos e1])
    have b1 : (r1 == 0) = true := by simp [e1]
    have E1 := Lib.hid e1
    clear h1 e1 hsl hp hnum
    obtain ⟨q0, q1⟩ := k0.two
    cases hr : regB sq
    all_goals
      rw [hr] at hd
      simp only [Bool.not_true, Bool.not_false] at hd
      have HR := Lib.hid hr
      clear hr
      go_enter Tryz.func156, Tryz.ntmps156
      go_wp2_with fail
      refine hli.mono ?_
      rintro e w1 ⟨rfl, hb1⟩
      have hB1 := hB0.trans (hb1.mono hB0.size)
      have k1 := k0.below hb1 k0.lt
      clear q0 q1
      obtain ⟨q0, q1⟩ := k1.two
      go_wp2_with fail
      refine (l03Disc_any P A n c sq _ (by omega) (by omega) hn (ha.below hB1) HN.out).mono ?_
      rintro e w2 ⟨rfl, hb2⟩
      go_wp2
      go_ret
      exact ⟨ret_int (by rw [HV.out, HR.out]; first | rfl | exact E1.out), hB1.trans (hb2.mono hB1.size)⟩
  · have HV : Hid (codeVb P sq L = r1) := Lib.hid (by unfold codeVb; rw [← h1, if_neg e1])
    have b1 : (r1 == 0) = false := by simp [e1]
    obtain ⟨q0, q1⟩ := k0.two
    clear h1 e1 hsl
    go_enter Tryz.func156, Tryz.ntmps156
    go_wp2_with fail
    refine hli.mono ?_
    rintro e w1 ⟨rfl, hb1⟩
    go_wp2
    go_ret
    exact ⟨ret_int HV.out.symm, hB0.trans (hb1.mono hB0.size)⟩
set_option maxHeartbeats 1600000 in
theorem NormOf_ok (P : Int) (A : Option Addr) (n c : Nat) (sq : List Int) (X : Option Addr) (cx : Nat) (v : List Int) (w : World) (hsp : isSp P sq = true) (ha : Rd w A n (ints sq)) (hx : Rd w X n (ints v)) (hcx : n ≤ cx) (hv : NumsL P v) :
    Calls Tryz.prog 36 #[.agg #[.int .i64 P, .slice A n c], .slice X n cx] w fun e w' => e = .returned (.tuple #[.int .i64 (pairL P sq v v), .int .i64 0]) ∧ Below w.heap.size w w' := by
  have hB0 : Below w.heap.size w (w.alloc (.cells #[.int .i64 P, .slice A n c] 26)) := (Below.refl _ _).alloc (Nat.le_refl _) _
  have k0 : Blk (w.alloc (.cells #[.int .i64 P, .slice A n c] 26)) w.heap.size 26 #[.int .i64 P, .slice A n c] := Blk.new _ _ _
  have hsl := ha.lenI
  obtain ⟨HP, hd1, hd2, hnum⟩ := isSp_dim hsp
  obtain ⟨hp3, hp2⟩ := isP_ge HP
  have hB1 : Below w.heap.size w ((w.alloc (.cells #[.int .i64 P, .slice A n c] 26)).alloc (.cells #[.slice X n cx] 24)) := hB0.alloc (by simp) _
  have k1 : Blk ((w.alloc (.cells #[.int .i64 P, .slice A n c] 26)).alloc (.cells #[.slice X n cx] 24)) w.heap.size 26 #[.int .i64 P, .slice A n c] := k0.alloc _
  have hck := checkVectors_any P A (some ⟨w.heap.size + 1, 0, none⟩) n c 1 1 sq [v] ((w.alloc (.cells #[.int .i64 P, .slice A n c] 26)).alloc (.cells #[.slice X n cx] 24)) (by omega) (by omega) (ha.below hB1) (rdII_one' (Blk.newAt3 (by simp)) (hx.below hB1) hcx) (all_one (by rw [hx.lenI]; omega))
  rw [codeV_mk hsp (all_one (isVe_mk (by rw [hx.lenI, hsl]) hv))] at hck
  have HN := Lib.hid (nums_numsL hnum)
  have HVN := Lib.hid hv
  rw [hsl] at hd1 hd2
  obtain ⟨q0, q1⟩ := k1.two
  clear hsl hnum hv hsp k0 hB0
  go_enter Tryz.func36, Tryz.ntmps36
  go_wp2_with fail
  refine hck.mono ?_
  rintro e w2 ⟨rfl, hb2⟩
  have hB2 := hB1.trans (hb2.mono hB1.size)
  have k2 := k1.below hb2 k1.lt
  clear q0 q1 hck
  obtain ⟨q0, q1⟩ := k2.two
  go_wp2_with fail
  refine (norm_any P A n c sq X cx v w2 (by omega) hp2 (by omega) (ha.below hB2) HN.out (hx.below hB2) HVN.out).mono ?_
  rintro e w3 ⟨rfl, hb3⟩
  go_wp2
  go_ret2
  exact ⟨rfl, hB2.trans (hb3.mono hB2.size)⟩
set_option maxHeartbeats 1600000 in
theorem IsRegular_ok (P : Int) (A : Option Addr) (n c : Nat) (sq : List Int) (w : World) (hsp : isSp P sq = true) (hn : n ≤ 1048576) (ha : Rd w A n (ints sq)) :
    Calls Tryz.prog 35 #[.agg #[.int .i64 P, .slice A n c]] w fun e w' => e = .returned (.tuple #[.bool (regB sq), .int .i64 0]) ∧ Below w.heap.size w w' := by
  have hB0 : Below w.heap.size w (w.alloc (.cells #[.int .i64 P, .slice A n c] 26)) := (Below.refl _ _).alloc (Nat.le_refl _) _
  have k0 : Blk (w.alloc (.cells #[.int .i64 P, .slice A n c] 26)) w.heap.size 26 #[.int .i64 P, .slice A n c] := Blk.new _ _ _
  have his := IsSpace_any P A n c sq (w.alloc (.cells #[.int .i64 P, .slice A n c] 26)) (by omega) (ha.below hB0)
  rw [hsp] at his
  have hrg := fun w' (h : Below w.heap.size w w') => regular_any P A n c sq w' hn (ha.below h)
  obtain ⟨rb, hrb⟩ : ∃ b, b = regB sq := ⟨_, rfl⟩
  rw [← hrb] at hrg ⊢
  obtain ⟨q0, q1⟩ := k0.two
  clear hrb hsp
  go_enter Tryz.func35, Tryz.ntmps35
  go_wp2_with fail
  refine his.mono ?_
  rintro e w2 ⟨rfl, hb2⟩
  have hB2 := hB0.trans (hb2.mono hB0.size)
  have k2 := k0.below hb2 k0.lt
  clear q0 q1 his
  obtain ⟨q0, q1⟩ := k2.two
  go_wp2_with fail
  refine (hrg _ hB2).mono ?_
  rintro e w3 ⟨rfl, hb3⟩
  go_wp2
  go_ret2
  exact ⟨rfl, hB2.trans (hb3.mono hB2.size)⟩
/-- What VersorBetween returns with the code 0. -/
def vbL (P : Int) (sq u v : List Int) : List Int := if pairL P sq (plusL P v u (-1)) (plusL P v u (-1)) = 0 then versL P sq sq.length [v, plusL P v u 1] else vecTo sq.length (plusL P v u (-1)) sq.length
/-- The code of VersorBetween. -/
def codeVB (P : Int) (sq u v : List Int) : Int := if codeVb P sq [u, v] = 0 then (if pairL P sq u u = 0 ∨ ¬ pairL P sq u u = pairL P sq v v then 5 else 0) else codeVb P sq [u, v]
/-- VersorBetween. -/
def vbR (P : Int) (sq : List Int) (u : List Int) (v : List Int) : List Int × Int := if codeVB P sq u v = 0 then (vbL P sq u v, 0) else ([], codeVB P sq u v)
theorem vbR_ok {P : Int} {sq u v : List Int} (h : codeVB P sq u v = 0) : vbR P sq u v = (vbL P sq u v, 0) := by unfold vbR; rw [if_pos h]
theorem vbR_bad {P : Int} {sq u v : List Int} (h : ¬ codeVB P sq u v = 0) : vbR P sq u v = ([], codeVB P sq u v) := by unfold vbR; rw [if_neg h]
set_option maxHeartbeats 6400000 in
set_option maxRecDepth 8000 in
theorem VersorBetween_any (P : Int) (A : Option Addr) (n c : Nat) (sq : List Int) (X : Option Addr) (m cx : Nat) (u : List Int) (Y : Option Addr) (l cy : Nat) (v : List Int) (w : World) (hn : n ≤ 1048576) (hm : m ≤ 1048576) (hl : l ≤ 1048576) (ha : Rd w A n (ints sq)) (hx : Rd w X m (ints u)) (hcx : m ≤ cx) (hy : Rd w Y l (ints v)) (hcy : l ≤ cy) :
    Calls Tryz.prog 33 #[.agg #[.int .i64 P, .slice A n c], .slice X m cx, .slice Y l cy] w fun e w' => ∃ (A' : Option Addr) (k c' : Nat), e = .returned (.tuple #[.slice A' k c', .int .i64 (vbR P sq u v).2]) ∧ MkI w w' A' k c' (vbR P sq u v).1 := by
  have hB0 : Below w.heap.size w (w.alloc (.cells #[.int .i64 P, .slice A n c] 26)) := (Below.refl _ _).alloc (Nat.le_refl _) _
  have k0 : Blk (w.alloc (.cells #[.int .i64 P, .slice A n c] 26)) w.heap.size 26 #[.int .i64 P, .slice A n c] := Blk.new _ _ _
  have hB1 : Below w.heap.size w ((w.alloc (.cells #[.int .i64 P, .slice A n c] 26)).alloc (.cells #[.slice X m cx, .slice Y l cy] 24)) := hB0.alloc (by simp) _
  have k1 : Blk ((w.alloc (.cells #[.int .i64 P, .slice A n c] 26)).alloc (.cells #[.slice X m cx, .slice Y l cy] 24)) w.heap.size 26 #[.int .i64 P, .slice A n c] := k0.alloc _
  have hreg := checkVersV_any P A (some ⟨w.heap.size + 1, 0, none⟩) n c 2 2 sq [u, v] ((w.alloc (.cells #[.int .i64 P, .slice A n c] 26)).alloc (.cells #[.slice X m cx, .slice Y l cy] 24)) hn (by omega) (ha.below hB1) (rdII_two (Blk.newAt3 (by simp)) (hx.below hB1) (hy.below hB1) hcx hcy) (all_two (by rw [hx.lenI]; exact hm) (by rw [hy.lenI]; exact hl))
  by_cases hr0 : codeVb P sq [u, v] = 0
  · rw [hr0] at hreg
    have HR0 := Lib.hid hr0
    obtain ⟨hcv, hrg⟩ := codeVb_zero hr0
    obtain ⟨HP, hp, hp2, hd1, hd2, hs0, hvs⟩ := codeV_spec hcv
    have hsl := ha.lenI
    obtain ⟨hu1, hu2⟩ := hvs u (by simp)
    obtain ⟨hv1, hv2⟩ := hvs v (by simp)
    obtain rfl : m = n := by rw [← hx.lenI, hu1, hsl]
    obtain rfl : l = m := by rw [← hy.lenI, hv1, hsl]
    have HSL := Lib.hid hsl
    have HSQ := Lib.hid hs0
    have HXN := Lib.hid hu2
    have HYN := Lib.hid hv2
    have HUL := Lib.hid hx.lenI
    have HVL := Lib.hid hy.lenI
    have HPP := Lib.hid HP
    have hn6 : l ≤ 6 := by omega
    have hn0 : 0 < l := by omega
    clear hr0 hcv hrg hd1 hd2 hs0 hvs hu1 hu2 hv1 hv2 hsl HP
    obtain ⟨n, hnl⟩ : ∃ n, n = l := ⟨_, rfl⟩
    subst hnl
    have hX := hx
    have hY := hy
    have hNU := fun (w' : World) (h : Below w.heap.size w w') => norm_any P A n c sq X cx u w' hp hp2 hn6 (ha.below h) HSQ.out (hX.below h) HXN.out
    have hNV := fun (w' : World) (h : Below w.heap.size w w') => norm_any P A n c sq Y cy v w' hp hp2 hn6 (ha.below h) HSQ.out (hY.below h) HYN.out
    obtain ⟨a, hA⟩ : ∃ a, a = pairL P sq u u := ⟨_, rfl⟩
    obtain ⟨b, hB⟩ : ∃ b, b = pairL P sq v v := ⟨_, rfl⟩
    rw [← hA] at hNU
    rw [← hB] at hNV
    have HAB := Lib.hid (And.intro hA hB)
    clear hA hB
    by_cases ha0 : a = 0
    · have HC : Hid (codeVB P sq u v = 5) := Lib.hid (by unfold codeVB; rw [if_pos HR0.out, ← HAB.out.1, if_pos (.inl ha0)])
      have e1 : (a == 0) = true := by simp [ha0]
      go_enter Tryz.func33, Tryz.ntmps33
      go_wp2_with fail
      refine hreg.mono ?_
      rintro e w2 ⟨rfl, hb2⟩
      have hB2 := hB1.trans (hb2.mono hB1.size)
      have k2 := k1.below hb2 k1.lt
      obtain ⟨q0, q1⟩ := k2.two
      clear k0 hB0 k1 hB1 hb2
      have HNU := Lib.hid fun (w' : World) (h : Below w2.heap.size w2 w') => hNU w' (hB2.trans (h.mono hB2.size))
      clear hNU hNV ha0
      go_wp2
      refine wp_obs 13 [[], [], [0, 1], [0, 1, 2], [0, 1, 2, 3], [0, 1, 2, 3, 4], [0, 1, 2, 3, 4], [0, 1, 2, 3, 4, 5, 6], [0, 1, 2, 3, 4], [0, 1, 2, 3, 4], [0, 1, 2, 3, 4, 8, 9], [0, 1, 2, 3, 4, 5, 6, 7, 8, 9, 10], [0, 1, 2, 3, 4, 5, 6, 7, 8, 9, 10, 11]] [VIs (.agg #[.int .i64 P, .slice A n c]), VIs (.slice X n cx), VIs (.int .i64 (a)), VIs (.bool true), VIs (.bool true), VIs undef, VIs undef, VIs undef, VIs undef, VIs undef, VIs undef, VIs undef, VIs (.bool true)] (fun w' => Blk w' w.heap.size 26 #[.int .i64 P, .slice A n c] ∧ Below w2.heap.size w2 w') (by kernel_rfl) (by kernel_rfl) (fun _ _ h hb => ⟨h.1.below hb h.1.lt, h.2.trans (hb.mono h.2.size)⟩) (⟨k2.drew, (Below.refl _ _).drew⟩) (fun x => ?_)
      refine obs_step (Eq.trans (by simp only [List.getElem?_toArray, List.getElem?_cons_zero]; exact rfl) rfl) rfl (fun w' hS hV K hK => ?_) ?_
      · obtain ⟨q0, q1⟩ := hS.1.two
        go_simp
        exact hK.out _ _ _ rfl rfl rfl (Below.refl _ _)
      simp only [List.setIfInBounds_toArray, List.set_cons_zero, List.set_cons_succ]
      refine obs_step (Eq.trans (by simp only [List.getElem?_toArray, List.getElem?_cons_succ, List.getElem?_cons_zero]; exact rfl) rfl) rfl (fun w' hS hV K hK => ?_) ?_
      · obtain ⟨q0, q1⟩ := hS.1.two
        go_simp
        exact hK.out _ _ _ rfl rfl rfl (Below.refl _ _)
      simp only [List.setIfInBounds_toArray, List.set_cons_zero, List.set_cons_succ]
      refine obs_step (Eq.trans (by simp only [List.getElem?_toArray, List.getElem?_cons_succ, List.getElem?_cons_zero]; exact rfl) rfl) rfl (fun w' hS hV K hK => ?_) ?_
      · have e0 : x 0 = (.agg #[.int .i64 P, .slice A n c]) := hV 0 (by decide)
        have e1 : x 1 = (.slice X n cx) := hV 1 (by decide)
        obtain ⟨q0, q1⟩ := hS.1.two
        go_simp
        refine (HNU.out _ hS.2).mono ?_
        rintro e v1 ⟨rfl, hb⟩
        exact hK.out _ _ _ rfl rfl rfl hb
      simp only [List.setIfInBounds_toArray, List.set_cons_zero, List.set_cons_succ]
      refine obs_step (Eq.trans (by simp only [List.getElem?_toArray, List.getElem?_cons_succ, List.getElem?_cons_zero]; exact rfl) rfl) rfl (fun w' hS hV K hK => ?_) ?_
      · have e0 : x 0 = (.agg #[.int .i64 P, .slice A n c]) := hV 0 (by decide)
        have e1 : x 1 = (.slice X n cx) := hV 1 (by decide)
        have e2 : x 2 = (.int .i64 (a)) := hV 2 (by decide)
        obtain ⟨q0, q1⟩ := hS.1.two
        go_simp
        exact hK.out _ _ _ rfl rfl rfl (Below.refl _ _)
      simp only [List.setIfInBounds_toArray, List.set_cons_zero, List.set_cons_succ]
      refine obs_step (Eq.trans (by simp only [List.getElem?_toArray, List.getElem?_cons_succ, List.getElem?_cons_zero]; exact rfl) rfl) rfl (fun w' hS hV K hK => ?_) ?_
      · have e0 : x 0 = (.agg #[.int .i64 P, .slice A n c]) := hV 0 (by decide)
        have e1 : x 1 = (.slice X n cx) := hV 1 (by decide)
        have e2 : x 2 = (.int .i64 (a)) := hV 2 (by decide)
        have e3 : x 3 = (.bool true) := hV 3 (by decide)
        obtain ⟨q0, q1⟩ := hS.1.two
        go_simp
        exact hK.out _ _ _ rfl rfl rfl (Below.refl _ _)
      simp only [List.setIfInBounds_toArray, List.set_cons_zero, List.set_cons_succ]
      refine obs_step (Eq.trans (by simp only [List.getElem?_toArray, List.getElem?_cons_succ, List.getElem?_cons_zero]; exact rfl) rfl) rfl (fun w' hS hV K hK => ?_) ?_
      · have e0 : x 0 = (.agg #[.int .i64 P, .slice A n c]) := hV 0 (by decide)
        have e1 : x 1 = (.slice X n cx) := hV 1 (by decide)
        have e2 : x 2 = (.int .i64 (a)) := hV 2 (by decide)
        have e3 : x 3 = (.bool true) := hV 3 (by decide)
        have e4 : x 4 = (.bool true) := hV 4 (by decide)
        obtain ⟨q0, q1⟩ := hS.1.two
        go_simp
        exact hK.out _ _ _ rfl rfl rfl (Below.refl _ _)
      simp only [List.setIfInBounds_toArray, List.set_cons_zero, List.set_cons_succ]
      refine obs_step (Eq.trans (by simp only [List.getElem?_toArray, List.getElem?_cons_succ, List.getElem?_cons_zero]; exact rfl) rfl) rfl (fun w' hS hV K hK => ?_) ?_
      · have e0 : x 0 = (.agg #[.int .i64 P, .slice A n c]) := hV 0 (by decide)
        have e1 : x 1 = (.slice X n cx) := hV 1 (by decide)
        have e2 : x 2 = (.int .i64 (a)) := hV 2 (by decide)
        have e3 : x 3 = (.bool true) := hV 3 (by decide)
        have e4 : x 4 = (.bool true) := hV 4 (by decide)
        obtain ⟨q0, q1⟩ := hS.1.two
        go_simp
        exact hK.out _ _ _ rfl rfl rfl (Below.refl _ _)
      simp only [List.setIfInBounds_toArray, List.set_cons_zero, List.set_cons_succ]
      refine obs_step (Eq.trans (by simp only [List.getElem?_toArray, List.getElem?_cons_succ, List.getElem?_cons_zero]; exact rfl) rfl) rfl (fun w' hS hV K hK => ?_) ?_
      · have e0 : x 0 = (.agg #[.int .i64 P, .slice A n c]) := hV 0 (by decide)
        have e1 : x 1 = (.slice X n cx) := hV 1 (by decide)
        have e2 : x 2 = (.int .i64 (a)) := hV 2 (by decide)
        have e3 : x 3 = (.bool true) := hV 3 (by decide)
        have e4 : x 4 = (.bool true) := hV 4 (by decide)
        have e5 : x 5 = undef := hV 5 (by decide)
        have e6 : x 6 = undef := hV 6 (by decide)
        obtain ⟨q0, q1⟩ := hS.1.two
        go_simp
        exact hK.out _ _ _ rfl rfl rfl (Below.refl _ _)
      simp only [List.setIfInBounds_toArray, List.set_cons_zero, List.set_cons_succ]
      refine obs_step (Eq.trans (by simp only [List.getElem?_toArray, List.getElem?_cons_succ, List.getElem?_cons_zero]; exact rfl) rfl) rfl (fun w' hS hV K hK => ?_) ?_
      · have e0 : x 0 = (.agg #[.int .i64 P, .slice A n c]) := hV 0 (by decide)
        have e1 : x 1 = (.slice X n cx) := hV 1 (by decide)
        have e2 : x 2 = (.int .i64 (a)) := hV 2 (by decide)
        have e3 : x 3 = (.bool true) := hV 3 (by decide)
        have e4 : x 4 = (.bool true) := hV 4 (by decide)
        obtain ⟨q0, q1⟩ := hS.1.two
        go_simp
        exact hK.out _ _ _ rfl rfl rfl (Below.refl _ _)
      simp only [List.setIfInBounds_toArray, List.set_cons_zero, List.set_cons_succ]
      refine obs_step (Eq.trans (by simp only [List.getElem?_toArray, List.getElem?_cons_succ, List.getElem?_cons_zero]; exact rfl) rfl) rfl (fun w' hS hV K hK => ?_) ?_
      · have e0 : x 0 = (.agg #[.int .i64 P, .slice A n c]) := hV 0 (by decide)
        have e1 : x 1 = (.slice X n cx) := hV 1 (by decide)
        have e2 : x 2 = (.int .i64 (a)) := hV 2 (by decide)
        have e3 : x 3 = (.bool true) := hV 3 (by decide)
        have e4 : x 4 = (.bool true) := hV 4 (by decide)
        obtain ⟨q0, q1⟩ := hS.1.two
        go_simp
        exact hK.out _ _ _ rfl rfl rfl (Below.refl _ _)
      simp only [List.setIfInBounds_toArray, List.set_cons_zero, List.set_cons_succ]
      refine obs_step (Eq.trans (by simp only [List.getElem?_toArray, List.getElem?_cons_succ, List.getElem?_cons_zero]; exact rfl) rfl) rfl (fun w' hS hV K hK => ?_) ?_
      · have e0 : x 0 = (.agg #[.int .i64 P, .slice A n c]) := hV 0 (by decide)
        have e1 : x 1 = (.slice X n cx) := hV 1 (by decide)
        have e2 : x 2 = (.int .i64 (a)) := hV 2 (by decide)
        have e3 : x 3 = (.bool true) := hV 3 (by decide)
        have e4 : x 4 = (.bool true) := hV 4 (by decide)
        have e8 : x 8 = undef := hV 8 (by decide)
        have e9 : x 9 = undef := hV 9 (by decide)
        obtain ⟨q0, q1⟩ := hS.1.two
        go_simp
        exact hK.out _ _ _ rfl rfl rfl (Below.refl _ _)
      simp only [List.setIfInBounds_toArray, List.set_cons_zero, List.set_cons_succ]
      refine obs_step (Eq.trans (by simp only [List.getElem?_toArray, List.getElem?_cons_succ, List.getElem?_cons_zero]; exact rfl) rfl) rfl (fun w' hS hV K hK => ?_) ?_
      · have e0 : x 0 = (.agg #[.int .i64 P, .slice A n c]) := hV 0 (by decide)
        have e1 : x 1 = (.slice X n cx) := hV 1 (by decide)
        have e2 : x 2 = (.int .i64 (a)) := hV 2 (by decide)
        have e3 : x 3 = (.bool true) := hV 3 (by decide)
        have e4 : x 4 = (.bool true) := hV 4 (by decide)
        have e5 : x 5 = undef := hV 5 (by decide)
        have e6 : x 6 = undef := hV 6 (by decide)
        have e7 : x 7 = undef := hV 7 (by decide)
        have e8 : x 8 = undef := hV 8 (by decide)
        have e9 : x 9 = undef := hV 9 (by decide)
        have e10 : x 10 = undef := hV 10 (by decide)
        obtain ⟨q0, q1⟩ := hS.1.two
        go_simp
        exact hK.out _ _ _ rfl rfl rfl (Below.refl _ _)
      simp only [List.setIfInBounds_toArray, List.set_cons_zero, List.set_cons_succ]
      refine obs_step (Eq.trans (by simp only [List.getElem?_toArray, List.getElem?_cons_succ, List.getElem?_cons_zero]; exact rfl) rfl) rfl (fun w' hS hV K hK => ?_) ?_
      · have e0 : x 0 = (.agg #[.int .i64 P, .slice A n c]) := hV 0 (by decide)
        have e1 : x 1 = (.slice X n cx) := hV 1 (by decide)
        have e2 : x 2 = (.int .i64 (a)) := hV 2 (by decide)
        have e3 : x 3 = (.bool true) := hV 3 (by decide)
        have e4 : x 4 = (.bool true) := hV 4 (by decide)
        have e5 : x 5 = undef := hV 5 (by decide)
        have e6 : x 6 = undef := hV 6 (by decide)
        have e7 : x 7 = undef := hV 7 (by decide)
        have e8 : x 8 = undef := hV 8 (by decide)
        have e9 : x 9 = undef := hV 9 (by decide)
        have e10 : x 10 = undef := hV 10 (by decide)
        have e11 : x 11 = undef := hV 11 (by decide)
        obtain ⟨q0, q1⟩ := hS.1.two
        go_simp
        exact hK.out _ _ _ rfl rfl rfl (Below.refl _ _)
      simp only [List.setIfInBounds_toArray, List.set_cons_zero, List.set_cons_succ]
      refine fun w' hS hV => ?_
      have e0 : x 0 = (.agg #[.int .i64 P, .slice A n c]) := hV 0 (by decide)
      have e1 : x 1 = (.slice X n cx) := hV 1 (by decide)
      have e2 : x 2 = (.int .i64 (a)) := hV 2 (by decide)
      have e3 : x 3 = (.bool true) := hV 3 (by decide)
      have e4 : x 4 = (.bool true) := hV 4 (by decide)
      have e5 : x 5 = undef := hV 5 (by decide)
      have e6 : x 6 = undef := hV 6 (by decide)
      have e7 : x 7 = undef := hV 7 (by decide)
      have e8 : x 8 = undef := hV 8 (by decide)
      have e9 : x 9 = undef := hV 9 (by decide)
      have e10 : x 10 = undef := hV 10 (by decide)
      have e11 : x 11 = undef := hV 11 (by decide)
      have e12 : x 12 = (.bool true) := hV 12 (by decide)
      simp only [e0, e1, e2, e3, e4, e5, e6, e7, e8, e9, e10, e11, e12]
      clear e0 e1 e2 e3 e4 e5 e6 e7 e8 e9 e10 e11 e12
      refine wpAny_done (by kernel_rfl) ?_ _
      obtain ⟨k4, hb4⟩ := hS
      obtain ⟨w4, rfl⟩ : ∃ W, W = w' := ⟨_, rfl⟩
      have hB4 := hB2.trans (hb4.mono hB2.size)
      clear k2 hb4 q0 q1
      obtain ⟨q0, q1⟩ := k4.two
      go_wp2
      go_ret2
      exact noRow3 (by rw [vbR_bad (by rw [HC.out]; decide), HC.out]) hB4
    · have e1 : (a == 0) = false := by simp [ha0]
      by_cases hab : a = b
      · have HC : Hid (codeVB P sq u v = 0) := Lib.hid (by unfold codeVB; rw [if_pos HR0.out, ← HAB.out.1, ← HAB.out.2, if_neg (fun h => h.elim ha0 (fun h => h hab))])
        have e2 : (a != b) = false := by simp [hab]
        have hPL := fun (w' : World) (h : Below w.heap.size w w') => plus_any P Y n cy X n cx (-1) v u w' hp hp2 (by omega) (Nat.le_refl _) (hY.below h) HYN.out (hX.below h) HXN.out (by omega) (by omega)
        have hPL1 := fun (w' : World) (h : Below w.heap.size w w') => plus_any P Y n cy X n cx (1) v u w' hp hp2 (by omega) (Nat.le_refl _) (hY.below h) HYN.out (hX.below h) HXN.out (by omega) (by omega)
        skip
        obtain ⟨D, hD⟩ : ∃ D, D = plusL P v u (-1) := ⟨_, rfl⟩
        obtain ⟨D1, hD1⟩ : ∃ D, D = plusL P v u 1 := ⟨_, rfl⟩
        rw [← hD] at hPL
        rw [← hD1] at hPL1
        have HDN : Hid (NumsL P D) := Lib.hid (hD ▸ plusL_nums (by omega) _ _ _)
        have HD1N : Hid (NumsL P D1 ∧ D1.length = n) := Lib.hid (hD1 ▸ ⟨plusL_nums (by omega) _ _ _, (plusL_len _ _ _ _).trans HVL.out⟩)
        have HDD := Lib.hid (And.intro hD hD1)
        have HE : Hid (vbR P sq u v = (vbL P sq u v, 0)) := Lib.hid (vbR_ok HC.out)
        clear hD hD1 ha0
        go_enter Tryz.func33, Tryz.ntmps33
        go_wp2_with fail
        refine hreg.mono ?_
        rintro e w2 ⟨rfl, hb2⟩
        have hB2 := hB1.trans (hb2.mono hB1.size)
        have k2 := k1.below hb2 k1.lt
        obtain ⟨q0, q1⟩ := k2.two
        clear k0 hB0 k1 hB1 hb2
        have HNU := Lib.hid fun (w' : World) (h : Below w2.heap.size w2 w') => hNU w' (hB2.trans (h.mono hB2.size))
        have HNV := Lib.hid fun (w' : World) (h : Below w2.heap.size w2 w') => hNV w' (hB2.trans (h.mono hB2.size))
        clear hNU hNV hab
        go_wp2
        refine wp_obs 13 [[], [], [0, 1], [0, 1, 2], [0, 1, 2, 3], [0, 1, 2, 3, 4], [0, 1, 2, 3, 4], [0, 1, 2, 3, 4, 5, 6], [0, 1, 2, 3, 4], [0, 1, 2, 3, 4], [0, 1, 2, 3, 4, 8, 9], [0, 1, 2, 3, 4, 5, 6, 7, 8, 9, 10], [0, 1, 2, 3, 4, 5, 6, 7, 8, 9, 10, 11]] [VIs (.agg #[.int .i64 P, .slice A n c]), VIs (.slice X n cx), VIs (.int .i64 (a)), VIs (.bool false), VIs (.bool false), VIs (.agg #[.int .i64 P, .slice A n c]), VIs (.slice X n cx), VIs (.int .i64 (a)), VIs (.agg #[.int .i64 P, .slice A n c]), VIs (.slice Y n cy), VIs (.int .i64 (b)), VIs (.bool false), VIs (.bool false)] (fun w' => Blk w' w.heap.size 26 #[.int .i64 P, .slice A n c] ∧ Below w2.heap.size w2 w') (by kernel_rfl) (by kernel_rfl) (fun _ _ h hb => ⟨h.1.below hb h.1.lt, h.2.trans (hb.mono h.2.size)⟩) (⟨k2.drew, (Below.refl _ _).drew⟩) (fun x => ?_)
        refine obs_step (Eq.trans (by simp only [List.getElem?_toArray, List.getElem?_cons_zero]; exact rfl) rfl) rfl (fun w' hS hV K hK => ?_) ?_
        · obtain ⟨q0, q1⟩ := hS.1.two
          go_simp
          exact hK.out _ _ _ rfl rfl rfl (Below.refl _ _)
        simp only [List.setIfInBounds_toArray, List.set_cons_zero, List.set_cons_succ]
        refine obs_step (Eq.trans (by simp only [List.getElem?_toArray, List.getElem?_cons_succ, List.getElem?_cons_zero]; exact rfl) rfl) rfl (fun w' hS hV K hK => ?_) ?_
        · obtain ⟨q0, q1⟩ := hS.1.two
          go_simp
          exact hK.out _ _ _ rfl rfl rfl (Below.refl _ _)
        simp only [List.setIfInBounds_toArray, List.set_cons_zero, List.set_cons_succ]
        refine obs_step (Eq.trans (by simp only [List.getElem?_toArray, List.getElem?_cons_succ, List.getElem?_cons_zero]; exact rfl) rfl) rfl (fun w' hS hV K hK => ?_) ?_
        · have e0 : x 0 = (.agg #[.int .i64 P, .slice A n c]) := hV 0 (by decide)
          have e1 : x 1 = (.slice X n cx) := hV 1 (by decide)
          obtain ⟨q0, q1⟩ := hS.1.two
          go_simp
          refine (HNU.out _ hS.2).mono ?_
          rintro e v1 ⟨rfl, hb⟩
          exact hK.out _ _ _ rfl rfl rfl hb
        simp only [List.setIfInBounds_toArray, List.set_cons_zero, List.set_cons_succ]
        refine obs_step (Eq.trans (by simp only [List.getElem?_toArray, List.getElem?_cons_succ, List.getElem?_cons_zero]; exact rfl) rfl) rfl (fun w' hS hV K hK => ?_) ?_
        · have e0 : x 0 = (.agg #[.int .i64 P, .slice A n c]) := hV 0 (by decide)
          have e1 : x 1 = (.slice X n cx) := hV 1 (by decide)
          have e2 : x 2 = (.int .i64 (a)) := hV 2 (by decide)
          obtain ⟨q0, q1⟩ := hS.1.two
          go_simp
          exact hK.out _ _ _ rfl rfl rfl (Below.refl _ _)
        simp only [List.setIfInBounds_toArray, List.set_cons_zero, List.set_cons_succ]
        refine obs_step (Eq.trans (by simp only [List.getElem?_toArray, List.getElem?_cons_succ, List.getElem?_cons_zero]; exact rfl) rfl) rfl (fun w' hS hV K hK => ?_) ?_
        · have e0 : x 0 = (.agg #[.int .i64 P, .slice A n c]) := hV 0 (by decide)
          have e1 : x 1 = (.slice X n cx) := hV 1 (by decide)
          have e2 : x 2 = (.int .i64 (a)) := hV 2 (by decide)
          have e3 : x 3 = (.bool false) := hV 3 (by decide)
          obtain ⟨q0, q1⟩ := hS.1.two
          go_simp
          exact hK.out _ _ _ rfl rfl rfl (Below.refl _ _)
        simp only [List.setIfInBounds_toArray, List.set_cons_zero, List.set_cons_succ]
        refine obs_step (Eq.trans (by simp only [List.getElem?_toArray, List.getElem?_cons_succ, List.getElem?_cons_zero]; exact rfl) rfl) rfl (fun w' hS hV K hK => ?_) ?_
        · have e0 : x 0 = (.agg #[.int .i64 P, .slice A n c]) := hV 0 (by decide)
          have e1 : x 1 = (.slice X n cx) := hV 1 (by decide)
          have e2 : x 2 = (.int .i64 (a)) := hV 2 (by decide)
          have e3 : x 3 = (.bool false) := hV 3 (by decide)
          have e4 : x 4 = (.bool false) := hV 4 (by decide)
          obtain ⟨q0, q1⟩ := hS.1.two
          go_simp
          exact hK.out _ _ _ rfl rfl rfl (Below.refl _ _)
        simp only [List.setIfInBounds_toArray, List.set_cons_zero, List.set_cons_succ]
        refine obs_step (Eq.trans (by simp only [List.getElem?_toArray, List.getElem?_cons_succ, List.getElem?_cons_zero]; exact rfl) rfl) rfl (fun w' hS hV K hK => ?_) ?_
        · have e0 : x 0 = (.agg #[.int .i64 P, .slice A n c]) := hV 0 (by decide)
          have e1 : x 1 = (.slice X n cx) := hV 1 (by decide)
          have e2 : x 2 = (.int .i64 (a)) := hV 2 (by decide)
          have e3 : x 3 = (.bool false) := hV 3 (by decide)
          have e4 : x 4 = (.bool false) := hV 4 (by decide)
          obtain ⟨q0, q1⟩ := hS.1.two
          go_simp
          exact hK.out _ _ _ rfl rfl rfl (Below.refl _ _)
        simp only [List.setIfInBounds_toArray, List.set_cons_zero, List.set_cons_succ]
        refine obs_step (Eq.trans (by simp only [List.getElem?_toArray, List.getElem?_cons_succ, List.getElem?_cons_zero]; exact rfl) rfl) rfl (fun w' hS hV K hK => ?_) ?_
        · have e0 : x 0 = (.agg #[.int .i64 P, .slice A n c]) := hV 0 (by decide)
          have e1 : x 1 = (.slice X n cx) := hV 1 (by decide)
          have e2 : x 2 = (.int .i64 (a)) := hV 2 (by decide)
          have e3 : x 3 = (.bool false) := hV 3 (by decide)
          have e4 : x 4 = (.bool false) := hV 4 (by decide)
          have e5 : x 5 = (.agg #[.int .i64 P, .slice A n c]) := hV 5 (by decide)
          have e6 : x 6 = (.slice X n cx) := hV 6 (by decide)
          obtain ⟨q0, q1⟩ := hS.1.two
          go_simp
          refine (HNU.out _ hS.2).mono ?_
          rintro e v1 ⟨rfl, hb⟩
          exact hK.out _ _ _ rfl rfl rfl hb
        simp only [List.setIfInBounds_toArray, List.set_cons_zero, List.set_cons_succ]
        refine obs_step (Eq.trans (by simp only [List.getElem?_toArray, List.getElem?_cons_succ, List.getElem?_cons_zero]; exact rfl) rfl) rfl (fun w' hS hV K hK => ?_) ?_
        · have e0 : x 0 = (.agg #[.int .i64 P, .slice A n c]) := hV 0 (by decide)
          have e1 : x 1 = (.slice X n cx) := hV 1 (by decide)
          have e2 : x 2 = (.int .i64 (a)) := hV 2 (by decide)
          have e3 : x 3 = (.bool false) := hV 3 (by decide)
          have e4 : x 4 = (.bool false) := hV 4 (by decide)
          obtain ⟨q0, q1⟩ := hS.1.two
          go_simp
          exact hK.out _ _ _ rfl rfl rfl (Below.refl _ _)
        simp only [List.setIfInBounds_toArray, List.set_cons_zero, List.set_cons_succ]
        refine obs_step (Eq.trans (by simp only [List.getElem?_toArray, List.getElem?_cons_succ, List.getElem?_cons_zero]; exact rfl) rfl) rfl (fun w' hS hV K hK => ?_) ?_
        · have e0 : x 0 = (.agg #[.int .i64 P, .slice A n c]) := hV 0 (by decide)
          have e1 : x 1 = (.slice X n cx) := hV 1 (by decide)
          have e2 : x 2 = (.int .i64 (a)) := hV 2 (by decide)
          have e3 : x 3 = (.bool false) := hV 3 (by decide)
          have e4 : x 4 = (.bool false) := hV 4 (by decide)
          obtain ⟨q0, q1⟩ := hS.1.two
          go_simp
          exact hK.out _ _ _ rfl rfl rfl (Below.refl _ _)
        simp only [List.setIfInBounds_toArray, List.set_cons_zero, List.set_cons_succ]
        refine obs_step (Eq.trans (by simp only [List.getElem?_toArray, List.getElem?_cons_succ, List.getElem?_cons_zero]; exact rfl) rfl) rfl (fun w' hS hV K hK => ?_) ?_
        · have e0 : x 0 = (.agg #[.int .i64 P, .slice A n c]) := hV 0 (by decide)
          have e1 : x 1 = (.slice X n cx) := hV 1 (by decide)
          have e2 : x 2 = (.int .i64 (a)) := hV 2 (by decide)
          have e3 : x 3 = (.bool false) := hV 3 (by decide)
          have e4 : x 4 = (.bool false) := hV 4 (by decide)
          have e8 : x 8 = (.agg #[.int .i64 P, .slice A n c]) := hV 8 (by decide)
          have e9 : x 9 = (.slice Y n cy) := hV 9 (by decide)
          obtain ⟨q0, q1⟩ := hS.1.two
          go_simp
          refine (HNV.out _ hS.2).mono ?_
          rintro e v1 ⟨rfl, hb⟩
          exact hK.out _ _ _ rfl rfl rfl hb
        simp only [List.setIfInBounds_toArray, List.set_cons_zero, List.set_cons_succ]
        refine obs_step (Eq.trans (by simp only [List.getElem?_toArray, List.getElem?_cons_succ, List.getElem?_cons_zero]; exact rfl) rfl) rfl (fun w' hS hV K hK => ?_) ?_
        · have e0 : x 0 = (.agg #[.int .i64 P, .slice A n c]) := hV 0 (by decide)
          have e1 : x 1 = (.slice X n cx) := hV 1 (by decide)
          have e2 : x 2 = (.int .i64 (a)) := hV 2 (by decide)
          have e3 : x 3 = (.bool false) := hV 3 (by decide)
          have e4 : x 4 = (.bool false) := hV 4 (by decide)
          have e5 : x 5 = (.agg #[.int .i64 P, .slice A n c]) := hV 5 (by decide)
          have e6 : x 6 = (.slice X n cx) := hV 6 (by decide)
          have e7 : x 7 = (.int .i64 (a)) := hV 7 (by decide)
          have e8 : x 8 = (.agg #[.int .i64 P, .slice A n c]) := hV 8 (by decide)
          have e9 : x 9 = (.slice Y n cy) := hV 9 (by decide)
          have e10 : x 10 = (.int .i64 (b)) := hV 10 (by decide)
          obtain ⟨q0, q1⟩ := hS.1.two
          go_simp
          exact hK.out _ _ _ rfl rfl rfl (Below.refl _ _)
        simp only [List.setIfInBounds_toArray, List.set_cons_zero, List.set_cons_succ]
        refine obs_step (Eq.trans (by simp only [List.getElem?_toArray, List.getElem?_cons_succ, List.getElem?_cons_zero]; exact rfl) rfl) rfl (fun w' hS hV K hK => ?_) ?_
        · have e0 : x 0 = (.agg #[.int .i64 P, .slice A n c]) := hV 0 (by decide)
          have e1 : x 1 = (.slice X n cx) := hV 1 (by decide)
          have e2 : x 2 = (.int .i64 (a)) := hV 2 (by decide)
          have e3 : x 3 = (.bool false) := hV 3 (by decide)
          have e4 : x 4 = (.bool false) := hV 4 (by decide)
          have e5 : x 5 = (.agg #[.int .i64 P, .slice A n c]) := hV 5 (by decide)
          have e6 : x 6 = (.slice X n cx) := hV 6 (by decide)
          have e7 : x 7 = (.int .i64 (a)) := hV 7 (by decide)
          have e8 : x 8 = (.agg #[.int .i64 P, .slice A n c]) := hV 8 (by decide)
          have e9 : x 9 = (.slice Y n cy) := hV 9 (by decide)
          have e10 : x 10 = (.int .i64 (b)) := hV 10 (by decide)
          have e11 : x 11 = (.bool false) := hV 11 (by decide)
          obtain ⟨q0, q1⟩ := hS.1.two
          go_simp
          exact hK.out _ _ _ rfl rfl rfl (Below.refl _ _)
        simp only [List.setIfInBounds_toArray, List.set_cons_zero, List.set_cons_succ]
        refine fun w' hS hV => ?_
        have e0 : x 0 = (.agg #[.int .i64 P, .slice A n c]) := hV 0 (by decide)
        have e1 : x 1 = (.slice X n cx) := hV 1 (by decide)
        have e2 : x 2 = (.int .i64 (a)) := hV 2 (by decide)
        have e3 : x 3 = (.bool false) := hV 3 (by decide)
        have e4 : x 4 = (.bool false) := hV 4 (by decide)
        have e5 : x 5 = (.agg #[.int .i64 P, .slice A n c]) := hV 5 (by decide)
        have e6 : x 6 = (.slice X n cx) := hV 6 (by decide)
        have e7 : x 7 = (.int .i64 (a)) := hV 7 (by decide)
        have e8 : x 8 = (.agg #[.int .i64 P, .slice A n c]) := hV 8 (by decide)
        have e9 : x 9 = (.slice Y n cy) := hV 9 (by decide)
        have e10 : x 10 = (.int .i64 (b)) := hV 10 (by decide)
        have e11 : x 11 = (.bool false) := hV 11 (by decide)
        have e12 : x 12 = (.bool false) := hV 12 (by decide)
        simp only [e0, e1, e2, e3, e4, e5, e6, e7, e8, e9, e10, e11, e12]
        clear e0 e1 e2 e3 e4 e5 e6 e7 e8 e9 e10 e11 e12
        refine wpAny_done (by kernel_rfl) ?_ _
        obtain ⟨k4, hb4⟩ := hS
        obtain ⟨w4, rfl⟩ : ∃ W, W = w' := ⟨_, rfl⟩
        have hB4 := hB2.trans (hb4.mono hB2.size)
        clear k2 hb4 q0 q1
        obtain ⟨q0, q1⟩ := k4.two
        go_wp2_with fail
        refine (field_any _ _ _ _ _).mono ?_
        rintro e w5 ⟨rfl, hb5⟩
        have hB5 := hB4.trans (hb5.mono hB4.size)
        have k5 := k4.below hb5 k4.lt
        clear k4 hB4 hb5 q0 q1
        obtain ⟨q0, q1⟩ := k5.two
        go_wp2_with fail
        refine (hPL _ hB5).mono ?_
        rintro e w6 ⟨AD, cd, rfl, hMD⟩
        have hB6 := hB5.trans (hMD.b.mono hB5.size)
        have k6 := k5.below hMD.b k5.lt
        have hAD := hMD.rd
        clear q0 q1 hPL k5 hB5
        obtain ⟨q0, q1⟩ := k6.two
        have HADN := HDN
        have hBr := Below.refl w6.heap.size w6
        have hnd := norm_any P A n c sq AD cd D w6 hp hp2 hn6 (ha.below hB6) HSQ.out hAD HDN.out
        obtain ⟨dd, hdd⟩ : ∃ d, d = pairL P sq D D := ⟨_, rfl⟩
        rw [← hdd] at hnd
        have HDP := Lib.hid hdd
        clear hdd hBr
        by_cases hd0 : dd = 0
        · have e3 : (dd != 0) = false := by simp [hd0]
          have HEV : Hid (vbL P sq u v = versL P sq n [v, D1]) := Lib.hid (by unfold vbL; rw [← HDD.out.1, ← HDD.out.2, ← HDP.out, if_pos hd0, HSL.out])
          clear hd0
          go_wp2_with fail
          refine hnd.mono ?_
          rintro e w7 ⟨rfl, hb7⟩
          have hB7 := hB6.trans (hb7.mono hB6.size)
          have k7 := k6.below hb7 k6.lt
          clear hnd k6 q0 q1 hB6 hAD hMD hb7
          obtain ⟨w6, rfl⟩ : ∃ W, W = w7 := ⟨_, rfl⟩
          have k6 := k7
          have hB6 := hB7
          have hy6 := hY.below hB6
          have hcy := hcy
          have HPL1 := Lib.hid fun (w' : World) (h : Below w6.heap.size w6 w') => hPL1 w' (hB6.trans (h.mono hB6.size))
          have HVR := Lib.hid fun (w' : World) (B : Option Addr) (d : Nat) (h : Below w6.heap.size w6 w') (hb : RdII w' B 2 [v, D1]) => versor_any P A n c sq B 2 d [v, D1] w' HPP.out hn6 hn0 (by omega) (ha.below (hB6.trans (h.mono hB6.size))) HSQ.out hb (all_two ⟨HVL.out, HYN.out⟩ ⟨HD1N.out.2, HD1N.out.1⟩)
          obtain ⟨VL, hVL⟩ : ∃ L, L = versL P sq n [v, D1] := ⟨_, rfl⟩
          rw [← hVL] at HVR HEV
          clear hVL hPL1 k7 hB7
          obtain ⟨q0, q1⟩ := k6.two
          go_wp2
          refine wp_obs 11 [[], [], [], [2], [], [], [2, 3, 4, 5], [1, 2, 3, 4, 5, 6], [0, 1, 2, 3, 4, 5, 6, 7], [0, 1, 2, 3, 4, 5, 6, 7, 8], []] [VIs (.agg #[.int .i64 P, .slice A n c]), VIs (.slice Y n cy), VIs (.agg #[.int .i64 P, .slice A n c]), VIs (.int .i64 (P)), VIs (.slice Y n cy), VIs (.slice X n cx), VSl w6 n D1, VRow 2 [v, D1], VSl w6 (pw n) VL, VSl w6 (pw n) VL, VIs (.int .i64 0)] (fun w' => Blk w' w.heap.size 26 #[.int .i64 P, .slice A n c] ∧ Below w6.heap.size w6 w') (by kernel_rfl) (by kernel_rfl) (fun _ _ h hb => ⟨h.1.below hb h.1.lt, h.2.trans (hb.mono h.2.size)⟩) (⟨k6.drew, (Below.refl _ _).drew⟩) (fun x => ?_)
          refine obs_step (Eq.trans (by simp only [List.getElem?_toArray, List.getElem?_cons_zero]; exact rfl) rfl) rfl (fun w' hS hV K hK => ?_) ?_
          · obtain ⟨q0, q1⟩ := hS.1.two
            go_simp
            exact hK.out _ _ _ rfl rfl rfl (Below.refl _ _)
          simp only [List.setIfInBounds_toArray, List.set_cons_zero, List.set_cons_succ]
          refine obs_step (Eq.trans (by simp only [List.getElem?_toArray, List.getElem?_cons_succ, List.getElem?_cons_zero]; exact rfl) rfl) rfl (fun w' hS hV K hK => ?_) ?_
          · obtain ⟨q0, q1⟩ := hS.1.two
            go_simp
            exact hK.out _ _ _ rfl rfl rfl (Below.refl _ _)
          simp only [List.setIfInBounds_toArray, List.set_cons_zero, List.set_cons_succ]
          refine obs_step (Eq.trans (by simp only [List.getElem?_toArray, List.getElem?_cons_succ, List.getElem?_cons_zero]; exact rfl) rfl) rfl (fun w' hS hV K hK => ?_) ?_
          · obtain ⟨q0, q1⟩ := hS.1.two
            go_simp
            exact hK.out _ _ _ rfl rfl rfl (Below.refl _ _)
          simp only [List.setIfInBounds_toArray, List.set_cons_zero, List.set_cons_succ]
          refine obs_step (Eq.trans (by simp only [List.getElem?_toArray, List.getElem?_cons_succ, List.getElem?_cons_zero]; exact rfl) rfl) rfl (fun w' hS hV K hK => ?_) ?_
          · have e2 : x 2 = (.agg #[.int .i64 P, .slice A n c]) := hV 2 (by decide)
            obtain ⟨q0, q1⟩ := hS.1.two
            go_simp
            refine (field_any _ _ _ _ _).mono ?_
            rintro e v1 ⟨rfl, hb⟩
            exact hK.out _ _ _ rfl rfl rfl hb
          simp only [List.setIfInBounds_toArray, List.set_cons_zero, List.set_cons_succ]
          refine obs_step (Eq.trans (by simp only [List.getElem?_toArray, List.getElem?_cons_succ, List.getElem?_cons_zero]; exact rfl) rfl) rfl (fun w' hS hV K hK => ?_) ?_
          · obtain ⟨q0, q1⟩ := hS.1.two
            go_simp
            exact hK.out _ _ _ rfl rfl rfl (Below.refl _ _)
          simp only [List.setIfInBounds_toArray, List.set_cons_zero, List.set_cons_succ]
          refine obs_step (Eq.trans (by simp only [List.getElem?_toArray, List.getElem?_cons_succ, List.getElem?_cons_zero]; exact rfl) rfl) rfl (fun w' hS hV K hK => ?_) ?_
          · obtain ⟨q0, q1⟩ := hS.1.two
            go_simp
            exact hK.out _ _ _ rfl rfl rfl (Below.refl _ _)
          simp only [List.setIfInBounds_toArray, List.set_cons_zero, List.set_cons_succ]
          refine obs_step (Eq.trans (by simp only [List.getElem?_toArray, List.getElem?_cons_succ, List.getElem?_cons_zero]; exact rfl) rfl) rfl (fun w' hS hV K hK => ?_) ?_
          · have e2 : x 2 = (.agg #[.int .i64 P, .slice A n c]) := hV 2 (by decide)
            have e3 : x 3 = (.int .i64 (P)) := hV 3 (by decide)
            have e4 : x 4 = (.slice Y n cy) := hV 4 (by decide)
            have e5 : x 5 = (.slice X n cx) := hV 5 (by decide)
            obtain ⟨q0, q1⟩ := hS.1.two
            go_simp
            refine (HPL1.out _ hS.2).mono ?_
            rintro e v1 ⟨A2, c2, rfl, hM⟩
            exact hK.out _ _ _ rfl rfl ⟨_, _, rfl, hM.after hS.2⟩ hM.b
          simp only [List.setIfInBounds_toArray, List.set_cons_zero, List.set_cons_succ]
          refine obs_step (Eq.trans (by simp only [List.getElem?_toArray, List.getElem?_cons_succ, List.getElem?_cons_zero]; exact rfl) rfl) rfl (fun w' hS hV K hK => ?_) ?_
          · have e1 : x 1 = (.slice Y n cy) := hV 1 (by decide)
            have e2 : x 2 = (.agg #[.int .i64 P, .slice A n c]) := hV 2 (by decide)
            have e3 : x 3 = (.int .i64 (P)) := hV 3 (by decide)
            have e4 : x 4 = (.slice Y n cy) := hV 4 (by decide)
            have e5 : x 5 = (.slice X n cx) := hV 5 (by decide)
            obtain ⟨A6, c6, e6, h6⟩ := hV 6 (by decide)
            obtain ⟨q0, q1⟩ := hS.1.two
            go_simp
            exact hK.out _ _ _ rfl rfl ⟨_, _, rfl, rdII_two (Blk.new _ _ _) (Rd.below (hy6.below hS.2) ((Below.refl _ _).alloc (Nat.le_refl _) _)) (Rd.below h6.rd ((Below.refl _ _).alloc (Nat.le_refl _) _)) hcy h6.2.cap⟩ ((Below.refl _ _).alloc (Nat.le_refl _) _)
          simp only [List.setIfInBounds_toArray, List.set_cons_zero, List.set_cons_succ]
          refine obs_step (Eq.trans (by simp only [List.getElem?_toArray, List.getElem?_cons_succ, List.getElem?_cons_zero]; exact rfl) rfl) rfl (fun w' hS hV K hK => ?_) ?_
          · have e0 : x 0 = (.agg #[.int .i64 P, .slice A n c]) := hV 0 (by decide)
            have e1 : x 1 = (.slice Y n cy) := hV 1 (by decide)
            have e2 : x 2 = (.agg #[.int .i64 P, .slice A n c]) := hV 2 (by decide)
            have e3 : x 3 = (.int .i64 (P)) := hV 3 (by decide)
            have e4 : x 4 = (.slice Y n cy) := hV 4 (by decide)
            have e5 : x 5 = (.slice X n cx) := hV 5 (by decide)
            obtain ⟨A6, c6, e6, h6⟩ := hV 6 (by decide)
            obtain ⟨A7, c7, e7, h7⟩ := hV 7 (by decide)
            obtain ⟨q0, q1⟩ := hS.1.two
            go_simp
            refine (HVR.out _ _ _ hS.2 h7).mono ?_
            rintro e v1 ⟨A2, c2, rfl, hM⟩
            exact hK.out _ _ _ rfl rfl ⟨_, _, rfl, hM.after hS.2⟩ hM.b
          simp only [List.setIfInBounds_toArray, List.set_cons_zero, List.set_cons_succ]
          refine obs_step (Eq.trans (by simp only [List.getElem?_toArray, List.getElem?_cons_succ, List.getElem?_cons_zero]; exact rfl) rfl) rfl (fun w' hS hV K hK => ?_) ?_
          · have e0 : x 0 = (.agg #[.int .i64 P, .slice A n c]) := hV 0 (by decide)
            have e1 : x 1 = (.slice Y n cy) := hV 1 (by decide)
            have e2 : x 2 = (.agg #[.int .i64 P, .slice A n c]) := hV 2 (by decide)
            have e3 : x 3 = (.int .i64 (P)) := hV 3 (by decide)
            have e4 : x 4 = (.slice Y n cy) := hV 4 (by decide)
            have e5 : x 5 = (.slice X n cx) := hV 5 (by decide)
            obtain ⟨A6, c6, e6, h6⟩ := hV 6 (by decide)
            obtain ⟨A7, c7, e7, h7⟩ := hV 7 (by decide)
            obtain ⟨A8, c8, e8, h8⟩ := hV 8 (by decide)
            obtain ⟨q0, q1⟩ := hS.1.two
            go_simp
            exact hK.out _ _ _ rfl rfl ⟨_, _, rfl, h8⟩ (Below.refl _ _)
          simp only [List.setIfInBounds_toArray, List.set_cons_zero, List.set_cons_succ]
          refine obs_step (Eq.trans (by simp only [List.getElem?_toArray, List.getElem?_cons_succ, List.getElem?_cons_zero]; exact rfl) rfl) rfl (fun w' hS hV K hK => ?_) ?_
          · obtain ⟨q0, q1⟩ := hS.1.two
            go_simp
            exact hK.out _ _ _ rfl rfl rfl (Below.refl _ _)
          simp only [List.setIfInBounds_toArray, List.set_cons_zero, List.set_cons_succ]
          refine fun w' hS hV => ?_
          have e0 : x 0 = (.agg #[.int .i64 P, .slice A n c]) := hV 0 (by decide)
          have e1 : x 1 = (.slice Y n cy) := hV 1 (by decide)
          have e2 : x 2 = (.agg #[.int .i64 P, .slice A n c]) := hV 2 (by decide)
          have e3 : x 3 = (.int .i64 (P)) := hV 3 (by decide)
          have e4 : x 4 = (.slice Y n cy) := hV 4 (by decide)
          have e5 : x 5 = (.slice X n cx) := hV 5 (by decide)
          obtain ⟨A6, c6, e6, h6⟩ := hV 6 (by decide)
          obtain ⟨A7, c7, e7, h7⟩ := hV 7 (by decide)
          obtain ⟨A8, c8, e8, h8⟩ := hV 8 (by decide)
          obtain ⟨A9, c9, e9, h9⟩ := hV 9 (by decide)
          have e10 : x 10 = (.int .i64 0) := hV 10 (by decide)
          simp only [e0, e1, e2, e3, e4, e5, e6, e7, e8, e9, e10]
          clear e0 e1 e2 e3 e4 e5 e6 e7 e8 e9 e10
          refine wpAny_done (by kernel_rfl) ?_ _
          go_wp2
          go_ret2
          exact ⟨A9, pw n, c9, (by rw [HE.out]; first | done | rfl), by rw [HE.out, HEV.out]; exact h9.after hB6⟩
        · have e3 : (dd != 0) = true := by simp [hd0]
          have HEV : Hid (vbL P sq u v = vecTo n D n) := Lib.hid (by unfold vbL; rw [← HDD.out.1, ← HDP.out, if_neg hd0, HSL.out])
          clear hd0
          go_wp2_with fail
          refine hnd.mono ?_
          rintro e w7 ⟨rfl, hb7⟩
          have hB7 := hB6.trans (hb7.mono hB6.size)
          have k7 := k6.below hb7 k6.lt
          clear q0 q1
          obtain ⟨q0, q1⟩ := k7.two
          go_wp2_with fail
          refine (vector_any P A n c AD cd D w7 (by omega) (hAD.below hb7)).mono ?_
          rintro e w8 ⟨A8, c8, rfl, hM8⟩
          go_wp2
          go_ret2
          exact ⟨A8, pw n, c8, (by rw [HE.out]; first | done | rfl), by rw [HE.out, HEV.out]; exact hM8.after hB7⟩
      · have HC : Hid (codeVB P sq u v = 5) := Lib.hid (by unfold codeVB; rw [if_pos HR0.out, ← HAB.out.1, ← HAB.out.2, if_pos (.inr hab)])
        have e2 : (a != b) = true := by simp [hab]
        go_enter Tryz.func33, Tryz.ntmps33
        go_wp2_with fail
        refine hreg.mono ?_
        rintro e w2 ⟨rfl, hb2⟩
        have hB2 := hB1.trans (hb2.mono hB1.size)
        have k2 := k1.below hb2 k1.lt
        obtain ⟨q0, q1⟩ := k2.two
        clear k0 hB0 k1 hB1 hb2
        have HNU := Lib.hid fun (w' : World) (h : Below w2.heap.size w2 w') => hNU w' (hB2.trans (h.mono hB2.size))
        have HNV := Lib.hid fun (w' : World) (h : Below w2.heap.size w2 w') => hNV w' (hB2.trans (h.mono hB2.size))
        clear hNU hNV ha0 hab
        go_wp2
        refine wp_obs 13 [[], [], [0, 1], [0, 1, 2], [0, 1, 2, 3], [0, 1, 2, 3, 4], [0, 1, 2, 3, 4], [0, 1, 2, 3, 4, 5, 6], [0, 1, 2, 3, 4], [0, 1, 2, 3, 4], [0, 1, 2, 3, 4, 8, 9], [0, 1, 2, 3, 4, 5, 6, 7, 8, 9, 10], [0, 1, 2, 3, 4, 5, 6, 7, 8, 9, 10, 11]] [VIs (.agg #[.int .i64 P, .slice A n c]), VIs (.slice X n cx), VIs (.int .i64 (a)), VIs (.bool false), VIs (.bool false), VIs (.agg #[.int .i64 P, .slice A n c]), VIs (.slice X n cx), VIs (.int .i64 (a)), VIs (.agg #[.int .i64 P, .slice A n c]), VIs (.slice Y n cy), VIs (.int .i64 (b)), VIs (.bool true), VIs (.bool true)] (fun w' => Blk w' w.heap.size 26 #[.int .i64 P, .slice A n c] ∧ Below w2.heap.size w2 w') (by kernel_rfl) (by kernel_rfl) (fun _ _ h hb => ⟨h.1.below hb h.1.lt, h.2.trans (hb.mono h.2.size)⟩) (⟨k2.drew, (Below.refl _ _).drew⟩) (fun x => ?_)
        refine obs_step (Eq.trans (by simp only [List.getElem?_toArray, List.getElem?_cons_zero]; exact rfl) rfl) rfl (fun w' hS hV K hK => ?_) ?_
        · obtain ⟨q0, q1⟩ := hS.1.two
          go_simp
          exact hK.out _ _ _ rfl rfl rfl (Below.refl _ _)
        simp only [List.setIfInBounds_toArray, List.set_cons_zero, List.set_cons_succ]
        refine obs_step (Eq.trans (by simp only [List.getElem?_toArray, List.getElem?_cons_succ, List.getElem?_cons_zero]; exact rfl) rfl) rfl (fun w' hS hV K hK => ?_) ?_
        · obtain ⟨q0, q1⟩ := hS.1.two
          go_simp
          exact hK.out _ _ _ rfl rfl rfl (Below.refl _ _)
        simp only [List.setIfInBounds_toArray, List.set_cons_zero, List.set_cons_succ]
        refine obs_step (Eq.trans (by simp only [List.getElem?_toArray, List.getElem?_cons_succ, List.getElem?_cons_zero]; exact rfl) rfl) rfl (fun w' hS hV K hK => ?_) ?_
        · have e0 : x 0 = (.agg #[.int .i64 P, .slice A n c]) := hV 0 (by decide)
          have e1 : x 1 = (.slice X n cx) := hV 1 (by decide)
          obtain ⟨q0, q1⟩ := hS.1.two
          go_simp
          refine (HNU.out _ hS.2).mono ?_
          rintro e v1 ⟨rfl, hb⟩
          exact hK.out _ _ _ rfl rfl rfl hb
        simp only [List.setIfInBounds_toArray, List.set_cons_zero, List.set_cons_succ]
        refine obs_step (Eq.trans (by simp only [List.getElem?_toArray, List.getElem?_cons_succ, List.getElem?_cons_zero]; exact rfl) rfl) rfl (fun w' hS hV K hK => ?_) ?_
        · have e0 : x 0 = (.agg #[.int .i64 P, .slice A n c]) := hV 0 (by decide)
          have e1 : x 1 = (.slice X n cx) := hV 1 (by decide)
          have e2 : x 2 = (.int .i64 (a)) := hV 2 (by decide)
          obtain ⟨q0, q1⟩ := hS.1.two
          go_simp
          exact hK.out _ _ _ rfl rfl rfl (Below.refl _ _)
        simp only [List.setIfInBounds_toArray, List.set_cons_zero, List.set_cons_succ]
        refine obs_step (Eq.trans (by simp only [List.getElem?_toArray, List.getElem?_cons_succ, List.getElem?_cons_zero]; exact rfl) rfl) rfl (fun w' hS hV K hK => ?_) ?_
        · have e0 : x 0 = (.agg #[.int .i64 P, .slice A n c]) := hV 0 (by decide)
          have e1 : x 1 = (.slice X n cx) := hV 1 (by decide)
          have e2 : x 2 = (.int .i64 (a)) := hV 2 (by decide)
          have e3 : x 3 = (.bool false) := hV 3 (by decide)
          obtain ⟨q0, q1⟩ := hS.1.two
          go_simp
          exact hK.out _ _ _ rfl rfl rfl (Below.refl _ _)
        simp only [List.setIfInBounds_toArray, List.set_cons_zero, List.set_cons_succ]
        refine obs_step (Eq.trans (by simp only [List.getElem?_toArray, List.getElem?_cons_succ, List.getElem?_cons_zero]; exact rfl) rfl) rfl (fun w' hS hV K hK => ?_) ?_
        · have e0 : x 0 = (.agg #[.int .i64 P, .slice A n c]) := hV 0 (by decide)
          have e1 : x 1 = (.slice X n cx) := hV 1 (by decide)
          have e2 : x 2 = (.int .i64 (a)) := hV 2 (by decide)
          have e3 : x 3 = (.bool false) := hV 3 (by decide)
          have e4 : x 4 = (.bool false) := hV 4 (by decide)
          obtain ⟨q0, q1⟩ := hS.1.two
          go_simp
          exact hK.out _ _ _ rfl rfl rfl (Below.refl _ _)
        simp only [List.setIfInBounds_toArray, List.set_cons_zero, List.set_cons_succ]
        refine obs_step (Eq.trans (by simp only [List.getElem?_toArray, List.getElem?_cons_succ, List.getElem?_cons_zero]; exact rfl) rfl) rfl (fun w' hS hV K hK => ?_) ?_
        · have e0 : x 0 = (.agg #[.int .i64 P, .slice A n c]) := hV 0 (by decide)
          have e1 : x 1 = (.slice X n cx) := hV 1 (by decide)
          have e2 : x 2 = (.int .i64 (a)) := hV 2 (by decide)
          have e3 : x 3 = (.bool false) := hV 3 (by decide)
          have e4 : x 4 = (.bool false) := hV 4 (by decide)
          obtain ⟨q0, q1⟩ := hS.1.two
          go_simp
          exact hK.out _ _ _ rfl rfl rfl (Below.refl _ _)
        simp only [List.setIfInBounds_toArray, List.set_cons_zero, List.set_cons_succ]
        refine obs_step (Eq.trans (by simp only [List.getElem?_toArray, List.getElem?_cons_succ, List.getElem?_cons_zero]; exact rfl) rfl) rfl (fun w' hS hV K hK => ?_) ?_
        · have e0 : x 0 = (.agg #[.int .i64 P, .slice A n c]) := hV 0 (by decide)
          have e1 : x 1 = (.slice X n cx) := hV 1 (by decide)
          have e2 : x 2 = (.int .i64 (a)) := hV 2 (by decide)
          have e3 : x 3 = (.bool false) := hV 3 (by decide)
          have e4 : x 4 = (.bool false) := hV 4 (by decide)
          have e5 : x 5 = (.agg #[.int .i64 P, .slice A n c]) := hV 5 (by decide)
          have e6 : x 6 = (.slice X n cx) := hV 6 (by decide)
          obtain ⟨q0, q1⟩ := hS.1.two
          go_simp
          refine (HNU.out _ hS.2).mono ?_
          rintro e v1 ⟨rfl, hb⟩
          exact hK.out _ _ _ rfl rfl rfl hb
        simp only [List.setIfInBounds_toArray, List.set_cons_zero, List.set_cons_succ]
        refine obs_step (Eq.trans (by simp only [List.getElem?_toArray, List.getElem?_cons_succ, List.getElem?_cons_zero]; exact rfl) rfl) rfl (fun w' hS hV K hK => ?_) ?_
        · have e0 : x 0 = (.agg #[.int .i64 P, .slice A n c]) := hV 0 (by decide)
          have e1 : x 1 = (.slice X n cx) := hV 1 (by decide)
          have e2 : x 2 = (.int .i64 (a)) := hV 2 (by decide)
          have e3 : x 3 = (.bool false) := hV 3 (by decide)
          have e4 : x 4 = (.bool false) := hV 4 (by decide)
          obtain ⟨q0, q1⟩ := hS.1.two
          go_simp
          exact hK.out _ _ _ rfl rfl rfl (Below.refl _ _)
        simp only [List.setIfInBounds_toArray, List.set_cons_zero, List.set_cons_succ]
        refine obs_step (Eq.trans (by simp only [List.getElem?_toArray, List.getElem?_cons_succ, List.getElem?_cons_zero]; exact rfl) rfl) rfl (fun w' hS hV K hK => ?_) ?_
        · have e0 : x 0 = (.agg #[.int .i64 P, .slice A n c]) := hV 0 (by decide)
          have e1 : x 1 = (.slice X n cx) := hV 1 (by decide)
          have e2 : x 2 = (.int .i64 (a)) := hV 2 (by decide)
          have e3 : x 3 = (.bool false) := hV 3 (by decide)
          have e4 : x 4 = (.bool false) := hV 4 (by decide)
          obtain ⟨q0, q1⟩ := hS.1.two
          go_simp
          exact hK.out _ _ _ rfl rfl rfl (Below.refl _ _)
        simp only [List.setIfInBounds_toArray, List.set_cons_zero, List.set_cons_succ]
        refine obs_step (Eq.trans (by simp only [List.getElem?_toArray, List.getElem?_cons_succ, List.getElem?_cons_zero]; exact rfl) rfl) rfl (fun w' hS hV K hK => ?_) ?_
        · have e0 : x 0 = (.agg #[.int .i64 P, .slice A n c]) := hV 0 (by decide)
          have e1 : x 1 = (.slice X n cx) := hV 1 (by decide)
          have e2 : x 2 = (.int .i64 (a)) := hV 2 (by decide)
          have e3 : x 3 = (.bool false) := hV 3 (by decide)
          have e4 : x 4 = (.bool false) := hV 4 (by decide)
          have e8 : x 8 = (.agg #[.int .i64 P, .slice A n c]) := hV 8 (by decide)
          have e9 : x 9 = (.slice Y n cy) := hV 9 (by decide)
          obtain ⟨q0, q1⟩ := hS.1.two
          go_simp
          refine (HNV.out _ hS.2).mono ?_
          rintro e v1 ⟨rfl, hb⟩
          exact hK.out _ _ _ rfl rfl rfl hb
        simp only [List.setIfInBounds_toArray, List.set_cons_zero, List.set_cons_succ]
        refine obs_step (Eq.trans (by simp only [List.getElem?_toArray, List.getElem?_cons_succ, List.getElem?_cons_zero]; exact rfl) rfl) rfl (fun w' hS hV K hK => ?_) ?_
        · have e0 : x 0 = (.agg #[.int .i64 P, .slice A n c]) := hV 0 (by decide)
          have e1 : x 1 = (.slice X n cx) := hV 1 (by decide)
          have e2 : x 2 = (.int .i64 (a)) := hV 2 (by decide)
          have e3 : x 3 = (.bool false) := hV 3 (by decide)
          have e4 : x 4 = (.bool false) := hV 4 (by decide)
          have e5 : x 5 = (.agg #[.int .i64 P, .slice A n c]) := hV 5 (by decide)
          have e6 : x 6 = (.slice X n cx) := hV 6 (by decide)
          have e7 : x 7 = (.int .i64 (a)) := hV 7 (by decide)
          have e8 : x 8 = (.agg #[.int .i64 P, .slice A n c]) := hV 8 (by decide)
          have e9 : x 9 = (.slice Y n cy) := hV 9 (by decide)
          have e10 : x 10 = (.int .i64 (b)) := hV 10 (by decide)
          obtain ⟨q0, q1⟩ := hS.1.two
          go_simp
          exact hK.out _ _ _ rfl rfl rfl (Below.refl _ _)
        simp only [List.setIfInBounds_toArray, List.set_cons_zero, List.set_cons_succ]
        refine obs_step (Eq.trans (by simp only [List.getElem?_toArray, List.getElem?_cons_succ, List.getElem?_cons_zero]; exact rfl) rfl) rfl (fun w' hS hV K hK => ?_) ?_
        · have e0 : x 0 = (.agg #[.int .i64 P, .slice A n c]) := hV 0 (by decide)
          have e1 : x 1 = (.slice X n cx) := hV 1 (by decide)
          have e2 : x 2 = (.int .i64 (a)) := hV 2 (by decide)
          have e3 : x 3 = (.bool false) := hV 3 (by decide)
          have e4 : x 4 = (.bool false) := hV 4 (by decide)
          have e5 : x 5 = (.agg #[.int .i64 P, .slice A n c]) := hV 5 (by decide)
          have e6 : x 6 = (.slice X n cx) := hV 6 (by decide)
          have e7 : x 7 = (.int .i64 (a)) := hV 7 (by decide)
          have e8 : x 8 = (.agg #[.int .i64 P, .slice A n c]) := hV 8 (by decide)
          have e9 : x 9 = (.slice Y n cy) := hV 9 (by decide)
          have e10 : x 10 = (.int .i64 (b)) := hV 10 (by decide)
          have e11 : x 11 = (.bool true) := hV 11 (by decide)
          obtain ⟨q0, q1⟩ := hS.1.two
          go_simp
          exact hK.out _ _ _ rfl rfl rfl (Below.refl _ _)
        simp only [List.setIfInBounds_toArray, List.set_cons_zero, List.set_cons_succ]
        refine fun w' hS hV => ?_
        have e0 : x 0 = (.agg #[.int .i64 P, .slice A n c]) := hV 0 (by decide)
        have e1 : x 1 = (.slice X n cx) := hV 1 (by decide)
        have e2 : x 2 = (.int .i64 (a)) := hV 2 (by decide)
        have e3 : x 3 = (.bool false) := hV 3 (by decide)
        have e4 : x 4 = (.bool false) := hV 4 (by decide)
        have e5 : x 5 = (.agg #[.int .i64 P, .slice A n c]) := hV 5 (by decide)
        have e6 : x 6 = (.slice X n cx) := hV 6 (by decide)
        have e7 : x 7 = (.int .i64 (a)) := hV 7 (by decide)
        have e8 : x 8 = (.agg #[.int .i64 P, .slice A n c]) := hV 8 (by decide)
        have e9 : x 9 = (.slice Y n cy) := hV 9 (by decide)
        have e10 : x 10 = (.int .i64 (b)) := hV 10 (by decide)
        have e11 : x 11 = (.bool true) := hV 11 (by decide)
        have e12 : x 12 = (.bool true) := hV 12 (by decide)
        simp only [e0, e1, e2, e3, e4, e5, e6, e7, e8, e9, e10, e11, e12]
        clear e0 e1 e2 e3 e4 e5 e6 e7 e8 e9 e10 e11 e12
        refine wpAny_done (by kernel_rfl) ?_ _
        obtain ⟨k4, hb4⟩ := hS
        obtain ⟨w4, rfl⟩ : ∃ W, W = w' := ⟨_, rfl⟩
        have hB4 := hB2.trans (hb4.mono hB2.size)
        clear k2 hb4 q0 q1
        obtain ⟨q0, q1⟩ := k4.two
        go_wp2
        go_ret2
        exact noRow3 (by rw [vbR_bad (by rw [HC.out]; decide), HC.out]) hB4
  · obtain ⟨r, hr⟩ : ∃ r, r = codeVb P sq [u, v] := ⟨_, rfl⟩
    have HC : Hid (codeVB P sq u v = r) := Lib.hid (by unfold codeVB; rw [if_neg hr0, hr])
    have HRN : Hid (¬ r = 0) := Lib.hid (by rw [hr]; exact hr0)
    have b0 : (r != 0) = true := code_ne (by rw [hr]; exact hr0)
    have b1 : (r == 0) = false := by simp; rw [hr]; exact hr0
    rw [← hr] at hreg
    clear hr hr0
    go_enter Tryz.func33, Tryz.ntmps33
    go_wp2_with fail
    refine hreg.mono ?_
    rintro e w2 ⟨rfl, hb2⟩
    have hB2 := hB1.trans (hb2.mono hB1.size)
    have k2 := k1.below hb2 k1.lt
    obtain ⟨q0, q1⟩ := k2.two
    clear k0 hB0 k1 hB1 hb2
    have hB4 := hB2
    go_wp2
    go_ret2
    exact noRow3 (by rw [vbR_bad (by rw [HC.out]; exact HRN.out), HC.out]) hB4
set_option maxHeartbeats 6400000 in
set_option maxRecDepth 8000 in
theorem specVersorBetween_any (P : Int) (A : Option Addr) (n c : Nat) (sq : List Int) (X : Option Addr) (m cx : Nat) (u : List Int) (Y : Option Addr) (l cy : Nat) (v : List Int) (w : World) (hn : n ≤ 1048576) (hm : m ≤ 1048576) (hl : l ≤ 1048576) (ha : Rd w A n (ints sq)) (hx : Rd w X m (ints u)) (hcx : m ≤ cx) (hy : Rd w Y l (ints v)) (hcy : l ≤ cy) :
    Calls Tryz.prog 34 #[.agg #[.int .i64 P, .slice A n c], .slice X m cx, .slice Y l cy] w fun e w' => ∃ (A' : Option Addr) (k c' : Nat), e = .returned (.tuple #[.slice A' k c', .int .i64 (vbR P sq u v).2]) ∧ MkI w w' A' k c' (vbR P sq u v).1 := by
  have hB0 : Below w.heap.size w (w.alloc (.cells #[.int .i64 P, .slice A n c] 26)) := (Below.refl _ _).alloc (Nat.le_refl _) _
  have k0 : Blk (w.alloc (.cells #[.int .i64 P, .slice A n c] 26)) w.heap.size 26 #[.int .i64 P, .slice A n c] := Blk.new _ _ _
  have hB1 : Below w.heap.size w ((w.alloc (.cells #[.int .i64 P, .slice A n c] 26)).alloc (.cells #[.slice X m cx, .slice Y l cy] 24)) := hB0.alloc (by simp) _
  have k1 : Blk ((w.alloc (.cells #[.int .i64 P, .slice A n c] 26)).alloc (.cells #[.slice X m cx, .slice Y l cy] 24)) w.heap.size 26 #[.int .i64 P, .slice A n c] := k0.alloc _
  have hreg := l07Vectors_any P A n c sq (some ⟨w.heap.size + 1, 0, none⟩) 2 2 [u, v] ((w.alloc (.cells #[.int .i64 P, .slice A n c] 26)).alloc (.cells #[.slice X m cx, .slice Y l cy] 24)) hn (by omega) (ha.below hB1) (rdII_two (Blk.newAt3 (by simp)) (hx.below hB1) (hy.below hB1) hcx hcy) (all_two (by rw [hx.lenI]; exact hm) (by rw [hy.lenI]; exact hl))
  by_cases hr0 : codeVb P sq [u, v] = 0
  · rw [hr0] at hreg
    have HR0 := Lib.hid hr0
    obtain ⟨hcv, hrg⟩ := codeVb_zero hr0
    obtain ⟨HP, hp, hp2, hd1, hd2, hs0, hvs⟩ := codeV_spec hcv
    have hsl := ha.lenI
    obtain ⟨hu1, hu2⟩ := hvs u (by simp)
    obtain ⟨hv1, hv2⟩ := hvs v (by simp)
    obtain rfl : m = n := by rw [← hx.lenI, hu1, hsl]
    obtain rfl : l = m := by rw [← hy.lenI, hv1, hsl]
    have HSL := Lib.hid hsl
    have HSQ := Lib.hid hs0
    have HXN := Lib.hid hu2
    have HYN := Lib.hid hv2
    have HUL := Lib.hid hx.lenI
    have HVL := Lib.hid hy.lenI
    have HPP := Lib.hid HP
    have hn6 : l ≤ 6 := by omega
    have hn0 : 0 < l := by omega
    clear hr0 hcv hrg hd1 hd2 hs0 hvs hu1 hu2 hv1 hv2 hsl HP
    obtain ⟨n, hnl⟩ : ∃ n, n = l := ⟨_, rfl⟩
    subst hnl
    have hX := hx
    have hY := hy
    have hNU := fun (w' : World) (h : Below w.heap.size w w') => l03Pair_any P A n c sq X cx u X cx u w' hp hp2 hn6 (ha.below h) HSQ.out (hX.below h) HXN.out (hX.below h) HXN.out
    have hNV := fun (w' : World) (h : Below w.heap.size w w') => l03Pair_any P A n c sq Y cy v Y cy v w' hp hp2 hn6 (ha.below h) HSQ.out (hY.below h) HYN.out (hY.below h) HYN.out
    obtain ⟨a, hA⟩ : ∃ a, a = pairL P sq u u := ⟨_, rfl⟩
    obtain ⟨b, hB⟩ : ∃ b, b = pairL P sq v v := ⟨_, rfl⟩
    rw [← hA] at hNU
    rw [← hB] at hNV
    have HAB := Lib.hid (And.intro hA hB)
    clear hA hB
    by_cases ha0 : a = 0
    · have HC : Hid (codeVB P sq u v = 5) := Lib.hid (by unfold codeVB; rw [if_pos HR0.out, ← HAB.out.1, if_pos (.inl ha0)])
      have e1 : (a == 0) = true := by simp [ha0]
      go_enter Tryz.func34, Tryz.ntmps34
      go_wp2_with fail
      refine hreg.mono ?_
      rintro e w2 ⟨rfl, hb2⟩
      have hB2 := hB1.trans (hb2.mono hB1.size)
      have k2 := k1.below hb2 k1.lt
      obtain ⟨q0, q1⟩ := k2.two
      clear k0 hB0 k1 hB1 hb2
      have HNU := Lib.hid fun (w' : World) (h : Below w2.heap.size w2 w') => hNU w' (hB2.trans (h.mono hB2.size))
      clear hNU hNV ha0
      go_wp2
      refine wp_obs 20 [[], [0], [0, 1], [0, 1, 2], [0, 1, 2], [0, 1, 2], [0, 1, 2, 3, 4, 5], [0, 1, 2, 3, 4, 5, 6], [0, 1, 2, 3, 4, 5, 6, 7], [0, 1, 2, 3, 4, 5, 6, 7, 8], [0, 1, 2, 3, 4, 5, 6, 7, 8], [0, 1, 2, 3, 4, 5, 6, 7, 8], [0, 1, 2, 3, 4, 5, 6, 7, 8, 9, 10, 11], [0, 1, 2, 3, 4, 5, 6, 7, 8], [0, 1, 2, 3, 4, 5, 6, 7, 8], [0, 1, 2, 3, 4, 5, 6, 7, 8], [0, 1, 2, 3, 4, 5, 6, 7, 8, 13, 14, 15], [0, 1, 2, 3, 4, 5, 6, 7, 8, 9, 10, 11, 12, 13, 14, 15, 16], [0, 1, 2, 3, 4, 5, 6, 7, 8, 9, 10, 11, 12, 13, 14, 15, 16, 17], [0, 1, 2, 3, 4, 5, 6, 7, 8, 9, 10, 11, 12, 13, 14, 15, 16, 17, 18]] [VIs (.int .i64 (0)), VIs (.bool true), VIs (.bool true), VIs (.agg #[.int .i64 P, .slice A n c]), VIs (.slice X n cx), VIs (.slice X n cx), VIs (.int .i64 (a)), VIs (.bool true), VIs (.bool true), VIs undef, VIs undef, VIs undef, VIs undef, VIs undef, VIs undef, VIs undef, VIs undef, VIs undef, VIs (.bool true), VIs (.bool true)] (fun w' => Blk w' w.heap.size 26 #[.int .i64 P, .slice A n c] ∧ Below w2.heap.size w2 w') (by kernel_rfl) (by kernel_rfl) (fun _ _ h hb => ⟨h.1.below hb h.1.lt, h.2.trans (hb.mono h.2.size)⟩) (⟨k2.drew, (Below.refl _ _).drew⟩) (fun x => ?_)
      refine obs_step (Eq.trans (by simp only [List.getElem?_toArray, List.getElem?_cons_zero]; exact rfl) rfl) rfl (fun w' hS hV K hK => ?_) ?_
      · obtain ⟨q0, q1⟩ := hS.1.two
        go_simp
        exact hK.out _ _ _ rfl rfl rfl (Below.refl _ _)
      simp only [List.setIfInBounds_toArray, List.set_cons_zero, List.set_cons_succ]
      refine obs_step (Eq.trans (by simp only [List.getElem?_toArray, List.getElem?_cons_succ, List.getElem?_cons_zero]; exact rfl) rfl) rfl (fun w' hS hV K hK => ?_) ?_
      · have e0 : x 0 = (.int .i64 (0)) := hV 0 (by decide)
        obtain ⟨q0, q1⟩ := hS.1.two
        go_simp
        exact hK.out _ _ _ rfl rfl rfl (Below.refl _ _)
      simp only [List.setIfInBounds_toArray, List.set_cons_zero, List.set_cons_succ]
      refine obs_step (Eq.trans (by simp only [List.getElem?_toArray, List.getElem?_cons_succ, List.getElem?_cons_zero]; exact rfl) rfl) rfl (fun w' hS hV K hK => ?_) ?_
      · have e0 : x 0 = (.int .i64 (0)) := hV 0 (by decide)
        have e1 : x 1 = (.bool true) := hV 1 (by decide)
        obtain ⟨q0, q1⟩ := hS.1.two
        go_simp
        exact hK.out _ _ _ rfl rfl rfl (Below.refl _ _)
      simp only [List.setIfInBounds_toArray, List.set_cons_zero, List.set_cons_succ]
      refine obs_step (Eq.trans (by simp only [List.getElem?_toArray, List.getElem?_cons_succ, List.getElem?_cons_zero]; exact rfl) rfl) rfl (fun w' hS hV K hK => ?_) ?_
      · have e0 : x 0 = (.int .i64 (0)) := hV 0 (by decide)
        have e1 : x 1 = (.bool true) := hV 1 (by decide)
        have e2 : x 2 = (.bool true) := hV 2 (by decide)
        obtain ⟨q0, q1⟩ := hS.1.two
        go_simp
        exact hK.out _ _ _ rfl rfl rfl (Below.refl _ _)
      simp only [List.setIfInBounds_toArray, List.set_cons_zero, List.set_cons_succ]
      refine obs_step (Eq.trans (by simp only [List.getElem?_toArray, List.getElem?_cons_succ, List.getElem?_cons_zero]; exact rfl) rfl) rfl (fun w' hS hV K hK => ?_) ?_
      · have e0 : x 0 = (.int .i64 (0)) := hV 0 (by decide)
        have e1 : x 1 = (.bool true) := hV 1 (by decide)
        have e2 : x 2 = (.bool true) := hV 2 (by decide)
        obtain ⟨q0, q1⟩ := hS.1.two
        go_simp
        exact hK.out _ _ _ rfl rfl rfl (Below.refl _ _)
      simp only [List.setIfInBounds_toArray, List.set_cons_zero, List.set_cons_succ]
      refine obs_step (Eq.trans (by simp only [List.getElem?_toArray, List.getElem?_cons_succ, List.getElem?_cons_zero]; exact rfl) rfl) rfl (fun w' hS hV K hK => ?_) ?_
      · have e0 : x 0 = (.int .i64 (0)) := hV 0 (by decide)
        have e1 : x 1 = (.bool true) := hV 1 (by decide)
        have e2 : x 2 = (.bool true) := hV 2 (by decide)
        obtain ⟨q0, q1⟩ := hS.1.two
        go_simp
        exact hK.out _ _ _ rfl rfl rfl (Below.refl _ _)
      simp only [List.setIfInBounds_toArray, List.set_cons_zero, List.set_cons_succ]
      refine obs_step (Eq.trans (by simp only [List.getElem?_toArray, List.getElem?_cons_succ, List.getElem?_cons_zero]; exact rfl) rfl) rfl (fun w' hS hV K hK => ?_) ?_
      · have e0 : x 0 = (.int .i64 (0)) := hV 0 (by decide)
        have e1 : x 1 = (.bool true) := hV 1 (by decide)
        have e2 : x 2 = (.bool true) := hV 2 (by decide)
        have e3 : x 3 = (.agg #[.int .i64 P, .slice A n c]) := hV 3 (by decide)
        have e4 : x 4 = (.slice X n cx) := hV 4 (by decide)
        have e5 : x 5 = (.slice X n cx) := hV 5 (by decide)
        obtain ⟨q0, q1⟩ := hS.1.two
        go_simp
        refine (HNU.out _ hS.2).mono ?_
        rintro e v1 ⟨rfl, hb⟩
        exact hK.out _ _ _ rfl rfl rfl hb
      simp only [List.setIfInBounds_toArray, List.set_cons_zero, List.set_cons_succ]
      refine obs_step (Eq.trans (by simp only [List.getElem?_toArray, List.getElem?_cons_succ, List.getElem?_cons_zero]; exact rfl) rfl) rfl (fun w' hS hV K hK => ?_) ?_
      · have e0 : x 0 = (.int .i64 (0)) := hV 0 (by decide)
        have e1 : x 1 = (.bool true) := hV 1 (by decide)
        have e2 : x 2 = (.bool true) := hV 2 (by decide)
        have e3 : x 3 = (.agg #[.int .i64 P, .slice A n c]) := hV 3 (by decide)
        have e4 : x 4 = (.slice X n cx) := hV 4 (by decide)
        have e5 : x 5 = (.slice X n cx) := hV 5 (by decide)
        have e6 : x 6 = (.int .i64 (a)) := hV 6 (by decide)
        obtain ⟨q0, q1⟩ := hS.1.two
        go_simp
        exact hK.out _ _ _ rfl rfl rfl (Below.refl _ _)
      simp only [List.setIfInBounds_toArray, List.set_cons_zero, List.set_cons_succ]
      refine obs_step (Eq.trans (by simp only [List.getElem?_toArray, List.getElem?_cons_succ, List.getElem?_cons_zero]; exact rfl) rfl) rfl (fun w' hS hV K hK => ?_) ?_
      · have e0 : x 0 = (.int .i64 (0)) := hV 0 (by decide)
        have e1 : x 1 = (.bool true) := hV 1 (by decide)
        have e2 : x 2 = (.bool true) := hV 2 (by decide)
        have e3 : x 3 = (.agg #[.int .i64 P, .slice A n c]) := hV 3 (by decide)
        have e4 : x 4 = (.slice X n cx) := hV 4 (by decide)
        have e5 : x 5 = (.slice X n cx) := hV 5 (by decide)
        have e6 : x 6 = (.int .i64 (a)) := hV 6 (by decide)
        have e7 : x 7 = (.bool true) := hV 7 (by decide)
        obtain ⟨q0, q1⟩ := hS.1.two
        go_simp
        exact hK.out _ _ _ rfl rfl rfl (Below.refl _ _)
      simp only [List.setIfInBounds_toArray, List.set_cons_zero, List.set_cons_succ]
      refine obs_step (Eq.trans (by simp only [List.getElem?_toArray, List.getElem?_cons_succ, List.getElem?_cons_zero]; exact rfl) rfl) rfl (fun w' hS hV K hK => ?_) ?_
      · have e0 : x 0 = (.int .i64 (0)) := hV 0 (by decide)
        have e1 : x 1 = (.bool true) := hV 1 (by decide)
        have e2 : x 2 = (.bool true) := hV 2 (by decide)
        have e3 : x 3 = (.agg #[.int .i64 P, .slice A n c]) := hV 3 (by decide)
        have e4 : x 4 = (.slice X n cx) := hV 4 (by decide)
        have e5 : x 5 = (.slice X n cx) := hV 5 (by decide)
        have e6 : x 6 = (.int .i64 (a)) := hV 6 (by decide)
        have e7 : x 7 = (.bool true) := hV 7 (by decide)
        have e8 : x 8 = (.bool true) := hV 8 (by decide)
        obtain ⟨q0, q1⟩ := hS.1.two
        go_simp
        exact hK.out _ _ _ rfl rfl rfl (Below.refl _ _)
      simp only [List.setIfInBounds_toArray, List.set_cons_zero, List.set_cons_succ]
      refine obs_step (Eq.trans (by simp only [List.getElem?_toArray, List.getElem?_cons_succ, List.getElem?_cons_zero]; exact rfl) rfl) rfl (fun w' hS hV K hK => ?_) ?_
      · have e0 : x 0 = (.int .i64 (0)) := hV 0 (by decide)
        have e1 : x 1 = (.bool true) := hV 1 (by decide)
        have e2 : x 2 = (.bool true) := hV 2 (by decide)
        have e3 : x 3 = (.agg #[.int .i64 P, .slice A n c]) := hV 3 (by decide)
        have e4 : x 4 = (.slice X n cx) := hV 4 (by decide)
        have e5 : x 5 = (.slice X n cx) := hV 5 (by decide)
        have e6 : x 6 = (.int .i64 (a)) := hV 6 (by decide)
        have e7 : x 7 = (.bool true) := hV 7 (by decide)
        have e8 : x 8 = (.bool true) := hV 8 (by decide)
        obtain ⟨q0, q1⟩ := hS.1.two
        go_simp
        exact hK.out _ _ _ rfl rfl rfl (Below.refl _ _)
      simp only [List.setIfInBounds_toArray, List.set_cons_zero, List.set_cons_succ]
      refine obs_step (Eq.trans (by simp only [List.getElem?_toArray, List.getElem?_cons_succ, List.getElem?_cons_zero]; exact rfl) rfl) rfl (fun w' hS hV K hK => ?_) ?_
      · have e0 : x 0 = (.int .i64 (0)) := hV 0 (by decide)
        have e1 : x 1 = (.bool true) := hV 1 (by decide)
        have e2 : x 2 = (.bool true) := hV 2 (by decide)
        have e3 : x 3 = (.agg #[.int .i64 P, .slice A n c]) := hV 3 (by decide)
        have e4 : x 4 = (.slice X n cx) := hV 4 (by decide)
        have e5 : x 5 = (.slice X n cx) := hV 5 (by decide)
        have e6 : x 6 = (.int .i64 (a)) := hV 6 (by decide)
        have e7 : x 7 = (.bool true) := hV 7 (by decide)
        have e8 : x 8 = (.bool true) := hV 8 (by decide)
        obtain ⟨q0, q1⟩ := hS.1.two
        go_simp
        exact hK.out _ _ _ rfl rfl rfl (Below.refl _ _)
      simp only [List.setIfInBounds_toArray, List.set_cons_zero, List.set_cons_succ]
      refine obs_step (Eq.trans (by simp only [List.getElem?_toArray, List.getElem?_cons_succ, List.getElem?_cons_zero]; exact rfl) rfl) rfl (fun w' hS hV K hK => ?_) ?_
      · have e0 : x 0 = (.int .i64 (0)) := hV 0 (by decide)
        have e1 : x 1 = (.bool true) := hV 1 (by decide)
        have e2 : x 2 = (.bool true) := hV 2 (by decide)
        have e3 : x 3 = (.agg #[.int .i64 P, .slice A n c]) := hV 3 (by decide)
        have e4 : x 4 = (.slice X n cx) := hV 4 (by decide)
        have e5 : x 5 = (.slice X n cx) := hV 5 (by decide)
        have e6 : x 6 = (.int .i64 (a)) := hV 6 (by decide)
        have e7 : x 7 = (.bool true) := hV 7 (by decide)
        have e8 : x 8 = (.bool true) := hV 8 (by decide)
        have e9 : x 9 = undef := hV 9 (by decide)
        have e10 : x 10 = undef := hV 10 (by decide)
        have e11 : x 11 = undef := hV 11 (by decide)
        obtain ⟨q0, q1⟩ := hS.1.two
        go_simp
        exact hK.out _ _ _ rfl rfl rfl (Below.refl _ _)
      simp only [List.setIfInBounds_toArray, List.set_cons_zero, List.set_cons_succ]
      refine obs_step (Eq.trans (by simp only [List.getElem?_toArray, List.getElem?_cons_succ, List.getElem?_cons_zero]; exact rfl) rfl) rfl (fun w' hS hV K hK => ?_) ?_
      · have e0 : x 0 = (.int .i64 (0)) := hV 0 (by decide)
        have e1 : x 1 = (.bool true) := hV 1 (by decide)
        have e2 : x 2 = (.bool true) := hV 2 (by decide)
        have e3 : x 3 = (.agg #[.int .i64 P, .slice A n c]) := hV 3 (by decide)
        have e4 : x 4 = (.slice X n cx) := hV 4 (by decide)
        have e5 : x 5 = (.slice X n cx) := hV 5 (by decide)
        have e6 : x 6 = (.int .i64 (a)) := hV 6 (by decide)
        have e7 : x 7 = (.bool true) := hV 7 (by decide)
        have e8 : x 8 = (.bool true) := hV 8 (by decide)
        obtain ⟨q0, q1⟩ := hS.1.two
        go_simp
        exact hK.out _ _ _ rfl rfl rfl (Below.refl _ _)
      simp only [List.setIfInBounds_toArray, List.set_cons_zero, List.set_cons_succ]
      refine obs_step (Eq.trans (by simp only [List.getElem?_toArray, List.getElem?_cons_succ, List.getElem?_cons_zero]; exact rfl) rfl) rfl (fun w' hS hV K hK => ?_) ?_
      · have e0 : x 0 = (.int .i64 (0)) := hV 0 (by decide)
        have e1 : x 1 = (.bool true) := hV 1 (by decide)
        have e2 : x 2 = (.bool true) := hV 2 (by decide)
        have e3 : x 3 = (.agg #[.int .i64 P, .slice A n c]) := hV 3 (by decide)
        have e4 : x 4 = (.slice X n cx) := hV 4 (by decide)
        have e5 : x 5 = (.slice X n cx) := hV 5 (by decide)
        have e6 : x 6 = (.int .i64 (a)) := hV 6 (by decide)
        have e7 : x 7 = (.bool true) := hV 7 (by decide)
        have e8 : x 8 = (.bool true) := hV 8 (by decide)
        obtain ⟨q0, q1⟩ := hS.1.two
        go_simp
        exact hK.out _ _ _ rfl rfl rfl (Below.refl _ _)
      simp only [List.setIfInBounds_toArray, List.set_cons_zero, List.set_cons_succ]
      refine obs_step (Eq.trans (by simp only [List.getElem?_toArray, List.getElem?_cons_succ, List.getElem?_cons_zero]; exact rfl) rfl) rfl (fun w' hS hV K hK => ?_) ?_
      · have e0 : x 0 = (.int .i64 (0)) := hV 0 (by decide)
        have e1 : x 1 = (.bool true) := hV 1 (by decide)
        have e2 : x 2 = (.bool true) := hV 2 (by decide)
        have e3 : x 3 = (.agg #[.int .i64 P, .slice A n c]) := hV 3 (by decide)
        have e4 : x 4 = (.slice X n cx) := hV 4 (by decide)
        have e5 : x 5 = (.slice X n cx) := hV 5 (by decide)
        have e6 : x 6 = (.int .i64 (a)) := hV 6 (by decide)
        have e7 : x 7 = (.bool true) := hV 7 (by decide)
        have e8 : x 8 = (.bool true) := hV 8 (by decide)
        obtain ⟨q0, q1⟩ := hS.1.two
        go_simp
        exact hK.out _ _ _ rfl rfl rfl (Below.refl _ _)
      simp only [List.setIfInBounds_toArray, List.set_cons_zero, List.set_cons_succ]
      refine obs_step (Eq.trans (by simp only [List.getElem?_toArray, List.getElem?_cons_succ, List.getElem?_cons_zero]; exact rfl) rfl) rfl (fun w' hS hV K hK => ?_) ?_
      · have e0 : x 0 = (.int .i64 (0)) := hV 0 (by decide)
        have e1 : x 1 = (.bool true) := hV 1 (by decide)
        have e2 : x 2 = (.bool true) := hV 2 (by decide)
        have e3 : x 3 = (.agg #[.int .i64 P, .slice A n c]) := hV 3 (by decide)
        have e4 : x 4 = (.slice X n cx) := hV 4 (by decide)
        have e5 : x 5 = (.slice X n cx) := hV 5 (by decide)
        have e6 : x 6 = (.int .i64 (a)) := hV 6 (by decide)
        have e7 : x 7 = (.bool true) := hV 7 (by decide)
        have e8 : x 8 = (.bool true) := hV 8 (by decide)
        have e13 : x 13 = undef := hV 13 (by decide)
        have e14 : x 14 = undef := hV 14 (by decide)
        have e15 : x 15 = undef := hV 15 (by decide)
        obtain ⟨q0, q1⟩ := hS.1.two
        go_simp
        exact hK.out _ _ _ rfl rfl rfl (Below.refl _ _)
      simp only [List.setIfInBounds_toArray, List.set_cons_zero, List.set_cons_succ]
      refine obs_step (Eq.trans (by simp only [List.getElem?_toArray, List.getElem?_cons_succ, List.getElem?_cons_zero]; exact rfl) rfl) rfl (fun w' hS hV K hK => ?_) ?_
      · have e0 : x 0 = (.int .i64 (0)) := hV 0 (by decide)
        have e1 : x 1 = (.bool true) := hV 1 (by decide)
        have e2 : x 2 = (.bool true) := hV 2 (by decide)
        have e3 : x 3 = (.agg #[.int .i64 P, .slice A n c]) := hV 3 (by decide)
        have e4 : x 4 = (.slice X n cx) := hV 4 (by decide)
        have e5 : x 5 = (.slice X n cx) := hV 5 (by decide)
        have e6 : x 6 = (.int .i64 (a)) := hV 6 (by decide)
        have e7 : x 7 = (.bool true) := hV 7 (by decide)
        have e8 : x 8 = (.bool true) := hV 8 (by decide)
        have e9 : x 9 = undef := hV 9 (by decide)
        have e10 : x 10 = undef := hV 10 (by decide)
        have e11 : x 11 = undef := hV 11 (by decide)
        have e12 : x 12 = undef := hV 12 (by decide)
        have e13 : x 13 = undef := hV 13 (by decide)
        have e14 : x 14 = undef := hV 14 (by decide)
        have e15 : x 15 = undef := hV 15 (by decide)
        have e16 : x 16 = undef := hV 16 (by decide)
        obtain ⟨q0, q1⟩ := hS.1.two
        go_simp
        exact hK.out _ _ _ rfl rfl rfl (Below.refl _ _)
      simp only [List.setIfInBounds_toArray, List.set_cons_zero, List.set_cons_succ]
      refine obs_step (Eq.trans (by simp only [List.getElem?_toArray, List.getElem?_cons_succ, List.getElem?_cons_zero]; exact rfl) rfl) rfl (fun w' hS hV K hK => ?_) ?_
      · have e0 : x 0 = (.int .i64 (0)) := hV 0 (by decide)
        have e1 : x 1 = (.bool true) := hV 1 (by decide)
        have e2 : x 2 = (.bool true) := hV 2 (by decide)
        have e3 : x 3 = (.agg #[.int .i64 P, .slice A n c]) := hV 3 (by decide)
        have e4 : x 4 = (.slice X n cx) := hV 4 (by decide)
        have e5 : x 5 = (.slice X n cx) := hV 5 (by decide)
        have e6 : x 6 = (.int .i64 (a)) := hV 6 (by decide)
        have e7 : x 7 = (.bool true) := hV 7 (by decide)
        have e8 : x 8 = (.bool true) := hV 8 (by decide)
        have e9 : x 9 = undef := hV 9 (by decide)
        have e10 : x 10 = undef := hV 10 (by decide)
        have e11 : x 11 = undef := hV 11 (by decide)
        have e12 : x 12 = undef := hV 12 (by decide)
        have e13 : x 13 = undef := hV 13 (by decide)
        have e14 : x 14 = undef := hV 14 (by decide)
        have e15 : x 15 = undef := hV 15 (by decide)
        have e16 : x 16 = undef := hV 16 (by decide)
        have e17 : x 17 = undef := hV 17 (by decide)
        obtain ⟨q0, q1⟩ := hS.1.two
        go_simp
        exact hK.out _ _ _ rfl rfl rfl (Below.refl _ _)
      simp only [List.setIfInBounds_toArray, List.set_cons_zero, List.set_cons_succ]
      refine obs_step (Eq.trans (by simp only [List.getElem?_toArray, List.getElem?_cons_succ, List.getElem?_cons_zero]; exact rfl) rfl) rfl (fun w' hS hV K hK => ?_) ?_
      · have e0 : x 0 = (.int .i64 (0)) := hV 0 (by decide)
        have e1 : x 1 = (.bool true) := hV 1 (by decide)
        have e2 : x 2 = (.bool true) := hV 2 (by decide)
        have e3 : x 3 = (.agg #[.int .i64 P, .slice A n c]) := hV 3 (by decide)
        have e4 : x 4 = (.slice X n cx) := hV 4 (by decide)
        have e5 : x 5 = (.slice X n cx) := hV 5 (by decide)
        have e6 : x 6 = (.int .i64 (a)) := hV 6 (by decide)
        have e7 : x 7 = (.bool true) := hV 7 (by decide)
        have e8 : x 8 = (.bool true) := hV 8 (by decide)
        have e9 : x 9 = undef := hV 9 (by decide)
        have e10 : x 10 = undef := hV 10 (by decide)
        have e11 : x 11 = undef := hV 11 (by decide)
        have e12 : x 12 = undef := hV 12 (by decide)
        have e13 : x 13 = undef := hV 13 (by decide)
        have e14 : x 14 = undef := hV 14 (by decide)
        have e15 : x 15 = undef := hV 15 (by decide)
        have e16 : x 16 = undef := hV 16 (by decide)
        have e17 : x 17 = undef := hV 17 (by decide)
        have e18 : x 18 = (.bool true) := hV 18 (by decide)
        obtain ⟨q0, q1⟩ := hS.1.two
        go_simp
        exact hK.out _ _ _ rfl rfl rfl (Below.refl _ _)
      simp only [List.setIfInBounds_toArray, List.set_cons_zero, List.set_cons_succ]
      refine fun w' hS hV => ?_
      have e0 : x 0 = (.int .i64 (0)) := hV 0 (by decide)
      have e1 : x 1 = (.bool true) := hV 1 (by decide)
      have e2 : x 2 = (.bool true) := hV 2 (by decide)
      have e3 : x 3 = (.agg #[.int .i64 P, .slice A n c]) := hV 3 (by decide)
      have e4 : x 4 = (.slice X n cx) := hV 4 (by decide)
      have e5 : x 5 = (.slice X n cx) := hV 5 (by decide)
      have e6 : x 6 = (.int .i64 (a)) := hV 6 (by decide)
      have e7 : x 7 = (.bool true) := hV 7 (by decide)
      have e8 : x 8 = (.bool true) := hV 8 (by decide)
      have e9 : x 9 = undef := hV 9 (by decide)
      have e10 : x 10 = undef := hV 10 (by decide)
      have e11 : x 11 = undef := hV 11 (by decide)
      have e12 : x 12 = undef := hV 12 (by decide)
      have e13 : x 13 = undef := hV 13 (by decide)
      have e14 : x 14 = undef := hV 14 (by decide)
      have e15 : x 15 = undef := hV 15 (by decide)
      have e16 : x 16 = undef := hV 16 (by decide)
      have e17 : x 17 = undef := hV 17 (by decide)
      have e18 : x 18 = (.bool true) := hV 18 (by decide)
      have e19 : x 19 = (.bool true) := hV 19 (by decide)
      simp only [e0, e1, e2, e3, e4, e5, e6, e7, e8, e9, e10, e11, e12, e13, e14, e15, e16, e17, e18, e19]
      clear e0 e1 e2 e3 e4 e5 e6 e7 e8 e9 e10 e11 e12 e13 e14 e15 e16 e17 e18 e19
      refine wpAny_done (by kernel_rfl) ?_ _
      obtain ⟨k4, hb4⟩ := hS
      obtain ⟨w4, rfl⟩ : ∃ W, W = w' := ⟨_, rfl⟩
      have hB4 := hB2.trans (hb4.mono hB2.size)
      clear k2 hb4 q0 q1
      obtain ⟨q0, q1⟩ := k4.two
      go_wp2
      go_ret2
      exact noRow3 (by rw [vbR_bad (by rw [HC.out]; decide), HC.out]) hB4
    · have e1 : (a == 0) = false := by simp [ha0]
      by_cases hab : a = b
      · have HC : Hid (codeVB P sq u v = 0) := Lib.hid (by unfold codeVB; rw [if_pos HR0.out, ← HAB.out.1, ← HAB.out.2, if_neg (fun h => h.elim ha0 (fun h => h hab))])
        have e2 : (a != b) = false := by simp [hab]
        have hPL := fun (w' : World) (h : Below w.heap.size w w') => l02Plus_any P Y n cy X n cx (P - 1) v u w' hp hp2 (by omega) (Nat.le_refl _) (hY.below h) HYN.out (hX.below h) HXN.out (by omega) (by omega)
        have hPL1 := fun (w' : World) (h : Below w.heap.size w w') => l02Plus_any P Y n cy X n cx (1) v u w' hp hp2 (by omega) (Nat.le_refl _) (hY.below h) HYN.out (hX.below h) HXN.out (by omega) (by omega)
        rw [plusL_mod P v u (show (P - 1) % P = (-1) % P by rw [show P - 1 = -1 + P by omega, Int.add_emod_right])] at hPL
        obtain ⟨D, hD⟩ : ∃ D, D = plusL P v u (-1) := ⟨_, rfl⟩
        obtain ⟨D1, hD1⟩ : ∃ D, D = plusL P v u 1 := ⟨_, rfl⟩
        rw [← hD] at hPL
        rw [← hD1] at hPL1
        have HDN : Hid (NumsL P D) := Lib.hid (hD ▸ plusL_nums (by omega) _ _ _)
        have HD1N : Hid (NumsL P D1 ∧ D1.length = n) := Lib.hid (hD1 ▸ ⟨plusL_nums (by omega) _ _ _, (plusL_len _ _ _ _).trans HVL.out⟩)
        have HDD := Lib.hid (And.intro hD hD1)
        have HE : Hid (vbR P sq u v = (vbL P sq u v, 0)) := Lib.hid (vbR_ok HC.out)
        clear hD hD1 ha0
        go_enter Tryz.func34, Tryz.ntmps34
        go_wp2_with fail
        refine hreg.mono ?_
        rintro e w2 ⟨rfl, hb2⟩
        have hB2 := hB1.trans (hb2.mono hB1.size)
        have k2 := k1.below hb2 k1.lt
        obtain ⟨q0, q1⟩ := k2.two
        clear k0 hB0 k1 hB1 hb2
        have HNU := Lib.hid fun (w' : World) (h : Below w2.heap.size w2 w') => hNU w' (hB2.trans (h.mono hB2.size))
        have HNV := Lib.hid fun (w' : World) (h : Below w2.heap.size w2 w') => hNV w' (hB2.trans (h.mono hB2.size))
        clear hNU hNV hab
        go_wp2
        refine wp_obs 20 [[], [0], [0, 1], [0, 1, 2], [0, 1, 2], [0, 1, 2], [0, 1, 2, 3, 4, 5], [0, 1, 2, 3, 4, 5, 6], [0, 1, 2, 3, 4, 5, 6, 7], [0, 1, 2, 3, 4, 5, 6, 7, 8], [0, 1, 2, 3, 4, 5, 6, 7, 8], [0, 1, 2, 3, 4, 5, 6, 7, 8], [0, 1, 2, 3, 4, 5, 6, 7, 8, 9, 10, 11], [0, 1, 2, 3, 4, 5, 6, 7, 8], [0, 1, 2, 3, 4, 5, 6, 7, 8], [0, 1, 2, 3, 4, 5, 6, 7, 8], [0, 1, 2, 3, 4, 5, 6, 7, 8, 13, 14, 15], [0, 1, 2, 3, 4, 5, 6, 7, 8, 9, 10, 11, 12, 13, 14, 15, 16], [0, 1, 2, 3, 4, 5, 6, 7, 8, 9, 10, 11, 12, 13, 14, 15, 16, 17], [0, 1, 2, 3, 4, 5, 6, 7, 8, 9, 10, 11, 12, 13, 14, 15, 16, 17, 18]] [VIs (.int .i64 (0)), VIs (.bool true), VIs (.bool true), VIs (.agg #[.int .i64 P, .slice A n c]), VIs (.slice X n cx), VIs (.slice X n cx), VIs (.int .i64 (a)), VIs (.bool false), VIs (.bool false), VIs (.agg #[.int .i64 P, .slice A n c]), VIs (.slice X n cx), VIs (.slice X n cx), VIs (.int .i64 (a)), VIs (.agg #[.int .i64 P, .slice A n c]), VIs (.slice Y n cy), VIs (.slice Y n cy), VIs (.int .i64 (b)), VIs (.bool false), VIs (.bool false), VIs (.bool false)] (fun w' => Blk w' w.heap.size 26 #[.int .i64 P, .slice A n c] ∧ Below w2.heap.size w2 w') (by kernel_rfl) (by kernel_rfl) (fun _ _ h hb => ⟨h.1.below hb h.1.lt, h.2.trans (hb.mono h.2.size)⟩) (⟨k2.drew, (Below.refl _ _).drew⟩) (fun x => ?_)
        refine obs_step (Eq.trans (by simp only [List.getElem?_toArray, List.getElem?_cons_zero]; exact rfl) rfl) rfl (fun w' hS hV K hK => ?_) ?_
        · obtain ⟨q0, q1⟩ := hS.1.two
          go_simp
          exact hK.out _ _ _ rfl rfl rfl (Below.refl _ _)
        simp only [List.setIfInBounds_toArray, List.set_cons_zero, List.set_cons_succ]
        refine obs_step (Eq.trans (by simp only [List.getElem?_toArray, List.getElem?_cons_succ, List.getElem?_cons_zero]; exact rfl) rfl) rfl (fun w' hS hV K hK => ?_) ?_
        · have e0 : x 0 = (.int .i64 (0)) := hV 0 (by decide)
          obtain ⟨q0, q1⟩ := hS.1.two
          go_simp
          exact hK.out _ _ _ rfl rfl rfl (Below.refl _ _)
        simp only [List.setIfInBounds_toArray, List.set_cons_zero, List.set_cons_succ]
        refine obs_step (Eq.trans (by simp only [List.getElem?_toArray, List.getElem?_cons_succ, List.getElem?_cons_zero]; exact rfl) rfl) rfl (fun w' hS hV K hK => ?_) ?_
        · have e0 : x 0 = (.int .i64 (0)) := hV 0 (by decide)
          have e1 : x 1 = (.bool true) := hV 1 (by decide)
          obtain ⟨q0, q1⟩ := hS.1.two
          go_simp
          exact hK.out _ _ _ rfl rfl rfl (Below.refl _ _)
        simp only [List.setIfInBounds_toArray, List.set_cons_zero, List.set_cons_succ]
        refine obs_step (Eq.trans (by simp only [List.getElem?_toArray, List.getElem?_cons_succ, List.getElem?_cons_zero]; exact rfl) rfl) rfl (fun w' hS hV K hK => ?_) ?_
        · have e0 : x 0 = (.int .i64 (0)) := hV 0 (by decide)
          have e1 : x 1 = (.bool true) := hV 1 (by decide)
          have e2 : x 2 = (.bool true) := hV 2 (by decide)
          obtain ⟨q0, q1⟩ := hS.1.two
          go_simp
          exact hK.out _ _ _ rfl rfl rfl (Below.refl _ _)
        simp only [List.setIfInBounds_toArray, List.set_cons_zero, List.set_cons_succ]
        refine obs_step (Eq.trans (by simp only [List.getElem?_toArray, List.getElem?_cons_succ, List.getElem?_cons_zero]; exact rfl) rfl) rfl (fun w' hS hV K hK => ?_) ?_
        · have e0 : x 0 = (.int .i64 (0)) := hV 0 (by decide)
          have e1 : x 1 = (.bool true) := hV 1 (by decide)
          have e2 : x 2 = (.bool true) := hV 2 (by decide)
          obtain ⟨q0, q1⟩ := hS.1.two
          go_simp
          exact hK.out _ _ _ rfl rfl rfl (Below.refl _ _)
        simp only [List.setIfInBounds_toArray, List.set_cons_zero, List.set_cons_succ]
        refine obs_step (Eq.trans (by simp only [List.getElem?_toArray, List.getElem?_cons_succ, List.getElem?_cons_zero]; exact rfl) rfl) rfl (fun w' hS hV K hK => ?_) ?_
        · have e0 : x 0 = (.int .i64 (0)) := hV 0 (by decide)
          have e1 : x 1 = (.bool true) := hV 1 (by decide)
          have e2 : x 2 = (.bool true) := hV 2 (by decide)
          obtain ⟨q0, q1⟩ := hS.1.two
          go_simp
          exact hK.out _ _ _ rfl rfl rfl (Below.refl _ _)
        simp only [List.setIfInBounds_toArray, List.set_cons_zero, List.set_cons_succ]
        refine obs_step (Eq.trans (by simp only [List.getElem?_toArray, List.getElem?_cons_succ, List.getElem?_cons_zero]; exact rfl) rfl) rfl (fun w' hS hV K hK => ?_) ?_
        · have e0 : x 0 = (.int .i64 (0)) := hV 0 (by decide)
          have e1 : x 1 = (.bool true) := hV 1 (by decide)
          have e2 : x 2 = (.bool true) := hV 2 (by decide)
          have e3 : x 3 = (.agg #[.int .i64 P, .slice A n c]) := hV 3 (by decide)
          have e4 : x 4 = (.slice X n cx) := hV 4 (by decide)
          have e5 : x 5 = (.slice X n cx) := hV 5 (by decide)
          obtain ⟨q0, q1⟩ := hS.1.two
          go_simp
          refine (HNU.out _ hS.2).mono ?_
          rintro e v1 ⟨rfl, hb⟩
          exact hK.out _ _ _ rfl rfl rfl hb
        simp only [List.setIfInBounds_toArray, List.set_cons_zero, List.set_cons_succ]
        refine obs_step (Eq.trans (by simp only [List.getElem?_toArray, List.getElem?_cons_succ, List.getElem?_cons_zero]; exact rfl) rfl) rfl (fun w' hS hV K hK => ?_) ?_
        · have e0 : x 0 = (.int .i64 (0)) := hV 0 (by decide)
          have e1 : x 1 = (.bool true) := hV 1 (by decide)
          have e2 : x 2 = (.bool true) := hV 2 (by decide)
          have e3 : x 3 = (.agg #[.int .i64 P, .slice A n c]) := hV 3 (by decide)
          have e4 : x 4 = (.slice X n cx) := hV 4 (by decide)
          have e5 : x 5 = (.slice X n cx) := hV 5 (by decide)
          have e6 : x 6 = (.int .i64 (a)) := hV 6 (by decide)
          obtain ⟨q0, q1⟩ := hS.1.two
          go_simp
          exact hK.out _ _ _ rfl rfl rfl (Below.refl _ _)
        simp only [List.setIfInBounds_toArray, List.set_cons_zero, List.set_cons_succ]
        refine obs_step (Eq.trans (by simp only [List.getElem?_toArray, List.getElem?_cons_succ, List.getElem?_cons_zero]; exact rfl) rfl) rfl (fun w' hS hV K hK => ?_) ?_
        · have e0 : x 0 = (.int .i64 (0)) := hV 0 (by decide)
          have e1 : x 1 = (.bool true) := hV 1 (by decide)
          have e2 : x 2 = (.bool true) := hV 2 (by decide)
          have e3 : x 3 = (.agg #[.int .i64 P, .slice A n c]) := hV 3 (by decide)
          have e4 : x 4 = (.slice X n cx) := hV 4 (by decide)
          have e5 : x 5 = (.slice X n cx) := hV 5 (by decide)
          have e6 : x 6 = (.int .i64 (a)) := hV 6 (by decide)
          have e7 : x 7 = (.bool false) := hV 7 (by decide)
          obtain ⟨q0, q1⟩ := hS.1.two
          go_simp
          exact hK.out _ _ _ rfl rfl rfl (Below.refl _ _)
        simp only [List.setIfInBounds_toArray, List.set_cons_zero, List.set_cons_succ]
        refine obs_step (Eq.trans (by simp only [List.getElem?_toArray, List.getElem?_cons_succ, List.getElem?_cons_zero]; exact rfl) rfl) rfl (fun w' hS hV K hK => ?_) ?_
        · have e0 : x 0 = (.int .i64 (0)) := hV 0 (by decide)
          have e1 : x 1 = (.bool true) := hV 1 (by decide)
          have e2 : x 2 = (.bool true) := hV 2 (by decide)
          have e3 : x 3 = (.agg #[.int .i64 P, .slice A n c]) := hV 3 (by decide)
          have e4 : x 4 = (.slice X n cx) := hV 4 (by decide)
          have e5 : x 5 = (.slice X n cx) := hV 5 (by decide)
          have e6 : x 6 = (.int .i64 (a)) := hV 6 (by decide)
          have e7 : x 7 = (.bool false) := hV 7 (by decide)
          have e8 : x 8 = (.bool false) := hV 8 (by decide)
          obtain ⟨q0, q1⟩ := hS.1.two
          go_simp
          exact hK.out _ _ _ rfl rfl rfl (Below.refl _ _)
        simp only [List.setIfInBounds_toArray, List.set_cons_zero, List.set_cons_succ]
        refine obs_step (Eq.trans (by simp only [List.getElem?_toArray, List.getElem?_cons_succ, List.getElem?_cons_zero]; exact rfl) rfl) rfl (fun w' hS hV K hK => ?_) ?_
        · have e0 : x 0 = (.int .i64 (0)) := hV 0 (by decide)
          have e1 : x 1 = (.bool true) := hV 1 (by decide)
          have e2 : x 2 = (.bool true) := hV 2 (by decide)
          have e3 : x 3 = (.agg #[.int .i64 P, .slice A n c]) := hV 3 (by decide)
          have e4 : x 4 = (.slice X n cx) := hV 4 (by decide)
          have e5 : x 5 = (.slice X n cx) := hV 5 (by decide)
          have e6 : x 6 = (.int .i64 (a)) := hV 6 (by decide)
          have e7 : x 7 = (.bool false) := hV 7 (by decide)
          have e8 : x 8 = (.bool false) := hV 8 (by decide)
          obtain ⟨q0, q1⟩ := hS.1.two
          go_simp
          exact hK.out _ _ _ rfl rfl rfl (Below.refl _ _)
        simp only [List.setIfInBounds_toArray, List.set_cons_zero, List.set_cons_succ]
        refine obs_step (Eq.trans (by simp only [List.getElem?_toArray, List.getElem?_cons_succ, List.getElem?_cons_zero]; exact rfl) rfl) rfl (fun w' hS hV K hK => ?_) ?_
        · have e0 : x 0 = (.int .i64 (0)) := hV 0 (by decide)
          have e1 : x 1 = (.bool true) := hV 1 (by decide)
          have e2 : x 2 = (.bool true) := hV 2 (by decide)
          have e3 : x 3 = (.agg #[.int .i64 P, .slice A n c]) := hV 3 (by decide)
          have e4 : x 4 = (.slice X n cx) := hV 4 (by decide)
          have e5 : x 5 = (.slice X n cx) := hV 5 (by decide)
          have e6 : x 6 = (.int .i64 (a)) := hV 6 (by decide)
          have e7 : x 7 = (.bool false) := hV 7 (by decide)
          have e8 : x 8 = (.bool false) := hV 8 (by decide)
          obtain ⟨q0, q1⟩ := hS.1.two
          go_simp
          exact hK.out _ _ _ rfl rfl rfl (Below.refl _ _)
        simp only [List.setIfInBounds_toArray, List.set_cons_zero, List.set_cons_succ]
        refine obs_step (Eq.trans (by simp only [List.getElem?_toArray, List.getElem?_cons_succ, List.getElem?_cons_zero]; exact rfl) rfl) rfl (fun w' hS hV K hK => ?_) ?_
        · have e0 : x 0 = (.int .i64 (0)) := hV 0 (by decide)
          have e1 : x 1 = (.bool true) := hV 1 (by decide)
          have e2 : x 2 = (.bool true) := hV 2 (by decide)
          have e3 : x 3 = (.agg #[.int .i64 P, .slice A n c]) := hV 3 (by decide)
          have e4 : x 4 = (.slice X n cx) := hV 4 (by decide)
          have e5 : x 5 = (.slice X n cx) := hV 5 (by decide)
          have e6 : x 6 = (.int .i64 (a)) := hV 6 (by decide)
          have e7 : x 7 = (.bool false) := hV 7 (by decide)
          have e8 : x 8 = (.bool false) := hV 8 (by decide)
          have e9 : x 9 = (.agg #[.int .i64 P, .slice A n c]) := hV 9 (by decide)
          have e10 : x 10 = (.slice X n cx) := hV 10 (by decide)
          have e11 : x 11 = (.slice X n cx) := hV 11 (by decide)
          obtain ⟨q0, q1⟩ := hS.1.two
          go_simp
          refine (HNU.out _ hS.2).mono ?_
          rintro e v1 ⟨rfl, hb⟩
          exact hK.out _ _ _ rfl rfl rfl hb
        simp only [List.setIfInBounds_toArray, List.set_cons_zero, List.set_cons_succ]
        refine obs_step (Eq.trans (by simp only [List.getElem?_toArray, List.getElem?_cons_succ, List.getElem?_cons_zero]; exact rfl) rfl) rfl (fun w' hS hV K hK => ?_) ?_
        · have e0 : x 0 = (.int .i64 (0)) := hV 0 (by decide)
          have e1 : x 1 = (.bool true) := hV 1 (by decide)
          have e2 : x 2 = (.bool true) := hV 2 (by decide)
          have e3 : x 3 = (.agg #[.int .i64 P, .slice A n c]) := hV 3 (by decide)
          have e4 : x 4 = (.slice X n cx) := hV 4 (by decide)
          have e5 : x 5 = (.slice X n cx) := hV 5 (by decide)
          have e6 : x 6 = (.int .i64 (a)) := hV 6 (by decide)
          have e7 : x 7 = (.bool false) := hV 7 (by decide)
          have e8 : x 8 = (.bool false) := hV 8 (by decide)
          obtain ⟨q0, q1⟩ := hS.1.two
          go_simp
          exact hK.out _ _ _ rfl rfl rfl (Below.refl _ _)
        simp only [List.setIfInBounds_toArray, List.set_cons_zero, List.set_cons_succ]
        refine obs_step (Eq.trans (by simp only [List.getElem?_toArray, List.getElem?_cons_succ, List.getElem?_cons_zero]; exact rfl) rfl) rfl (fun w' hS hV K hK => ?_) ?_
        · have e0 : x 0 = (.int .i64 (0)) := hV 0 (by decide)
          have e1 : x 1 = (.bool true) := hV 1 (by decide)
          have e2 : x 2 = (.bool true) := hV 2 (by decide)
          have e3 : x 3 = (.agg #[.int .i64 P, .slice A n c]) := hV 3 (by decide)
          have e4 : x 4 = (.slice X n cx) := hV 4 (by decide)
          have e5 : x 5 = (.slice X n cx) := hV 5 (by decide)
          have e6 : x 6 = (.int .i64 (a)) := hV 6 (by decide)
          have e7 : x 7 = (.bool false) := hV 7 (by decide)
          have e8 : x 8 = (.bool false) := hV 8 (by decide)
          obtain ⟨q0, q1⟩ := hS.1.two
          go_simp
          exact hK.out _ _ _ rfl rfl rfl (Below.refl _ _)
        simp only [List.setIfInBounds_toArray, List.set_cons_zero, List.set_cons_succ]
        refine obs_step (Eq.trans (by simp only [List.getElem?_toArray, List.getElem?_cons_succ, List.getElem?_cons_zero]; exact rfl) rfl) rfl (fun w' hS hV K hK => ?_) ?_
        · have e0 : x 0 = (.int .i64 (0)) := hV 0 (by decide)
          have e1 : x 1 = (.bool true) := hV 1 (by decide)
          have e2 : x 2 = (.bool true) := hV 2 (by decide)
          have e3 : x 3 = (.agg #[.int .i64 P, .slice A n c]) := hV 3 (by decide)
          have e4 : x 4 = (.slice X n cx) := hV 4 (by decide)
          have e5 : x 5 = (.slice X n cx) := hV 5 (by decide)
          have e6 : x 6 = (.int .i64 (a)) := hV 6 (by decide)
          have e7 : x 7 = (.bool false) := hV 7 (by decide)
          have e8 : x 8 = (.bool false) := hV 8 (by decide)
          obtain ⟨q0, q1⟩ := hS.1.two
          go_simp
          exact hK.out _ _ _ rfl rfl rfl (Below.refl _ _)
        simp only [List.setIfInBounds_toArray, List.set_cons_zero, List.set_cons_succ]
        refine obs_step (Eq.trans (by simp only [List.getElem?_toArray, List.getElem?_cons_succ, List.getElem?_cons_zero]; exact rfl) rfl) rfl (fun w' hS hV K hK => ?_) ?_
        · have e0 : x 0 = (.int .i64 (0)) := hV 0 (by decide)
          have e1 : x 1 = (.bool true) := hV 1 (by decide)
          have e2 : x 2 = (.bool true) := hV 2 (by decide)
          have e3 : x 3 = (.agg #[.int .i64 P, .slice A n c]) := hV 3 (by decide)
          have e4 : x 4 = (.slice X n cx) := hV 4 (by decide)
          have e5 : x 5 = (.slice X n cx) := hV 5 (by decide)
          have e6 : x 6 = (.int .i64 (a)) := hV 6 (by decide)
          have e7 : x 7 = (.bool false) := hV 7 (by decide)
          have e8 : x 8 = (.bool false) := hV 8 (by decide)
          have e13 : x 13 = (.agg #[.int .i64 P, .slice A n c]) := hV 13 (by decide)
          have e14 : x 14 = (.slice Y n cy) := hV 14 (by decide)
          have e15 : x 15 = (.slice Y n cy) := hV 15 (by decide)
          obtain ⟨q0, q1⟩ := hS.1.two
          go_simp
          refine (HNV.out _ hS.2).mono ?_
          rintro e v1 ⟨rfl, hb⟩
          exact hK.out _ _ _ rfl rfl rfl hb
        simp only [List.setIfInBounds_toArray, List.set_cons_zero, List.set_cons_succ]
        refine obs_step (Eq.trans (by simp only [List.getElem?_toArray, List.getElem?_cons_succ, List.getElem?_cons_zero]; exact rfl) rfl) rfl (fun w' hS hV K hK => ?_) ?_
        · have e0 : x 0 = (.int .i64 (0)) := hV 0 (by decide)
          have e1 : x 1 = (.bool true) := hV 1 (by decide)
          have e2 : x 2 = (.bool true) := hV 2 (by decide)
          have e3 : x 3 = (.agg #[.int .i64 P, .slice A n c]) := hV 3 (by decide)
          have e4 : x 4 = (.slice X n cx) := hV 4 (by decide)
          have e5 : x 5 = (.slice X n cx) := hV 5 (by decide)
          have e6 : x 6 = (.int .i64 (a)) := hV 6 (by decide)
          have e7 : x 7 = (.bool false) := hV 7 (by decide)
          have e8 : x 8 = (.bool false) := hV 8 (by decide)
          have e9 : x 9 = (.agg #[.int .i64 P, .slice A n c]) := hV 9 (by decide)
          have e10 : x 10 = (.slice X n cx) := hV 10 (by decide)
          have e11 : x 11 = (.slice X n cx) := hV 11 (by decide)
          have e12 : x 12 = (.int .i64 (a)) := hV 12 (by decide)
          have e13 : x 13 = (.agg #[.int .i64 P, .slice A n c]) := hV 13 (by decide)
          have e14 : x 14 = (.slice Y n cy) := hV 14 (by decide)
          have e15 : x 15 = (.slice Y n cy) := hV 15 (by decide)
          have e16 : x 16 = (.int .i64 (b)) := hV 16 (by decide)
          obtain ⟨q0, q1⟩ := hS.1.two
          go_simp
          exact hK.out _ _ _ rfl rfl rfl (Below.refl _ _)
        simp only [List.setIfInBounds_toArray, List.set_cons_zero, List.set_cons_succ]
        refine obs_step (Eq.trans (by simp only [List.getElem?_toArray, List.getElem?_cons_succ, List.getElem?_cons_zero]; exact rfl) rfl) rfl (fun w' hS hV K hK => ?_) ?_
        · have e0 : x 0 = (.int .i64 (0)) := hV 0 (by decide)
          have e1 : x 1 = (.bool true) := hV 1 (by decide)
          have e2 : x 2 = (.bool true) := hV 2 (by decide)
          have e3 : x 3 = (.agg #[.int .i64 P, .slice A n c]) := hV 3 (by decide)
          have e4 : x 4 = (.slice X n cx) := hV 4 (by decide)
          have e5 : x 5 = (.slice X n cx) := hV 5 (by decide)
          have e6 : x 6 = (.int .i64 (a)) := hV 6 (by decide)
          have e7 : x 7 = (.bool false) := hV 7 (by decide)
          have e8 : x 8 = (.bool false) := hV 8 (by decide)
          have e9 : x 9 = (.agg #[.int .i64 P, .slice A n c]) := hV 9 (by decide)
          have e10 : x 10 = (.slice X n cx) := hV 10 (by decide)
          have e11 : x 11 = (.slice X n cx) := hV 11 (by decide)
          have e12 : x 12 = (.int .i64 (a)) := hV 12 (by decide)
          have e13 : x 13 = (.agg #[.int .i64 P, .slice A n c]) := hV 13 (by decide)
          have e14 : x 14 = (.slice Y n cy) := hV 14 (by decide)
          have e15 : x 15 = (.slice Y n cy) := hV 15 (by decide)
          have e16 : x 16 = (.int .i64 (b)) := hV 16 (by decide)
          have e17 : x 17 = (.bool false) := hV 17 (by decide)
          obtain ⟨q0, q1⟩ := hS.1.two
          go_simp
          exact hK.out _ _ _ rfl rfl rfl (Below.refl _ _)
        simp only [List.setIfInBounds_toArray, List.set_cons_zero, List.set_cons_succ]
        refine obs_step (Eq.trans (by simp only [List.getElem?_toArray, List.getElem?_cons_succ, List.getElem?_cons_zero]; exact rfl) rfl) rfl (fun w' hS hV K hK => ?_) ?_
        · have e0 : x 0 = (.int .i64 (0)) := hV 0 (by decide)
          have e1 : x 1 = (.bool true) := hV 1 (by decide)
          have e2 : x 2 = (.bool true) := hV 2 (by decide)
          have e3 : x 3 = (.agg #[.int .i64 P, .slice A n c]) := hV 3 (by decide)
          have e4 : x 4 = (.slice X n cx) := hV 4 (by decide)
          have e5 : x 5 = (.slice X n cx) := hV 5 (by decide)
          have e6 : x 6 = (.int .i64 (a)) := hV 6 (by decide)
          have e7 : x 7 = (.bool false) := hV 7 (by decide)
          have e8 : x 8 = (.bool false) := hV 8 (by decide)
          have e9 : x 9 = (.agg #[.int .i64 P, .slice A n c]) := hV 9 (by decide)
          have e10 : x 10 = (.slice X n cx) := hV 10 (by decide)
          have e11 : x 11 = (.slice X n cx) := hV 11 (by decide)
          have e12 : x 12 = (.int .i64 (a)) := hV 12 (by decide)
          have e13 : x 13 = (.agg #[.int .i64 P, .slice A n c]) := hV 13 (by decide)
          have e14 : x 14 = (.slice Y n cy) := hV 14 (by decide)
          have e15 : x 15 = (.slice Y n cy) := hV 15 (by decide)
          have e16 : x 16 = (.int .i64 (b)) := hV 16 (by decide)
          have e17 : x 17 = (.bool false) := hV 17 (by decide)
          have e18 : x 18 = (.bool false) := hV 18 (by decide)
          obtain ⟨q0, q1⟩ := hS.1.two
          go_simp
          exact hK.out _ _ _ rfl rfl rfl (Below.refl _ _)
        simp only [List.setIfInBounds_toArray, List.set_cons_zero, List.set_cons_succ]
        refine fun w' hS hV => ?_
        have e0 : x 0 = (.int .i64 (0)) := hV 0 (by decide)
        have e1 : x 1 = (.bool true) := hV 1 (by decide)
        have e2 : x 2 = (.bool true) := hV 2 (by decide)
        have e3 : x 3 = (.agg #[.int .i64 P, .slice A n c]) := hV 3 (by decide)
        have e4 : x 4 = (.slice X n cx) := hV 4 (by decide)
        have e5 : x 5 = (.slice X n cx) := hV 5 (by decide)
        have e6 : x 6 = (.int .i64 (a)) := hV 6 (by decide)
        have e7 : x 7 = (.bool false) := hV 7 (by decide)
        have e8 : x 8 = (.bool false) := hV 8 (by decide)
        have e9 : x 9 = (.agg #[.int .i64 P, .slice A n c]) := hV 9 (by decide)
        have e10 : x 10 = (.slice X n cx) := hV 10 (by decide)
        have e11 : x 11 = (.slice X n cx) := hV 11 (by decide)
        have e12 : x 12 = (.int .i64 (a)) := hV 12 (by decide)
        have e13 : x 13 = (.agg #[.int .i64 P, .slice A n c]) := hV 13 (by decide)
        have e14 : x 14 = (.slice Y n cy) := hV 14 (by decide)
        have e15 : x 15 = (.slice Y n cy) := hV 15 (by decide)
        have e16 : x 16 = (.int .i64 (b)) := hV 16 (by decide)
        have e17 : x 17 = (.bool false) := hV 17 (by decide)
        have e18 : x 18 = (.bool false) := hV 18 (by decide)
        have e19 : x 19 = (.bool false) := hV 19 (by decide)
        simp only [e0, e1, e2, e3, e4, e5, e6, e7, e8, e9, e10, e11, e12, e13, e14, e15, e16, e17, e18, e19]
        clear e0 e1 e2 e3 e4 e5 e6 e7 e8 e9 e10 e11 e12 e13 e14 e15 e16 e17 e18 e19
        refine wpAny_done (by kernel_rfl) ?_ _
        obtain ⟨k4, hb4⟩ := hS
        obtain ⟨w4, rfl⟩ : ∃ W, W = w' := ⟨_, rfl⟩
        have hB4 := hB2.trans (hb4.mono hB2.size)
        clear k2 hb4 q0 q1
        obtain ⟨q0, q1⟩ := k4.two
        have hB5 := hB4
        have k5 := k4
        obtain ⟨w5, rfl⟩ : ∃ W, W = w4 := ⟨_, rfl⟩
        have W1 := i64_fit (P - 1) (by omega) (by omega)
        go_wp2_with fail
        refine (hPL _ hB5).mono ?_
        rintro e w6 ⟨AD, cd, rfl, hMD⟩
        have hB6 := hB5.trans (hMD.b.mono hB5.size)
        have k6 := k5.below hMD.b k5.lt
        have hAD := hMD.rd
        clear q0 q1 hPL k5 hB5
        obtain ⟨q0, q1⟩ := k6.two
        have HADN := HDN
        have hBr := Below.refl w6.heap.size w6
        have hnd := l03Pair_any P A n c sq AD cd D AD cd D w6 hp hp2 hn6 (ha.below hB6) HSQ.out hAD HDN.out hAD HDN.out
        obtain ⟨dd, hdd⟩ : ∃ d, d = pairL P sq D D := ⟨_, rfl⟩
        rw [← hdd] at hnd
        have HDP := Lib.hid hdd
        clear hdd hBr
        by_cases hd0 : dd = 0
        · have e3 : (dd != 0) = false := by simp [hd0]
          have HEV : Hid (vbL P sq u v = versL P sq n [v, D1]) := Lib.hid (by unfold vbL; rw [← HDD.out.1, ← HDD.out.2, ← HDP.out, if_pos hd0, HSL.out])
          clear hd0
          go_wp2_with fail
          refine hnd.mono ?_
          rintro e w7 ⟨rfl, hb7⟩
          have hB7 := hB6.trans (hb7.mono hB6.size)
          have k7 := k6.below hb7 k6.lt
          clear hnd k6 q0 q1 hB6 hAD hMD hb7
          obtain ⟨w6, rfl⟩ : ∃ W, W = w7 := ⟨_, rfl⟩
          have k6 := k7
          have hB6 := hB7
          have hy6 := hY.below hB6
          have hcy := hcy
          have HPL1 := Lib.hid fun (w' : World) (h : Below w6.heap.size w6 w') => hPL1 w' (hB6.trans (h.mono hB6.size))
          have HVR := Lib.hid fun (w' : World) (B : Option Addr) (d : Nat) (h : Below w6.heap.size w6 w') (hb : RdII w' B 2 [v, D1]) => l07Versor_any P A n c sq B 2 d [v, D1] w' HPP.out hn6 hn0 (by omega) (ha.below (hB6.trans (h.mono hB6.size))) HSQ.out hb (all_two ⟨HVL.out, HYN.out⟩ ⟨HD1N.out.2, HD1N.out.1⟩)
          obtain ⟨VL, hVL⟩ : ∃ L, L = versL P sq n [v, D1] := ⟨_, rfl⟩
          rw [← hVL] at HVR HEV
          clear hVL hPL1 k7 hB7
          obtain ⟨q0, q1⟩ := k6.two
          go_wp2
          refine wp_obs 11 [[], [], [], [2], [], [], [2, 3, 4, 5], [1, 2, 3, 4, 5, 6], [0, 1, 2, 3, 4, 5, 6, 7], [0, 1, 2, 3, 4, 5, 6, 7, 8], []] [VIs (.agg #[.int .i64 P, .slice A n c]), VIs (.slice Y n cy), VIs (.pointer (some ⟨w.heap.size, 0, none⟩)), VIs (.int .i64 (P)), VIs (.slice Y n cy), VIs (.slice X n cx), VSl w6 n D1, VRow 2 [v, D1], VSl w6 (pw n) VL, VSl w6 (pw n) VL, VIs (.int .i64 0)] (fun w' => Blk w' w.heap.size 26 #[.int .i64 P, .slice A n c] ∧ Below w6.heap.size w6 w') (by kernel_rfl) (by kernel_rfl) (fun _ _ h hb => ⟨h.1.below hb h.1.lt, h.2.trans (hb.mono h.2.size)⟩) (⟨k6.drew, (Below.refl _ _).drew⟩) (fun x => ?_)
          refine obs_step (Eq.trans (by simp only [List.getElem?_toArray, List.getElem?_cons_zero]; exact rfl) rfl) rfl (fun w' hS hV K hK => ?_) ?_
          · obtain ⟨q0, q1⟩ := hS.1.two
            go_simp
            exact hK.out _ _ _ rfl rfl rfl (Below.refl _ _)
          simp only [List.setIfInBounds_toArray, List.set_cons_zero, List.set_cons_succ]
          refine obs_step (Eq.trans (by simp only [List.getElem?_toArray, List.getElem?_cons_succ, List.getElem?_cons_zero]; exact rfl) rfl) rfl (fun w' hS hV K hK => ?_) ?_
          · obtain ⟨q0, q1⟩ := hS.1.two
            go_simp
            exact hK.out _ _ _ rfl rfl rfl (Below.refl _ _)
          simp only [List.setIfInBounds_toArray, List.set_cons_zero, List.set_cons_succ]
          refine obs_step (Eq.trans (by simp only [List.getElem?_toArray, List.getElem?_cons_succ, List.getElem?_cons_zero]; exact rfl) rfl) rfl (fun w' hS hV K hK => ?_) ?_
          · obtain ⟨q0, q1⟩ := hS.1.two
            go_simp
            exact hK.out _ _ _ rfl rfl rfl (Below.refl _ _)
          simp only [List.setIfInBounds_toArray, List.set_cons_zero, List.set_cons_succ]
          refine obs_step (Eq.trans (by simp only [List.getElem?_toArray, List.getElem?_cons_succ, List.getElem?_cons_zero]; exact rfl) rfl) rfl (fun w' hS hV K hK => ?_) ?_
          · have e2 : x 2 = (.pointer (some ⟨w.heap.size, 0, none⟩)) := hV 2 (by decide)
            obtain ⟨q0, q1⟩ := hS.1.two
            go_simp
            exact hK.out _ _ _ rfl rfl rfl (Below.refl _ _)
          simp only [List.setIfInBounds_toArray, List.set_cons_zero, List.set_cons_succ]
          refine obs_step (Eq.trans (by simp only [List.getElem?_toArray, List.getElem?_cons_succ, List.getElem?_cons_zero]; exact rfl) rfl) rfl (fun w' hS hV K hK => ?_) ?_
          · obtain ⟨q0, q1⟩ := hS.1.two
            go_simp
            exact hK.out _ _ _ rfl rfl rfl (Below.refl _ _)
          simp only [List.setIfInBounds_toArray, List.set_cons_zero, List.set_cons_succ]
          refine obs_step (Eq.trans (by simp only [List.getElem?_toArray, List.getElem?_cons_succ, List.getElem?_cons_zero]; exact rfl) rfl) rfl (fun w' hS hV K hK => ?_) ?_
          · obtain ⟨q0, q1⟩ := hS.1.two
            go_simp
            exact hK.out _ _ _ rfl rfl rfl (Below.refl _ _)
          simp only [List.setIfInBounds_toArray, List.set_cons_zero, List.set_cons_succ]
          refine obs_step (Eq.trans (by simp only [List.getElem?_toArray, List.getElem?_cons_succ, List.getElem?_cons_zero]; exact rfl) rfl) rfl (fun w' hS hV K hK => ?_) ?_
          · have e2 : x 2 = (.pointer (some ⟨w.heap.size, 0, none⟩)) := hV 2 (by decide)
            have e3 : x 3 = (.int .i64 (P)) := hV 3 (by decide)
            have e4 : x 4 = (.slice Y n cy) := hV 4 (by decide)
            have e5 : x 5 = (.slice X n cx) := hV 5 (by decide)
            obtain ⟨q0, q1⟩ := hS.1.two
            go_simp
            refine (HPL1.out _ hS.2).mono ?_
            rintro e v1 ⟨A2, c2, rfl, hM⟩
            exact hK.out _ _ _ rfl rfl ⟨_, _, rfl, hM.after hS.2⟩ hM.b
          simp only [List.setIfInBounds_toArray, List.set_cons_zero, List.set_cons_succ]
          refine obs_step (Eq.trans (by simp only [List.getElem?_toArray, List.getElem?_cons_succ, List.getElem?_cons_zero]; exact rfl) rfl) rfl (fun w' hS hV K hK => ?_) ?_
          · have e1 : x 1 = (.slice Y n cy) := hV 1 (by decide)
            have e2 : x 2 = (.pointer (some ⟨w.heap.size, 0, none⟩)) := hV 2 (by decide)
            have e3 : x 3 = (.int .i64 (P)) := hV 3 (by decide)
            have e4 : x 4 = (.slice Y n cy) := hV 4 (by decide)
            have e5 : x 5 = (.slice X n cx) := hV 5 (by decide)
            obtain ⟨A6, c6, e6, h6⟩ := hV 6 (by decide)
            obtain ⟨q0, q1⟩ := hS.1.two
            go_simp
            exact hK.out _ _ _ rfl rfl ⟨_, _, rfl, rdII_two (Blk.new _ _ _) (Rd.below (hy6.below hS.2) ((Below.refl _ _).alloc (Nat.le_refl _) _)) (Rd.below h6.rd ((Below.refl _ _).alloc (Nat.le_refl _) _)) hcy h6.2.cap⟩ ((Below.refl _ _).alloc (Nat.le_refl _) _)
          simp only [List.setIfInBounds_toArray, List.set_cons_zero, List.set_cons_succ]
          refine obs_step (Eq.trans (by simp only [List.getElem?_toArray, List.getElem?_cons_succ, List.getElem?_cons_zero]; exact rfl) rfl) rfl (fun w' hS hV K hK => ?_) ?_
          · have e0 : x 0 = (.agg #[.int .i64 P, .slice A n c]) := hV 0 (by decide)
            have e1 : x 1 = (.slice Y n cy) := hV 1 (by decide)
            have e2 : x 2 = (.pointer (some ⟨w.heap.size, 0, none⟩)) := hV 2 (by decide)
            have e3 : x 3 = (.int .i64 (P)) := hV 3 (by decide)
            have e4 : x 4 = (.slice Y n cy) := hV 4 (by decide)
            have e5 : x 5 = (.slice X n cx) := hV 5 (by decide)
            obtain ⟨A6, c6, e6, h6⟩ := hV 6 (by decide)
            obtain ⟨A7, c7, e7, h7⟩ := hV 7 (by decide)
            obtain ⟨q0, q1⟩ := hS.1.two
            go_simp
            refine (HVR.out _ _ _ hS.2 h7).mono ?_
            rintro e v1 ⟨A2, c2, rfl, hM⟩
            exact hK.out _ _ _ rfl rfl ⟨_, _, rfl, hM.after hS.2⟩ hM.b
          simp only [List.setIfInBounds_toArray, List.set_cons_zero, List.set_cons_succ]
          refine obs_step (Eq.trans (by simp only [List.getElem?_toArray, List.getElem?_cons_succ, List.getElem?_cons_zero]; exact rfl) rfl) rfl (fun w' hS hV K hK => ?_) ?_
          · have e0 : x 0 = (.agg #[.int .i64 P, .slice A n c]) := hV 0 (by decide)
            have e1 : x 1 = (.slice Y n cy) := hV 1 (by decide)
            have e2 : x 2 = (.pointer (some ⟨w.heap.size, 0, none⟩)) := hV 2 (by decide)
            have e3 : x 3 = (.int .i64 (P)) := hV 3 (by decide)
            have e4 : x 4 = (.slice Y n cy) := hV 4 (by decide)
            have e5 : x 5 = (.slice X n cx) := hV 5 (by decide)
            obtain ⟨A6, c6, e6, h6⟩ := hV 6 (by decide)
            obtain ⟨A7, c7, e7, h7⟩ := hV 7 (by decide)
            obtain ⟨A8, c8, e8, h8⟩ := hV 8 (by decide)
            obtain ⟨q0, q1⟩ := hS.1.two
            go_simp
            exact hK.out _ _ _ rfl rfl ⟨_, _, rfl, h8⟩ (Below.refl _ _)
          simp only [List.setIfInBounds_toArray, List.set_cons_zero, List.set_cons_succ]
          refine obs_step (Eq.trans (by simp only [List.getElem?_toArray, List.getElem?_cons_succ, List.getElem?_cons_zero]; exact rfl) rfl) rfl (fun w' hS hV K hK => ?_) ?_
          · obtain ⟨q0, q1⟩ := hS.1.two
            go_simp
            exact hK.out _ _ _ rfl rfl rfl (Below.refl _ _)
          simp only [List.setIfInBounds_toArray, List.set_cons_zero, List.set_cons_succ]
          refine fun w' hS hV => ?_
          have e0 : x 0 = (.agg #[.int .i64 P, .slice A n c]) := hV 0 (by decide)
          have e1 : x 1 = (.slice Y n cy) := hV 1 (by decide)
          have e2 : x 2 = (.pointer (some ⟨w.heap.size, 0, none⟩)) := hV 2 (by decide)
          have e3 : x 3 = (.int .i64 (P)) := hV 3 (by decide)
          have e4 : x 4 = (.slice Y n cy) := hV 4 (by decide)
          have e5 : x 5 = (.slice X n cx) := hV 5 (by decide)
          obtain ⟨A6, c6, e6, h6⟩ := hV 6 (by decide)
          obtain ⟨A7, c7, e7, h7⟩ := hV 7 (by decide)
          obtain ⟨A8, c8, e8, h8⟩ := hV 8 (by decide)
          obtain ⟨A9, c9, e9, h9⟩ := hV 9 (by decide)
          have e10 : x 10 = (.int .i64 0) := hV 10 (by decide)
          simp only [e0, e1, e2, e3, e4, e5, e6, e7, e8, e9, e10]
          clear e0 e1 e2 e3 e4 e5 e6 e7 e8 e9 e10
          refine wpAny_done (by kernel_rfl) ?_ _
          go_wp2
          go_ret2
          exact ⟨A9, pw n, c9, (by rw [HE.out]; first | done | rfl), by rw [HE.out, HEV.out]; exact h9.after hB6⟩
        · have e3 : (dd != 0) = true := by simp [hd0]
          have HEV : Hid (vbL P sq u v = vecTo n D n) := Lib.hid (by unfold vbL; rw [← HDD.out.1, ← HDP.out, if_neg hd0, HSL.out])
          clear hd0
          go_wp2_with fail
          refine hnd.mono ?_
          rintro e w7 ⟨rfl, hb7⟩
          have hB7 := hB6.trans (hb7.mono hB6.size)
          have k7 := k6.below hb7 k6.lt
          clear q0 q1
          obtain ⟨q0, q1⟩ := k7.two
          go_wp2_with fail
          refine (l04Vector_any P A n c AD cd D w7 (by omega) (hAD.below hb7)).mono ?_
          rintro e w8 ⟨A8, c8, rfl, hM8⟩
          go_wp2
          go_ret2
          exact ⟨A8, pw n, c8, (by rw [HE.out]; first | done | rfl), by rw [HE.out, HEV.out]; exact hM8.after hB7⟩
      · have HC : Hid (codeVB P sq u v = 5) := Lib.hid (by unfold codeVB; rw [if_pos HR0.out, ← HAB.out.1, ← HAB.out.2, if_pos (.inr hab)])
        have e2 : (a != b) = true := by simp [hab]
        go_enter Tryz.func34, Tryz.ntmps34
        go_wp2_with fail
        refine hreg.mono ?_
        rintro e w2 ⟨rfl, hb2⟩
        have hB2 := hB1.trans (hb2.mono hB1.size)
        have k2 := k1.below hb2 k1.lt
        obtain ⟨q0, q1⟩ := k2.two
        clear k0 hB0 k1 hB1 hb2
        have HNU := Lib.hid fun (w' : World) (h : Below w2.heap.size w2 w') => hNU w' (hB2.trans (h.mono hB2.size))
        have HNV := Lib.hid fun (w' : World) (h : Below w2.heap.size w2 w') => hNV w' (hB2.trans (h.mono hB2.size))
        clear hNU hNV ha0 hab
        go_wp2
        refine wp_obs 20 [[], [0], [0, 1], [0, 1, 2], [0, 1, 2], [0, 1, 2], [0, 1, 2, 3, 4, 5], [0, 1, 2, 3, 4, 5, 6], [0, 1, 2, 3, 4, 5, 6, 7], [0, 1, 2, 3, 4, 5, 6, 7, 8], [0, 1, 2, 3, 4, 5, 6, 7, 8], [0, 1, 2, 3, 4, 5, 6, 7, 8], [0, 1, 2, 3, 4, 5, 6, 7, 8, 9, 10, 11], [0, 1, 2, 3, 4, 5, 6, 7, 8], [0, 1, 2, 3, 4, 5, 6, 7, 8], [0, 1, 2, 3, 4, 5, 6, 7, 8], [0, 1, 2, 3, 4, 5, 6, 7, 8, 13, 14, 15], [0, 1, 2, 3, 4, 5, 6, 7, 8, 9, 10, 11, 12, 13, 14, 15, 16], [0, 1, 2, 3, 4, 5, 6, 7, 8, 9, 10, 11, 12, 13, 14, 15, 16, 17], [0, 1, 2, 3, 4, 5, 6, 7, 8, 9, 10, 11, 12, 13, 14, 15, 16, 17, 18]] [VIs (.int .i64 (0)), VIs (.bool true), VIs (.bool true), VIs (.agg #[.int .i64 P, .slice A n c]), VIs (.slice X n cx), VIs (.slice X n cx), VIs (.int .i64 (a)), VIs (.bool false), VIs (.bool false), VIs (.agg #[.int .i64 P, .slice A n c]), VIs (.slice X n cx), VIs (.slice X n cx), VIs (.int .i64 (a)), VIs (.agg #[.int .i64 P, .slice A n c]), VIs (.slice Y n cy), VIs (.slice Y n cy), VIs (.int .i64 (b)), VIs (.bool true), VIs (.bool true), VIs (.bool true)] (fun w' => Blk w' w.heap.size 26 #[.int .i64 P, .slice A n c] ∧ Below w2.heap.size w2 w') (by kernel_rfl) (by kernel_rfl) (fun _ _ h hb => ⟨h.1.below hb h.1.lt, h.2.trans (hb.mono h.2.size)⟩) (⟨k2.drew, (Below.refl _ _).drew⟩) (fun x => ?_)
        refine obs_step (Eq.trans (by simp only [List.getElem?_toArray, List.getElem?_cons_zero]; exact rfl) rfl) rfl (fun w' hS hV K hK => ?_) ?_
        · obtain ⟨q0, q1⟩ := hS.1.two
          go_simp
          exact hK.out _ _ _ rfl rfl rfl (Below.refl _ _)
        simp only [List.setIfInBounds_toArray, List.set_cons_zero, List.set_cons_succ]
        refine obs_step (Eq.trans (by simp only [List.getElem?_toArray, List.getElem?_cons_succ, List.getElem?_cons_zero]; exact rfl) rfl) rfl (fun w' hS hV K hK => ?_) ?_
        · have e0 : x 0 = (.int .i64 (0)) := hV 0 (by decide)
          obtain ⟨q0, q1⟩ := hS.1.two
          go_simp
          exact hK.out _ _ _ rfl rfl rfl (Below.refl _ _)
        simp only [List.setIfInBounds_toArray, List.set_cons_zero, List.set_cons_succ]
        refine obs_step (Eq.trans (by simp only [List.getElem?_toArray, List.getElem?_cons_succ, List.getElem?_cons_zero]; exact rfl) rfl) rfl (fun w' hS hV K hK => ?_) ?_
        · have e0 : x 0 = (.int .i64 (0)) := hV 0 (by decide)
          have e1 : x 1 = (.bool true) := hV 1 (by decide)
          obtain ⟨q0, q1⟩ := hS.1.two
          go_simp
          exact hK.out _ _ _ rfl rfl rfl (Below.refl _ _)
        simp only [List.setIfInBounds_toArray, List.set_cons_zero, List.set_cons_succ]
        refine obs_step (Eq.trans (by simp only [List.getElem?_toArray, List.getElem?_cons_succ, List.getElem?_cons_zero]; exact rfl) rfl) rfl (fun w' hS hV K hK => ?_) ?_
        · have e0 : x 0 = (.int .i64 (0)) := hV 0 (by decide)
          have e1 : x 1 = (.bool true) := hV 1 (by decide)
          have e2 : x 2 = (.bool true) := hV 2 (by decide)
          obtain ⟨q0, q1⟩ := hS.1.two
          go_simp
          exact hK.out _ _ _ rfl rfl rfl (Below.refl _ _)
        simp only [List.setIfInBounds_toArray, List.set_cons_zero, List.set_cons_succ]
        refine obs_step (Eq.trans (by simp only [List.getElem?_toArray, List.getElem?_cons_succ, List.getElem?_cons_zero]; exact rfl) rfl) rfl (fun w' hS hV K hK => ?_) ?_
        · have e0 : x 0 = (.int .i64 (0)) := hV 0 (by decide)
          have e1 : x 1 = (.bool true) := hV 1 (by decide)
          have e2 : x 2 = (.bool true) := hV 2 (by decide)
          obtain ⟨q0, q1⟩ := hS.1.two
          go_simp
          exact hK.out _ _ _ rfl rfl rfl (Below.refl _ _)
        simp only [List.setIfInBounds_toArray, List.set_cons_zero, List.set_cons_succ]
        refine obs_step (Eq.trans (by simp only [List.getElem?_toArray, List.getElem?_cons_succ, List.getElem?_cons_zero]; exact rfl) rfl) rfl (fun w' hS hV K hK => ?_) ?_
        · have e0 : x 0 = (.int .i64 (0)) := hV 0 (by decide)
          have e1 : x 1 = (.bool true) := hV 1 (by decide)
          have e2 : x 2 = (.bool true) := hV 2 (by decide)
          obtain ⟨q0, q1⟩ := hS.1.two
          go_simp
          exact hK.out _ _ _ rfl rfl rfl (Below.refl _ _)
        simp only [List.setIfInBounds_toArray, List.set_cons_zero, List.set_cons_succ]
        refine obs_step (Eq.trans (by simp only [List.getElem?_toArray, List.getElem?_cons_succ, List.getElem?_cons_zero]; exact rfl) rfl) rfl (fun w' hS hV K hK => ?_) ?_
        · have e0 : x 0 = (.int .i64 (0)) := hV 0 (by decide)
          have e1 : x 1 = (.bool true) := hV 1 (by decide)
          have e2 : x 2 = (.bool true) := hV 2 (by decide)
          have e3 : x 3 = (.agg #[.int .i64 P, .slice A n c]) := hV 3 (by decide)
          have e4 : x 4 = (.slice X n cx) := hV 4 (by decide)
          have e5 : x 5 = (.slice X n cx) := hV 5 (by decide)
          obtain ⟨q0, q1⟩ := hS.1.two
          go_simp
          refine (HNU.out _ hS.2).mono ?_
          rintro e v1 ⟨rfl, hb⟩
          exact hK.out _ _ _ rfl rfl rfl hb
        simp only [List.setIfInBounds_toArray, List.set_cons_zero, List.set_cons_succ]
        refine obs_step (Eq.trans (by simp only [List.getElem?_toArray, List.getElem?_cons_succ, List.getElem?_cons_zero]; exact rfl) rfl) rfl (fun w' hS hV K hK => ?_) ?_
        · have e0 : x 0 = (.int .i64 (0)) := hV 0 (by decide)
          have e1 : x 1 = (.bool true) := hV 1 (by decide)
          have e2 : x 2 = (.bool true) := hV 2 (by decide)
          have e3 : x 3 = (.agg #[.int .i64 P, .slice A n c]) := hV 3 (by decide)
          have e4 : x 4 = (.slice X n cx) := hV 4 (by decide)
          have e5 : x 5 = (.slice X n cx) := hV 5 (by decide)
          have e6 : x 6 = (.int .i64 (a)) := hV 6 (by decide)
          obtain ⟨q0, q1⟩ := hS.1.two
          go_simp
          exact hK.out _ _ _ rfl rfl rfl (Below.refl _ _)
        simp only [List.setIfInBounds_toArray, List.set_cons_zero, List.set_cons_succ]
        refine obs_step (Eq.trans (by simp only [List.getElem?_toArray, List.getElem?_cons_succ, List.getElem?_cons_zero]; exact rfl) rfl) rfl (fun w' hS hV K hK => ?_) ?_
        · have e0 : x 0 = (.int .i64 (0)) := hV 0 (by decide)
          have e1 : x 1 = (.bool true) := hV 1 (by decide)
          have e2 : x 2 = (.bool true) := hV 2 (by decide)
          have e3 : x 3 = (.agg #[.int .i64 P, .slice A n c]) := hV 3 (by decide)
          have e4 : x 4 = (.slice X n cx) := hV 4 (by decide)
          have e5 : x 5 = (.slice X n cx) := hV 5 (by decide)
          have e6 : x 6 = (.int .i64 (a)) := hV 6 (by decide)
          have e7 : x 7 = (.bool false) := hV 7 (by decide)
          obtain ⟨q0, q1⟩ := hS.1.two
          go_simp
          exact hK.out _ _ _ rfl rfl rfl (Below.refl _ _)
        simp only [List.setIfInBounds_toArray, List.set_cons_zero, List.set_cons_succ]
        refine obs_step (Eq.trans (by simp only [List.getElem?_toArray, List.getElem?_cons_succ, List.getElem?_cons_zero]; exact rfl) rfl) rfl (fun w' hS hV K hK => ?_) ?_
        · have e0 : x 0 = (.int .i64 (0)) := hV 0 (by decide)
          have e1 : x 1 = (.bool true) := hV 1 (by decide)
          have e2 : x 2 = (.bool true) := hV 2 (by decide)
          have e3 : x 3 = (.agg #[.int .i64 P, .slice A n c]) := hV 3 (by decide)
          have e4 : x 4 = (.slice X n cx) := hV 4 (by decide)
          have e5 : x 5 = (.slice X n cx) := hV 5 (by decide)
          have e6 : x 6 = (.int .i64 (a)) := hV 6 (by decide)
          have e7 : x 7 = (.bool false) := hV 7 (by decide)
          have e8 : x 8 = (.bool false) := hV 8 (by decide)
          obtain ⟨q0, q1⟩ := hS.1.two
          go_simp
          exact hK.out _ _ _ rfl rfl rfl (Below.refl _ _)
        simp only [List.setIfInBounds_toArray, List.set_cons_zero, List.set_cons_succ]
        refine obs_step (Eq.trans (by simp only [List.getElem?_toArray, List.getElem?_cons_succ, List.getElem?_cons_zero]; exact rfl) rfl) rfl (fun w' hS hV K hK => ?_) ?_
        · have e0 : x 0 = (.int .i64 (0)) := hV 0 (by decide)
          have e1 : x 1 = (.bool true) := hV 1 (by decide)
          have e2 : x 2 = (.bool true) := hV 2 (by decide)
          have e3 : x 3 = (.agg #[.int .i64 P, .slice A n c]) := hV 3 (by decide)
          have e4 : x 4 = (.slice X n cx) := hV 4 (by decide)
          have e5 : x 5 = (.slice X n cx) := hV 5 (by decide)
          have e6 : x 6 = (.int .i64 (a)) := hV 6 (by decide)
          have e7 : x 7 = (.bool false) := hV 7 (by decide)
          have e8 : x 8 = (.bool false) := hV 8 (by decide)
          obtain ⟨q0, q1⟩ := hS.1.two
          go_simp
          exact hK.out _ _ _ rfl rfl rfl (Below.refl _ _)
        simp only [List.setIfInBounds_toArray, List.set_cons_zero, List.set_cons_succ]
        refine obs_step (Eq.trans (by simp only [List.getElem?_toArray, List.getElem?_cons_succ, List.getElem?_cons_zero]; exact rfl) rfl) rfl (fun w' hS hV K hK => ?_) ?_
        · have e0 : x 0 = (.int .i64 (0)) := hV 0 (by decide)
          have e1 : x 1 = (.bool true) := hV 1 (by decide)
          have e2 : x 2 = (.bool true) := hV 2 (by decide)
          have e3 : x 3 = (.agg #[.int .i64 P, .slice A n c]) := hV 3 (by decide)
          have e4 : x 4 = (.slice X n cx) := hV 4 (by decide)
          have e5 : x 5 = (.slice X n cx) := hV 5 (by decide)
          have e6 : x 6 = (.int .i64 (a)) := hV 6 (by decide)
          have e7 : x 7 = (.bool false) := hV 7 (by decide)
          have e8 : x 8 = (.bool false) := hV 8 (by decide)
          obtain ⟨q0, q1⟩ := hS.1.two
          go_simp
          exact hK.out _ _ _ rfl rfl rfl (Below.refl _ _)
        simp only [List.setIfInBounds_toArray, List.set_cons_zero, List.set_cons_succ]
        refine obs_step (Eq.trans (by simp only [List.getElem?_toArray, List.getElem?_cons_succ, List.getElem?_cons_zero]; exact rfl) rfl) rfl (fun w' hS hV K hK => ?_) ?_
        · have e0 : x 0 = (.int .i64 (0)) := hV 0 (by decide)
          have e1 : x 1 = (.bool true) := hV 1 (by decide)
          have e2 : x 2 = (.bool true) := hV 2 (by decide)
          have e3 : x 3 = (.agg #[.int .i64 P, .slice A n c]) := hV 3 (by decide)
          have e4 : x 4 = (.slice X n cx) := hV 4 (by decide)
          have e5 : x 5 = (.slice X n cx) := hV 5 (by decide)
          have e6 : x 6 = (.int .i64 (a)) := hV 6 (by decide)
          have e7 : x 7 = (.bool false) := hV 7 (by decide)
          have e8 : x 8 = (.bool false) := hV 8 (by decide)
          have e9 : x 9 = (.agg #[.int .i64 P, .slice A n c]) := hV 9 (by decide)
          have e10 : x 10 = (.slice X n cx) := hV 10 (by decide)
          have e11 : x 11 = (.slice X n cx) := hV 11 (by decide)
          obtain ⟨q0, q1⟩ := hS.1.two
          go_simp
          refine (HNU.out _ hS.2).mono ?_
          rintro e v1 ⟨rfl, hb⟩
          exact hK.out _ _ _ rfl rfl rfl hb
        simp only [List.setIfInBounds_toArray, List.set_cons_zero, List.set_cons_succ]
        refine obs_step (Eq.trans (by simp only [List.getElem?_toArray, List.getElem?_cons_succ, List.getElem?_cons_zero]; exact rfl) rfl) rfl (fun w' hS hV K hK => ?_) ?_
        · have e0 : x 0 = (.int .i64 (0)) := hV 0 (by decide)
          have e1 : x 1 = (.bool true) := hV 1 (by decide)
          have e2 : x 2 = (.bool true) := hV 2 (by decide)
          have e3 : x 3 = (.agg #[.int .i64 P, .slice A n c]) := hV 3 (by decide)
          have e4 : x 4 = (.slice X n cx) := hV 4 (by decide)
          have e5 : x 5 = (.slice X n cx) := hV 5 (by decide)
          have e6 : x 6 = (.int .i64 (a)) := hV 6 (by decide)
          have e7 : x 7 = (.bool false) := hV 7 (by decide)
          have e8 : x 8 = (.bool false) := hV 8 (by decide)
          obtain ⟨q0, q1⟩ := hS.1.two
          go_simp
          exact hK.out _ _ _ rfl rfl rfl (Below.refl _ _)
        simp only [List.setIfInBounds_toArray, List.set_cons_zero, List.set_cons_succ]
        refine obs_step (Eq.trans (by simp only [List.getElem?_toArray, List.getElem?_cons_succ, List.getElem?_cons_zero]; exact rfl) rfl) rfl (fun w' hS hV K hK => ?_) ?_
        · have e0 : x 0 = (.int .i64 (0)) := hV 0 (by decide)
          have e1 : x 1 = (.bool true) := hV 1 (by decide)
          have e2 : x 2 = (.bool true) := hV 2 (by decide)
          have e3 : x 3 = (.agg #[.int .i64 P, .slice A n c]) := hV 3 (by decide)
          have e4 : x 4 = (.slice X n cx) := hV 4 (by decide)
          have e5 : x 5 = (.slice X n cx) := hV 5 (by decide)
          have e6 : x 6 = (.int .i64 (a)) := hV 6 (by decide)
          have e7 : x 7 = (.bool false) := hV 7 (by decide)
          have e8 : x 8 = (.bool false) := hV 8 (by decide)
          obtain ⟨q0, q1⟩ := hS.1.two
          go_simp
          exact hK.out _ _ _ rfl rfl rfl (Below.refl _ _)
        simp only [List.setIfInBounds_toArray, List.set_cons_zero, List.set_cons_succ]
        refine obs_step (Eq.trans (by simp only [List.getElem?_toArray, List.getElem?_cons_succ, List.getElem?_cons_zero]; exact rfl) rfl) rfl (fun w' hS hV K hK => ?_) ?_
        · have e0 : x 0 = (.int .i64 (0)) := hV 0 (by decide)
          have e1 : x 1 = (.bool true) := hV 1 (by decide)
          have e2 : x 2 = (.bool true) := hV 2 (by decide)
          have e3 : x 3 = (.agg #[.int .i64 P, .slice A n c]) := hV 3 (by decide)
          have e4 : x 4 = (.slice X n cx) := hV 4 (by decide)
          have e5 : x 5 = (.slice X n cx) := hV 5 (by decide)
          have e6 : x 6 = (.int .i64 (a)) := hV 6 (by decide)
          have e7 : x 7 = (.bool false) := hV 7 (by decide)
          have e8 : x 8 = (.bool false) := hV 8 (by decide)
          obtain ⟨q0, q1⟩ := hS.1.two
          go_simp
          exact hK.out _ _ _ rfl rfl rfl (Below.refl _ _)
        simp only [List.setIfInBounds_toArray, List.set_cons_zero, List.set_cons_succ]
        refine obs_step (Eq.trans (by simp only [List.getElem?_toArray, List.getElem?_cons_succ, List.getElem?_cons_zero]; exact rfl) rfl) rfl (fun w' hS hV K hK => ?_) ?_
        · have e0 : x 0 = (.int .i64 (0)) := hV 0 (by decide)
          have e1 : x 1 = (.bool true) := hV 1 (by decide)
          have e2 : x 2 = (.bool true) := hV 2 (by decide)
          have e3 : x 3 = (.agg #[.int .i64 P, .slice A n c]) := hV 3 (by decide)
          have e4 : x 4 = (.slice X n cx) := hV 4 (by decide)
          have e5 : x 5 = (.slice X n cx) := hV 5 (by decide)
          have e6 : x 6 = (.int .i64 (a)) := hV 6 (by decide)
          have e7 : x 7 = (.bool false) := hV 7 (by decide)
          have e8 : x 8 = (.bool false) := hV 8 (by decide)
          have e13 : x 13 = (.agg #[.int .i64 P, .slice A n c]) := hV 13 (by decide)
          have e14 : x 14 = (.slice Y n cy) := hV 14 (by decide)
          have e15 : x 15 = (.slice Y n cy) := hV 15 (by decide)
          obtain ⟨q0, q1⟩ := hS.1.two
          go_simp
          refine (HNV.out _ hS.2).mono ?_
          rintro e v1 ⟨rfl, hb⟩
          exact hK.out _ _ _ rfl rfl rfl hb
        simp only [List.setIfInBounds_toArray, List.set_cons_zero, List.set_cons_succ]
        refine obs_step (Eq.trans (by simp only [List.getElem?_toArray, List.getElem?_cons_succ, List.getElem?_cons_zero]; exact rfl) rfl) rfl (fun w' hS hV K hK => ?_) ?_
        · have e0 : x 0 = (.int .i64 (0)) := hV 0 (by decide)
          have e1 : x 1 = (.bool true) := hV 1 (by decide)
          have e2 : x 2 = (.bool true) := hV 2 (by decide)
          have e3 : x 3 = (.agg #[.int .i64 P, .slice A n c]) := hV 3 (by decide)
          have e4 : x 4 = (.slice X n cx) := hV 4 (by decide)
          have e5 : x 5 = (.slice X n cx) := hV 5 (by decide)
          have e6 : x 6 = (.int .i64 (a)) := hV 6 (by decide)
          have e7 : x 7 = (.bool false) := hV 7 (by decide)
          have e8 : x 8 = (.bool false) := hV 8 (by decide)
          have e9 : x 9 = (.agg #[.int .i64 P, .slice A n c]) := hV 9 (by decide)
          have e10 : x 10 = (.slice X n cx) := hV 10 (by decide)
          have e11 : x 11 = (.slice X n cx) := hV 11 (by decide)
          have e12 : x 12 = (.int .i64 (a)) := hV 12 (by decide)
          have e13 : x 13 = (.agg #[.int .i64 P, .slice A n c]) := hV 13 (by decide)
          have e14 : x 14 = (.slice Y n cy) := hV 14 (by decide)
          have e15 : x 15 = (.slice Y n cy) := hV 15 (by decide)
          have e16 : x 16 = (.int .i64 (b)) := hV 16 (by decide)
          obtain ⟨q0, q1⟩ := hS.1.two
          go_simp
          exact hK.out _ _ _ rfl rfl rfl (Below.refl _ _)
        simp only [List.setIfInBounds_toArray, List.set_cons_zero, List.set_cons_succ]
        refine obs_step (Eq.trans (by simp only [List.getElem?_toArray, List.getElem?_cons_succ, List.getElem?_cons_zero]; exact rfl) rfl) rfl (fun w' hS hV K hK => ?_) ?_
        · have e0 : x 0 = (.int .i64 (0)) := hV 0 (by decide)
          have e1 : x 1 = (.bool true) := hV 1 (by decide)
          have e2 : x 2 = (.bool true) := hV 2 (by decide)
          have e3 : x 3 = (.agg #[.int .i64 P, .slice A n c]) := hV 3 (by decide)
          have e4 : x 4 = (.slice X n cx) := hV 4 (by decide)
          have e5 : x 5 = (.slice X n cx) := hV 5 (by decide)
          have e6 : x 6 = (.int .i64 (a)) := hV 6 (by decide)
          have e7 : x 7 = (.bool false) := hV 7 (by decide)
          have e8 : x 8 = (.bool false) := hV 8 (by decide)
          have e9 : x 9 = (.agg #[.int .i64 P, .slice A n c]) := hV 9 (by decide)
          have e10 : x 10 = (.slice X n cx) := hV 10 (by decide)
          have e11 : x 11 = (.slice X n cx) := hV 11 (by decide)
          have e12 : x 12 = (.int .i64 (a)) := hV 12 (by decide)
          have e13 : x 13 = (.agg #[.int .i64 P, .slice A n c]) := hV 13 (by decide)
          have e14 : x 14 = (.slice Y n cy) := hV 14 (by decide)
          have e15 : x 15 = (.slice Y n cy) := hV 15 (by decide)
          have e16 : x 16 = (.int .i64 (b)) := hV 16 (by decide)
          have e17 : x 17 = (.bool true) := hV 17 (by decide)
          obtain ⟨q0, q1⟩ := hS.1.two
          go_simp
          exact hK.out _ _ _ rfl rfl rfl (Below.refl _ _)
        simp only [List.setIfInBounds_toArray, List.set_cons_zero, List.set_cons_succ]
        refine obs_step (Eq.trans (by simp only [List.getElem?_toArray, List.getElem?_cons_succ, List.getElem?_cons_zero]; exact rfl) rfl) rfl (fun w' hS hV K hK => ?_) ?_
        · have e0 : x 0 = (.int .i64 (0)) := hV 0 (by decide)
          have e1 : x 1 = (.bool true) := hV 1 (by decide)
          have e2 : x 2 = (.bool true) := hV 2 (by decide)
          have e3 : x 3 = (.agg #[.int .i64 P, .slice A n c]) := hV 3 (by decide)
          have e4 : x 4 = (.slice X n cx) := hV 4 (by decide)
          have e5 : x 5 = (.slice X n cx) := hV 5 (by decide)
          have e6 : x 6 = (.int .i64 (a)) := hV 6 (by decide)
          have e7 : x 7 = (.bool false) := hV 7 (by decide)
          have e8 : x 8 = (.bool false) := hV 8 (by decide)
          have e9 : x 9 = (.agg #[.int .i64 P, .slice A n c]) := hV 9 (by decide)
          have e10 : x 10 = (.slice X n cx) := hV 10 (by decide)
          have e11 : x 11 = (.slice X n cx) := hV 11 (by decide)
          have e12 : x 12 = (.int .i64 (a)) := hV 12 (by decide)
          have e13 : x 13 = (.agg #[.int .i64 P, .slice A n c]) := hV 13 (by decide)
          have e14 : x 14 = (.slice Y n cy) := hV 14 (by decide)
          have e15 : x 15 = (.slice Y n cy) := hV 15 (by decide)
          have e16 : x 16 = (.int .i64 (b)) := hV 16 (by decide)
          have e17 : x 17 = (.bool true) := hV 17 (by decide)
          have e18 : x 18 = (.bool true) := hV 18 (by decide)
          obtain ⟨q0, q1⟩ := hS.1.two
          go_simp
          exact hK.out _ _ _ rfl rfl rfl (Below.refl _ _)
        simp only [List.setIfInBounds_toArray, List.set_cons_zero, List.set_cons_succ]
        refine fun w' hS hV => ?_
        have e0 : x 0 = (.int .i64 (0)) := hV 0 (by decide)
        have e1 : x 1 = (.bool true) := hV 1 (by decide)
        have e2 : x 2 = (.bool true) := hV 2 (by decide)
        have e3 : x 3 = (.agg #[.int .i64 P, .slice A n c]) := hV 3 (by decide)
        have e4 : x 4 = (.slice X n cx) := hV 4 (by decide)
        have e5 : x 5 = (.slice X n cx) := hV 5 (by decide)
        have e6 : x 6 = (.int .i64 (a)) := hV 6 (by decide)
        have e7 : x 7 = (.bool false) := hV 7 (by decide)
        have e8 : x 8 = (.bool false) := hV 8 (by decide)
        have e9 : x 9 = (.agg #[.int .i64 P, .slice A n c]) := hV 9 (by decide)
        have e10 : x 10 = (.slice X n cx) := hV 10 (by decide)
        have e11 : x 11 = (.slice X n cx) := hV 11 (by decide)
        have e12 : x 12 = (.int .i64 (a)) := hV 12 (by decide)
        have e13 : x 13 = (.agg #[.int .i64 P, .slice A n c]) := hV 13 (by decide)
        have e14 : x 14 = (.slice Y n cy) := hV 14 (by decide)
        have e15 : x 15 = (.slice Y n cy) := hV 15 (by decide)
        have e16 : x 16 = (.int .i64 (b)) := hV 16 (by decide)
        have e17 : x 17 = (.bool true) := hV 17 (by decide)
        have e18 : x 18 = (.bool true) := hV 18 (by decide)
        have e19 : x 19 = (.bool true) := hV 19 (by decide)
        simp only [e0, e1, e2, e3, e4, e5, e6, e7, e8, e9, e10, e11, e12, e13, e14, e15, e16, e17, e18, e19]
        clear e0 e1 e2 e3 e4 e5 e6 e7 e8 e9 e10 e11 e12 e13 e14 e15 e16 e17 e18 e19
        refine wpAny_done (by kernel_rfl) ?_ _
        obtain ⟨k4, hb4⟩ := hS
        obtain ⟨w4, rfl⟩ : ∃ W, W = w' := ⟨_, rfl⟩
        have hB4 := hB2.trans (hb4.mono hB2.size)
        clear k2 hb4 q0 q1
        obtain ⟨q0, q1⟩ := k4.two
        go_wp2
        go_ret2
        exact noRow3 (by rw [vbR_bad (by rw [HC.out]; decide), HC.out]) hB4
  · obtain ⟨r, hr⟩ : ∃ r, r = codeVb P sq [u, v] := ⟨_, rfl⟩
    have HC : Hid (codeVB P sq u v = r) := Lib.hid (by unfold codeVB; rw [if_neg hr0, hr])
    have HRN : Hid (¬ r = 0) := Lib.hid (by rw [hr]; exact hr0)
    have b0 : (r != 0) = true := code_ne (by rw [hr]; exact hr0)
    have b1 : (r == 0) = false := by simp; rw [hr]; exact hr0
    rw [← hr] at hreg
    clear hr hr0
    go_enter Tryz.func34, Tryz.ntmps34
    go_wp2_with fail
    refine hreg.mono ?_
    rintro e w2 ⟨rfl, hb2⟩
    have hB2 := hB1.trans (hb2.mono hB1.size)
    have k2 := k1.below hb2 k1.lt
    obtain ⟨q0, q1⟩ := k2.two
    clear k0 hB0 k1 hB1 hb2
    go_wp2
    refine wp_obs 20 [[], [0], [0, 1], [0, 1, 2], [0, 1, 2], [0, 1, 2], [0, 1, 2, 3, 4, 5], [0, 1, 2, 3, 4, 5, 6], [0, 1, 2, 3, 4, 5, 6, 7], [0, 1, 2, 3, 4, 5, 6, 7, 8], [0, 1, 2, 3, 4, 5, 6, 7, 8], [0, 1, 2, 3, 4, 5, 6, 7, 8], [0, 1, 2, 3, 4, 5, 6, 7, 8, 9, 10, 11], [0, 1, 2, 3, 4, 5, 6, 7, 8], [0, 1, 2, 3, 4, 5, 6, 7, 8], [0, 1, 2, 3, 4, 5, 6, 7, 8], [0, 1, 2, 3, 4, 5, 6, 7, 8, 13, 14, 15], [0, 1, 2, 3, 4, 5, 6, 7, 8, 9, 10, 11, 12, 13, 14, 15, 16], [0, 1, 2, 3, 4, 5, 6, 7, 8, 9, 10, 11, 12, 13, 14, 15, 16, 17], [0, 1, 2, 3, 4, 5, 6, 7, 8, 9, 10, 11, 12, 13, 14, 15, 16, 17, 18]] [VIs (.int .i64 (r)), VIs (.bool false), VIs (.bool false), VIs undef, VIs undef, VIs undef, VIs undef, VIs undef, VIs undef, VIs undef, VIs undef, VIs undef, VIs undef, VIs undef, VIs undef, VIs undef, VIs undef, VIs undef, VIs undef, VIs (.bool false)] (fun w' => Blk w' w.heap.size 26 #[.int .i64 P, .slice A n c] ∧ Below w2.heap.size w2 w') (by kernel_rfl) (by kernel_rfl) (fun _ _ h hb => ⟨h.1.below hb h.1.lt, h.2.trans (hb.mono h.2.size)⟩) (⟨k2.drew, (Below.refl _ _).drew⟩) (fun x => ?_)
    refine obs_step (Eq.trans (by simp only [List.getElem?_toArray, List.getElem?_cons_zero]; exact rfl) rfl) rfl (fun w' hS hV K hK => ?_) ?_
    · obtain ⟨q0, q1⟩ := hS.1.two
      go_simp
      exact hK.out _ _ _ rfl rfl rfl (Below.refl _ _)
    simp only [List.setIfInBounds_toArray, List.set_cons_zero, List.set_cons_succ]
    refine obs_step (Eq.trans (by simp only [List.getElem?_toArray, List.getElem?_cons_succ, List.getElem?_cons_zero]; exact rfl) rfl) rfl (fun w' hS hV K hK => ?_) ?_
    · have e0 : x 0 = (.int .i64 (r)) := hV 0 (by decide)
      obtain ⟨q0, q1⟩ := hS.1.two
      go_simp
      exact hK.out _ _ _ rfl rfl rfl (Below.refl _ _)
    simp only [List.setIfInBounds_toArray, List.set_cons_zero, List.set_cons_succ]
    refine obs_step (Eq.trans (by simp only [List.getElem?_toArray, List.getElem?_cons_succ, List.getElem?_cons_zero]; exact rfl) rfl) rfl (fun w' hS hV K hK => ?_) ?_
    · have e0 : x 0 = (.int .i64 (r)) := hV 0 (by decide)
      have e1 : x 1 = (.bool false) := hV 1 (by decide)
      obtain ⟨q0, q1⟩ := hS.1.two
      go_simp
      exact hK.out _ _ _ rfl rfl rfl (Below.refl _ _)
    simp only [List.setIfInBounds_toArray, List.set_cons_zero, List.set_cons_succ]
    refine obs_step (Eq.trans (by simp only [List.getElem?_toArray, List.getElem?_cons_succ, List.getElem?_cons_zero]; exact rfl) rfl) rfl (fun w' hS hV K hK => ?_) ?_
    · have e0 : x 0 = (.int .i64 (r)) := hV 0 (by decide)
      have e1 : x 1 = (.bool false) := hV 1 (by decide)
      have e2 : x 2 = (.bool false) := hV 2 (by decide)
      obtain ⟨q0, q1⟩ := hS.1.two
      go_simp
      exact hK.out _ _ _ rfl rfl rfl (Below.refl _ _)
    simp only [List.setIfInBounds_toArray, List.set_cons_zero, List.set_cons_succ]
    refine obs_step (Eq.trans (by simp only [List.getElem?_toArray, List.getElem?_cons_succ, List.getElem?_cons_zero]; exact rfl) rfl) rfl (fun w' hS hV K hK => ?_) ?_
    · have e0 : x 0 = (.int .i64 (r)) := hV 0 (by decide)
      have e1 : x 1 = (.bool false) := hV 1 (by decide)
      have e2 : x 2 = (.bool false) := hV 2 (by decide)
      obtain ⟨q0, q1⟩ := hS.1.two
      go_simp
      exact hK.out _ _ _ rfl rfl rfl (Below.refl _ _)
    simp only [List.setIfInBounds_toArray, List.set_cons_zero, List.set_cons_succ]
    refine obs_step (Eq.trans (by simp only [List.getElem?_toArray, List.getElem?_cons_succ, List.getElem?_cons_zero]; exact rfl) rfl) rfl (fun w' hS hV K hK => ?_) ?_
    · have e0 : x 0 = (.int .i64 (r)) := hV 0 (by decide)
      have e1 : x 1 = (.bool false) := hV 1 (by decide)
      have e2 : x 2 = (.bool false) := hV 2 (by decide)
      obtain ⟨q0, q1⟩ := hS.1.two
      go_simp
      exact hK.out _ _ _ rfl rfl rfl (Below.refl _ _)
    simp only [List.setIfInBounds_toArray, List.set_cons_zero, List.set_cons_succ]
    refine obs_step (Eq.trans (by simp only [List.getElem?_toArray, List.getElem?_cons_succ, List.getElem?_cons_zero]; exact rfl) rfl) rfl (fun w' hS hV K hK => ?_) ?_
    · have e0 : x 0 = (.int .i64 (r)) := hV 0 (by decide)
      have e1 : x 1 = (.bool false) := hV 1 (by decide)
      have e2 : x 2 = (.bool false) := hV 2 (by decide)
      have e3 : x 3 = undef := hV 3 (by decide)
      have e4 : x 4 = undef := hV 4 (by decide)
      have e5 : x 5 = undef := hV 5 (by decide)
      obtain ⟨q0, q1⟩ := hS.1.two
      go_simp
      exact hK.out _ _ _ rfl rfl rfl (Below.refl _ _)
    simp only [List.setIfInBounds_toArray, List.set_cons_zero, List.set_cons_succ]
    refine obs_step (Eq.trans (by simp only [List.getElem?_toArray, List.getElem?_cons_succ, List.getElem?_cons_zero]; exact rfl) rfl) rfl (fun w' hS hV K hK => ?_) ?_
    · have e0 : x 0 = (.int .i64 (r)) := hV 0 (by decide)
      have e1 : x 1 = (.bool false) := hV 1 (by decide)
      have e2 : x 2 = (.bool false) := hV 2 (by decide)
      have e3 : x 3 = undef := hV 3 (by decide)
      have e4 : x 4 = undef := hV 4 (by decide)
      have e5 : x 5 = undef := hV 5 (by decide)
      have e6 : x 6 = undef := hV 6 (by decide)
      obtain ⟨q0, q1⟩ := hS.1.two
      go_simp
      exact hK.out _ _ _ rfl rfl rfl (Below.refl _ _)
    simp only [List.setIfInBounds_toArray, List.set_cons_zero, List.set_cons_succ]
    refine obs_step (Eq.trans (by simp only [List.getElem?_toArray, List.getElem?_cons_succ, List.getElem?_cons_zero]; exact rfl) rfl) rfl (fun w' hS hV K hK => ?_) ?_
    · have e0 : x 0 = (.int .i64 (r)) := hV 0 (by decide)
      have e1 : x 1 = (.bool false) := hV 1 (by decide)
      have e2 : x 2 = (.bool false) := hV 2 (by decide)
      have e3 : x 3 = undef := hV 3 (by decide)
      have e4 : x 4 = undef := hV 4 (by decide)
      have e5 : x 5 = undef := hV 5 (by decide)
      have e6 : x 6 = undef := hV 6 (by decide)
      have e7 : x 7 = undef := hV 7 (by decide)
      obtain ⟨q0, q1⟩ := hS.1.two
      go_simp
      exact hK.out _ _ _ rfl rfl rfl (Below.refl _ _)
    simp only [List.setIfInBounds_toArray, List.set_cons_zero, List.set_cons_succ]
    refine obs_step (Eq.trans (by simp only [List.getElem?_toArray, List.getElem?_cons_succ, List.getElem?_cons_zero]; exact rfl) rfl) rfl (fun w' hS hV K hK => ?_) ?_
    · have e0 : x 0 = (.int .i64 (r)) := hV 0 (by decide)
      have e1 : x 1 = (.bool false) := hV 1 (by decide)
      have e2 : x 2 = (.bool false) := hV 2 (by decide)
      have e3 : x 3 = undef := hV 3 (by decide)
      have e4 : x 4 = undef := hV 4 (by decide)
      have e5 : x 5 = undef := hV 5 (by decide)
      have e6 : x 6 = undef := hV 6 (by decide)
      have e7 : x 7 = undef := hV 7 (by decide)
      have e8 : x 8 = undef := hV 8 (by decide)
      obtain ⟨q0, q1⟩ := hS.1.two
      go_simp
      exact hK.out _ _ _ rfl rfl rfl (Below.refl _ _)
    simp only [List.setIfInBounds_toArray, List.set_cons_zero, List.set_cons_succ]
    refine obs_step (Eq.trans (by simp only [List.getElem?_toArray, List.getElem?_cons_succ, List.getElem?_cons_zero]; exact rfl) rfl) rfl (fun w' hS hV K hK => ?_) ?_
    · have e0 : x 0 = (.int .i64 (r)) := hV 0 (by decide)
      have e1 : x 1 = (.bool false) := hV 1 (by decide)
      have e2 : x 2 = (.bool false) := hV 2 (by decide)
      have e3 : x 3 = undef := hV 3 (by decide)
      have e4 : x 4 = undef := hV 4 (by decide)
      have e5 : x 5 = undef := hV 5 (by decide)
      have e6 : x 6 = undef := hV 6 (by decide)
      have e7 : x 7 = undef := hV 7 (by decide)
      have e8 : x 8 = undef := hV 8 (by decide)
      obtain ⟨q0, q1⟩ := hS.1.two
      go_simp
      exact hK.out _ _ _ rfl rfl rfl (Below.refl _ _)
    simp only [List.setIfInBounds_toArray, List.set_cons_zero, List.set_cons_succ]
    refine obs_step (Eq.trans (by simp only [List.getElem?_toArray, List.getElem?_cons_succ, List.getElem?_cons_zero]; exact rfl) rfl) rfl (fun w' hS hV K hK => ?_) ?_
    · have e0 : x 0 = (.int .i64 (r)) := hV 0 (by decide)
      have e1 : x 1 = (.bool false) := hV 1 (by decide)
      have e2 : x 2 = (.bool false) := hV 2 (by decide)
      have e3 : x 3 = undef := hV 3 (by decide)
      have e4 : x 4 = undef := hV 4 (by decide)
      have e5 : x 5 = undef := hV 5 (by decide)
      have e6 : x 6 = undef := hV 6 (by decide)
      have e7 : x 7 = undef := hV 7 (by decide)
      have e8 : x 8 = undef := hV 8 (by decide)
      obtain ⟨q0, q1⟩ := hS.1.two
      go_simp
      exact hK.out _ _ _ rfl rfl rfl (Below.refl _ _)
    simp only [List.setIfInBounds_toArray, List.set_cons_zero, List.set_cons_succ]
    refine obs_step (Eq.trans (by simp only [List.getElem?_toArray, List.getElem?_cons_succ, List.getElem?_cons_zero]; exact rfl) rfl) rfl (fun w' hS hV K hK => ?_) ?_
    · have e0 : x 0 = (.int .i64 (r)) := hV 0 (by decide)
      have e1 : x 1 = (.bool false) := hV 1 (by decide)
      have e2 : x 2 = (.bool false) := hV 2 (by decide)
      have e3 : x 3 = undef := hV 3 (by decide)
      have e4 : x 4 = undef := hV 4 (by decide)
      have e5 : x 5 = undef := hV 5 (by decide)
      have e6 : x 6 = undef := hV 6 (by decide)
      have e7 : x 7 = undef := hV 7 (by decide)
      have e8 : x 8 = undef := hV 8 (by decide)
      have e9 : x 9 = undef := hV 9 (by decide)
      have e10 : x 10 = undef := hV 10 (by decide)
      have e11 : x 11 = undef := hV 11 (by decide)
      obtain ⟨q0, q1⟩ := hS.1.two
      go_simp
      exact hK.out _ _ _ rfl rfl rfl (Below.refl _ _)
    simp only [List.setIfInBounds_toArray, List.set_cons_zero, List.set_cons_succ]
    refine obs_step (Eq.trans (by simp only [List.getElem?_toArray, List.getElem?_cons_succ, List.getElem?_cons_zero]; exact rfl) rfl) rfl (fun w' hS hV K hK => ?_) ?_
    · have e0 : x 0 = (.int .i64 (r)) := hV 0 (by decide)
      have e1 : x 1 = (.bool false) := hV 1 (by decide)
      have e2 : x 2 = (.bool false) := hV 2 (by decide)
      have e3 : x 3 = undef := hV 3 (by decide)
      have e4 : x 4 = undef := hV 4 (by decide)
      have e5 : x 5 = undef := hV 5 (by decide)
      have e6 : x 6 = undef := hV 6 (by decide)
      have e7 : x 7 = undef := hV 7 (by decide)
      have e8 : x 8 = undef := hV 8 (by decide)
      obtain ⟨q0, q1⟩ := hS.1.two
      go_simp
      exact hK.out _ _ _ rfl rfl rfl (Below.refl _ _)
    simp only [List.setIfInBounds_toArray, List.set_cons_zero, List.set_cons_succ]
    refine obs_step (Eq.trans (by simp only [List.getElem?_toArray, List.getElem?_cons_succ, List.getElem?_cons_zero]; exact rfl) rfl) rfl (fun w' hS hV K hK => ?_) ?_
    · have e0 : x 0 = (.int .i64 (r)) := hV 0 (by decide)
      have e1 : x 1 = (.bool false) := hV 1 (by decide)
      have e2 : x 2 = (.bool false) := hV 2 (by decide)
      have e3 : x 3 = undef := hV 3 (by decide)
      have e4 : x 4 = undef := hV 4 (by decide)
      have e5 : x 5 = undef := hV 5 (by decide)
      have e6 : x 6 = undef := hV 6 (by decide)
      have e7 : x 7 = undef := hV 7 (by decide)
      have e8 : x 8 = undef := hV 8 (by decide)
      obtain ⟨q0, q1⟩ := hS.1.two
      go_simp
      exact hK.out _ _ _ rfl rfl rfl (Below.refl _ _)
    simp only [List.setIfInBounds_toArray, List.set_cons_zero, List.set_cons_succ]
    refine obs_step (Eq.trans (by simp only [List.getElem?_toArray, List.getElem?_cons_succ, List.getElem?_cons_zero]; exact rfl) rfl) rfl (fun w' hS hV K hK => ?_) ?_
    · have e0 : x 0 = (.int .i64 (r)) := hV 0 (by decide)
      have e1 : x 1 = (.bool false) := hV 1 (by decide)
      have e2 : x 2 = (.bool false) := hV 2 (by decide)
      have e3 : x 3 = undef := hV 3 (by decide)
      have e4 : x 4 = undef := hV 4 (by decide)
      have e5 : x 5 = undef := hV 5 (by decide)
      have e6 : x 6 = undef := hV 6 (by decide)
      have e7 : x 7 = undef := hV 7 (by decide)
      have e8 : x 8 = undef := hV 8 (by decide)
      obtain ⟨q0, q1⟩ := hS.1.two
      go_simp
      exact hK.out _ _ _ rfl rfl rfl (Below.refl _ _)
    simp only [List.setIfInBounds_toArray, List.set_cons_zero, List.set_cons_succ]
    refine obs_step (Eq.trans (by simp only [List.getElem?_toArray, List.getElem?_cons_succ, List.getElem?_cons_zero]; exact rfl) rfl) rfl (fun w' hS hV K hK => ?_) ?_
    · have e0 : x 0 = (.int .i64 (r)) := hV 0 (by decide)
      have e1 : x 1 = (.bool false) := hV 1 (by decide)
      have e2 : x 2 = (.bool false) := hV 2 (by decide)
      have e3 : x 3 = undef := hV 3 (by decide)
      have e4 : x 4 = undef := hV 4 (by decide)
      have e5 : x 5 = undef := hV 5 (by decide)
      have e6 : x 6 = undef := hV 6 (by decide)
      have e7 : x 7 = undef := hV 7 (by decide)
      have e8 : x 8 = undef := hV 8 (by decide)
      have e13 : x 13 = undef := hV 13 (by decide)
      have e14 : x 14 = undef := hV 14 (by decide)
      have e15 : x 15 = undef := hV 15 (by decide)
      obtain ⟨q0, q1⟩ := hS.1.two
      go_simp
      exact hK.out _ _ _ rfl rfl rfl (Below.refl _ _)
    simp only [List.setIfInBounds_toArray, List.set_cons_zero, List.set_cons_succ]
    refine obs_step (Eq.trans (by simp only [List.getElem?_toArray, List.getElem?_cons_succ, List.getElem?_cons_zero]; exact rfl) rfl) rfl (fun w' hS hV K hK => ?_) ?_
    · have e0 : x 0 = (.int .i64 (r)) := hV 0 (by decide)
      have e1 : x 1 = (.bool false) := hV 1 (by decide)
      have e2 : x 2 = (.bool false) := hV 2 (by decide)
      have e3 : x 3 = undef := hV 3 (by decide)
      have e4 : x 4 = undef := hV 4 (by decide)
      have e5 : x 5 = undef := hV 5 (by decide)
      have e6 : x 6 = undef := hV 6 (by decide)
      have e7 : x 7 = undef := hV 7 (by decide)
      have e8 : x 8 = undef := hV 8 (by decide)
      have e9 : x 9 = undef := hV 9 (by decide)
      have e10 : x 10 = undef := hV 10 (by decide)
      have e11 : x 11 = undef := hV 11 (by decide)
      have e12 : x 12 = undef := hV 12 (by decide)
      have e13 : x 13 = undef := hV 13 (by decide)
      have e14 : x 14 = undef := hV 14 (by decide)
      have e15 : x 15 = undef := hV 15 (by decide)
      have e16 : x 16 = undef := hV 16 (by decide)
      obtain ⟨q0, q1⟩ := hS.1.two
      go_simp
      exact hK.out _ _ _ rfl rfl rfl (Below.refl _ _)
    simp only [List.setIfInBounds_toArray, List.set_cons_zero, List.set_cons_succ]
    refine obs_step (Eq.trans (by simp only [List.getElem?_toArray, List.getElem?_cons_succ, List.getElem?_cons_zero]; exact rfl) rfl) rfl (fun w' hS hV K hK => ?_) ?_
    · have e0 : x 0 = (.int .i64 (r)) := hV 0 (by decide)
      have e1 : x 1 = (.bool false) := hV 1 (by decide)
      have e2 : x 2 = (.bool false) := hV 2 (by decide)
      have e3 : x 3 = undef := hV 3 (by decide)
      have e4 : x 4 = undef := hV 4 (by decide)
      have e5 : x 5 = undef := hV 5 (by decide)
      have e6 : x 6 = undef := hV 6 (by decide)
      have e7 : x 7 = undef := hV 7 (by decide)
      have e8 : x 8 = undef := hV 8 (by decide)
      have e9 : x 9 = undef := hV 9 (by decide)
      have e10 : x 10 = undef := hV 10 (by decide)
      have e11 : x 11 = undef := hV 11 (by decide)
      have e12 : x 12 = undef := hV 12 (by decide)
      have e13 : x 13 = undef := hV 13 (by decide)
      have e14 : x 14 = undef := hV 14 (by decide)
      have e15 : x 15 = undef := hV 15 (by decide)
      have e16 : x 16 = undef := hV 16 (by decide)
      have e17 : x 17 = undef := hV 17 (by decide)
      obtain ⟨q0, q1⟩ := hS.1.two
      go_simp
      exact hK.out _ _ _ rfl rfl rfl (Below.refl _ _)
    simp only [List.setIfInBounds_toArray, List.set_cons_zero, List.set_cons_succ]
    refine obs_step (Eq.trans (by simp only [List.getElem?_toArray, List.getElem?_cons_succ, List.getElem?_cons_zero]; exact rfl) rfl) rfl (fun w' hS hV K hK => ?_) ?_
    · have e0 : x 0 = (.int .i64 (r)) := hV 0 (by decide)
      have e1 : x 1 = (.bool false) := hV 1 (by decide)
      have e2 : x 2 = (.bool false) := hV 2 (by decide)
      have e3 : x 3 = undef := hV 3 (by decide)
      have e4 : x 4 = undef := hV 4 (by decide)
      have e5 : x 5 = undef := hV 5 (by decide)
      have e6 : x 6 = undef := hV 6 (by decide)
      have e7 : x 7 = undef := hV 7 (by decide)
      have e8 : x 8 = undef := hV 8 (by decide)
      have e9 : x 9 = undef := hV 9 (by decide)
      have e10 : x 10 = undef := hV 10 (by decide)
      have e11 : x 11 = undef := hV 11 (by decide)
      have e12 : x 12 = undef := hV 12 (by decide)
      have e13 : x 13 = undef := hV 13 (by decide)
      have e14 : x 14 = undef := hV 14 (by decide)
      have e15 : x 15 = undef := hV 15 (by decide)
      have e16 : x 16 = undef := hV 16 (by decide)
      have e17 : x 17 = undef := hV 17 (by decide)
      have e18 : x 18 = undef := hV 18 (by decide)
      obtain ⟨q0, q1⟩ := hS.1.two
      go_simp
      exact hK.out _ _ _ rfl rfl rfl (Below.refl _ _)
    simp only [List.setIfInBounds_toArray, List.set_cons_zero, List.set_cons_succ]
    refine fun w' hS hV => ?_
    have e0 : x 0 = (.int .i64 (r)) := hV 0 (by decide)
    have e1 : x 1 = (.bool false) := hV 1 (by decide)
    have e2 : x 2 = (.bool false) := hV 2 (by decide)
    have e3 : x 3 = undef := hV 3 (by decide)
    have e4 : x 4 = undef := hV 4 (by decide)
    have e5 : x 5 = undef := hV 5 (by decide)
    have e6 : x 6 = undef := hV 6 (by decide)
    have e7 : x 7 = undef := hV 7 (by decide)
    have e8 : x 8 = undef := hV 8 (by decide)
    have e9 : x 9 = undef := hV 9 (by decide)
    have e10 : x 10 = undef := hV 10 (by decide)
    have e11 : x 11 = undef := hV 11 (by decide)
    have e12 : x 12 = undef := hV 12 (by decide)
    have e13 : x 13 = undef := hV 13 (by decide)
    have e14 : x 14 = undef := hV 14 (by decide)
    have e15 : x 15 = undef := hV 15 (by decide)
    have e16 : x 16 = undef := hV 16 (by decide)
    have e17 : x 17 = undef := hV 17 (by decide)
    have e18 : x 18 = undef := hV 18 (by decide)
    have e19 : x 19 = (.bool false) := hV 19 (by decide)
    simp only [e0, e1, e2, e3, e4, e5, e6, e7, e8, e9, e10, e11, e12, e13, e14, e15, e16, e17, e18, e19]
    clear e0 e1 e2 e3 e4 e5 e6 e7 e8 e9 e10 e11 e12 e13 e14 e15 e16 e17 e18 e19
    refine wpAny_done (by kernel_rfl) ?_ _
    obtain ⟨k4, hb4⟩ := hS
    obtain ⟨w4, rfl⟩ : ∃ W, W = w' := ⟨_, rfl⟩
    have hB4 := hB2.trans (hb4.mono hB2.size)
    clear k2 hb4 q0 q1
    obtain ⟨q0, q1⟩ := k4.two
    go_wp2
    go_ret2
    exact noRow3 (by rw [vbR_bad (by rw [HC.out]; exact HRN.out), HC.out]) hB4
end Go.Proofs.YtggigolkncckoaaGreat
