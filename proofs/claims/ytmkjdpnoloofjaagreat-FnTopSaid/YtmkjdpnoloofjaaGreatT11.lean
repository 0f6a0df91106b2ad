/-
  LawFnTop: part 11 of the texts that the proof needs. No condition.
-/
import Derived.Test.YtmkjdpnoloofjaaGreatT10
namespace Go.Proofs.YtmkjdpnoloofjaaGreat
open Go.RowKit
/-- MatrixOfBivector. -/
def mobR (P : Int) (sq xs : List Int) : List (List Int) × Int := if codeB P sq [xs] = 0 then (matL P sq sq.length xs, 0) else ([], codeB P sq [xs])
theorem mobR_ok {P : Int} {sq xs : List Int} (h : codeB P sq [xs] = 0) : mobR P sq xs = (matL P sq sq.length xs, 0) := by unfold mobR; rw [if_pos h]
theorem mobR_bad {P : Int} {sq xs : List Int} (h : ¬ codeB P sq [xs] = 0) : mobR P sq xs = ([], codeB P sq [xs]) := by unfold mobR; rw [if_neg h]
theorem noMat {w w' : World} {R : List (List Int) × Int} {x : Int} (hR : R = ([], x)) (hB : Below w.heap.size w w') :
    ∃ (A' : Option Addr) (k c' : Nat), Ending.returned (.tuple #[.slice none 0 0, .int .i64 x]) = .returned (.tuple #[.slice A' k c', .int .i64 R.2]) ∧ MkII w w' A' k c' R.1 := by
 subst hR
 exact ⟨none, 0, 0, rfl, MkII.nil hB⟩
theorem aMat {w w' : World} {R : List (List Int) × Int} {A : Option Addr} {k c : Nat} {L : List (List Int)} {x : Int} (hR : R = (L, x)) (hM : MkII w w' A k c L) :
    ∃ (A' : Option Addr) (k' c' : Nat), Ending.returned (.tuple #[.slice A k c, .int .i64 x]) = .returned (.tuple #[.slice A' k' c', .int .i64 R.2]) ∧ MkII w w' A' k' c' R.1 := by
 subst hR
 exact ⟨_, _, _, rfl, hM⟩
set_option maxHeartbeats 1600000 in
set_option maxRecDepth 8000 in
theorem MatrixOfBivector_any (P : Int) (A : Option Addr) (n c : Nat) (sq : List Int) (X : Option Addr) (m cx : Nat) (xs : List Int) (w : World) (hn : n ≤ 1048576) (hm : m ≤ 1048576) (ha : Rd w A n (ints sq)) (hx : Rd w X m (ints xs)) (hcx : m ≤ cx) :
    Calls Tryz.prog 41 #[.agg #[.int .i64 P, .slice A n c], .slice X m cx] w fun e w' => ∃ (A' : Option Addr) (k c' : Nat), e = .returned (.tuple #[.slice A' k c', .int .i64 (mobR P sq xs).2]) ∧ MkII w w' A' k c' (mobR P sq xs).1 := by
 have hB0 : Below w.heap.size w (w.alloc (.cells #[.int .i64 P, .slice A n c] 26)) := zG.alloc (Nat.le_refl _) _
 have k0 : Blk (w.alloc (.cells #[.int .i64 P, .slice A n c] 26)) w.heap.size 26 #[.int .i64 P, .slice A n c] := Blk.new _ _ _
 have hB1 : Below w.heap.size w ((w.alloc (.cells #[.int .i64 P, .slice A n c] 26)).alloc (.cells #[.slice X m cx] 24)) := hB0.alloc (by simp) _
 have k1 : Blk ((w.alloc (.cells #[.int .i64 P, .slice A n c] 26)).alloc (.cells #[.slice X m cx] 24)) w.heap.size 26 #[.int .i64 P, .slice A n c] := k0.alloc _
 have hreg := checkBivectors_any P A (some ⟨w.heap.size + 1, 0, none⟩) n c 1 1 sq [xs] ((w.alloc (.cells #[.int .i64 P, .slice A n c] 26)).alloc (.cells #[.slice X m cx] 24)) hn (by omega) (ha.below hB1) (rdII_one' (Blk.newAt (by simp)) (hx.below hB1) hcx) (all_one (by rw [hx.lenI]; exact hm))
 by_cases hr0 : codeB P sq [xs] = 0
 · skip
   obtain ⟨HP, hp3, hp2, hd1, hd2, hs0, hms⟩ := codeM_spec2 (codeR_zero2 (codeB_zero hr0))
   have hsl := ha.lenI
   obtain ⟨hx1, hxs0⟩ := hms xs (by simp)
   have hmx : m = pw n := by rw [← hx.lenI, hx1, hsl]
   subst hmx
   rw [hr0] at hreg
   have HR0 := Lib.hid hr0
   have HSL := Lib.hid hsl
   have HS0 := Lib.hid hs0
   have HXS := Lib.hid hxs0
   have hn6 : n ≤ 6 := by omega
   have hn0 : 0 < n := by omega
   have hp : 2 ≤ P := by omega
   clear hr0 hsl hms hx1 hs0 hxs0 hd1 hd2
   go_enter Tryz.func41, Tryz.ntmps41
   go_wp2_with fail
   refine hreg.mono ?_
   rintro e w2 ⟨rfl, hb2⟩
   have hB2 := hB1.trans (hb2.mono hB1.size)
   have k2 := k1.below hb2 k1.lt
   obtain ⟨q0, q1⟩ := k2.two
   clear k0 hB0 k1 hB1 hb2
   go_wp2_with fail
   refine (turning_any P A n c sq X cx xs _ hp hp2 hn6 hn0 (ha.below hB2) HS0.out (hx.below hB2) HXS.out hcx HP).mono ?_
   rintro e w3 ⟨A3, c3, rfl, hM⟩
   go_wp2
   go_ret2
   exact aMat (by rw [mobR_ok HR0.out, HSL.out]; rfl) (hM.after hB2)
 · obtain ⟨r, hr⟩ : ∃ r, r = codeB P sq [xs] := ⟨_, rfl⟩
   have HR := Lib.hid hr
   have HR0 := Lib.hid hr0
   have b0 : (r != 0) = true := code_ne (by rw [hr]; exact hr0)
   rw [← hr] at hreg
   clear hr hr0
   go_enter Tryz.func41, Tryz.ntmps41
   go_wp2_with fail
   refine hreg.mono ?_
   rintro e w2 ⟨rfl, hb2⟩
   have hB2 := hB1.trans (hb2.mono hB1.size)
   have k2 := k1.below hb2 k1.lt
   obtain ⟨q0, q1⟩ := k2.two
   clear k0 hB0 k1 hB1 hb2
   go_wp2
   go_ret2
   exact noMat (by rw [mobR_bad HR0.out, HR.out]) hB2
theorem isSp_mk2 {P : Int} {sq : List Int} (h : isP P = true) (h1 : 1 ≤ sq.length) (h6 : sq.length ≤ 6) (hn : NumsL P sq) : isSp P sq = true := by
 unfold isSp
 rw [h, numsL_nums hn]
 simp [inR]
 omega
/-- The value is a number of a range; a slice of one such number; a tuple of a bivector and the code 0; a bivector. -/
def VNm (lo hi : Int) : VP := ⟨fun v _ => ∃ r : Int, v = .int .i64 r ∧ lo ≤ r ∧ r < hi, fun _ _ _ h _ => h⟩
def VSn (lo hi : Int) : VP := ⟨fun v w => ∃ (gb : Nat) (r : Int), v = .slice (some ⟨gb, 0, none⟩) 1 1 ∧ lo ≤ r ∧ r < hi ∧ Rd w (some ⟨gb, 0, none⟩) 1 (ints [r]), fun _ _ _ ⟨gb, r, e, h1, h2, h3⟩ hb => ⟨gb, r, e, h1, h2, h3.below hb⟩⟩
theorem rd_new1 (w : World) (r : Int) : Rd (w.alloc (.cells #[.int .i64 r] 2)) (some ⟨w.heap.size, 0, none⟩) 1 (ints [r]) := by
 have h := (Mk.lit (E := 2) (Below.refl w.heap.size w) #[.int .i64 r] (by simp [maxLen])).2.rd
 simpa [ints] using h
def VTxT (B n : Nat) (P : Int) : VP := ⟨fun v w => ∃ (A : Option Addr) (c : Nat) (xs : List Int), v = .tuple #[.slice A n c, .int .i64 0] ∧ (xs.length = n ∧ NumsL P xs ∧ onlyL xs 2 = true) ∧ Own w B 2 A n c (ints xs), fun _ _ _ ⟨A, c, xs, e, hl, ho⟩ hb => ⟨A, c, xs, e, hl, ho.below hb⟩⟩
theorem VTxT.dr {B n g : Nat} {P : Int} {T : TypeId} {v : Value} {w w' : World} (h : (VTxT B n P).p v w) (d : Dr g T w w') (hT : 2 ≠ T) : (VTxT B n P).p v w' := by
 obtain ⟨A, c, xs, e, hl, ho⟩ := h
 exact ⟨A, c, xs, e, hl, ho.dr d hT⟩
def VLoT (B n : Nat) (P : Int) : VP := ⟨fun v w => ∃ (A : Option Addr) (c : Nat) (xs : List Int), v = .slice A n c ∧ (xs.length = n ∧ NumsL P xs ∧ onlyL xs 2 = true) ∧ Own w B 2 A n c (ints xs), fun _ _ _ ⟨A, c, xs, e, hl, ho⟩ hb => ⟨A, c, xs, e, hl, ho.below hb⟩⟩
theorem VLoT.dr {B n g : Nat} {P : Int} {T : TypeId} {v : Value} {w w' : World} (h : (VLoT B n P).p v w) (d : Dr g T w w') (hT : 2 ≠ T) : (VLoT B n P).p v w' := by
 obtain ⟨A, c, xs, e, hl, ho⟩ := h
 exact ⟨A, c, xs, e, hl, ho.dr d hT⟩
theorem codeVo_mk {P : Int} {sq : List Int} {L : List (List Int)} (h1 : isSp P sq = true) (hr : regB sq = true) (hl : L.length ≤ 16) (h : Good P sq L) : codeVo P sq L = 0 := by
 obtain ⟨hP, -⟩ := isSp_dim h1
 have hv : codeV P sq L = 0 := codeV_mk h1 fun v hv => by
  unfold isVe
  rw [(h v hv).1, numsL_nums (h v hv).2.1]; simp
 have hn : noneZ P sq L = true := by
  unfold noneZ
  rw [Bool.not_eq_true', ← Bool.not_eq_true, List.any_eq_true]
  rintro ⟨v, hv, e⟩
  exact (h v hv).2.2 ((bil_same hP (h v hv).1).1 (by simpa using e))
 unfold codeVo codeLs
 rw [if_pos hv, if_neg (show ¬ 16 < L.length by omega), if_pos rfl, hr, hn]; rfl
set_option maxHeartbeats 25600000 in
set_option maxRecDepth 40000 in
theorem FnTop_any (B : Option Addr) (nb cb : Nat) (bs : List Int) (w : World) (r : Rd w B nb (bs.map (Value.int .u8))) (hbs : ∀ b ∈ bs, 0 ≤ b ∧ b < 256) (hbg : ∀ a, B = some a → a.block < w.heap.size) :
    Calls Tryz.prog 4 #[.slice B nb cb] w fun e w' => e = .returned (.bool true) ∧ Below w.heap.size w w' := by
 have hbig := big_any B nb cb w
 by_cases hbb : 4096 < nb
 · rw [decide_eq_true hbb] at hbig
   go_enter Tryz.func4, Tryz.ntmps4
   go_wp2_with fail
   refine hbig.mono ?_
   rintro e w1 ⟨rfl, rfl⟩
   go_wp2
   go_ret
   exact ⟨rfl, Below.refl _ _⟩
 · rw [decide_eq_false hbb] at hbig
   have hro := roll_any B nb cb bs 849 w (by omega) r hbs hbg
   go_enter Tryz.func4, Tryz.ntmps4
   go_wp2_with fail
   refine hbig.mono ?_
   rintro e w1 ⟨rfl, rfl⟩
   clear hbig
   go_wp2_with fail
   refine hro.mono ?_
   rintro e w2 ⟨g, rfl, hg, hs2, hb2⟩
   clear hro r hbs hbg hbb
   have D := (Dr.refl hs2).alloc (.cells #[.int .i64 3, .int .i64 5, .int .i64 7, .int .i64 11, .int .i64 13] 2)
   have kl : Blk (w2.alloc (.cells #[.int .i64 3, .int .i64 5, .int .i64 7, .int .i64 11, .int .i64 13] 2)) w2.heap.size 2 #[.int .i64 3, .int .i64 5, .int .i64 7, .int .i64 11, .int .i64 13] := Blk.new _ _ _
   have hnx := below_any g 5 _ D.s' (by omega)
   go_wp2_with fail
   refine hnx.mono ?_
   rintro e w3 ⟨r, rfl, hr1, hr2, hd⟩
   have hr3 := hr2 (by omega)
   obtain ⟨rn, rfl⟩ : ∃ rn : Nat, r = rn := ⟨r.toNat, by omega⟩
   have kl2 := kl.dr hd (by decide)
   have hlt : rn < 5 := by omega
   obtain ⟨P, HP, hc⟩ : ∃ P : Int, isP P = true ∧ w3.cell? ⟨w2.heap.size, rn, none⟩ = some (.int .i64 P) := by
    clear hnx hr1 hr2 hr3
    rcases rn with _ | _ | _ | _ | _ | rn
    · exact ⟨3, by decide, kl2.cell 0⟩
    · exact ⟨5, by decide, kl2.cell 1⟩
    · exact ⟨7, by decide, kl2.cell 2⟩
    · exact ⟨11, by decide, kl2.cell 3⟩
    · exact ⟨13, by decide, kl2.cell 4⟩
    · omega
   replace D := D.trans hd
   obtain ⟨hp3, hp2⟩ := isP_ge HP
   have HPP := Lib.hid HP
   clear hnx hr1 hr2 hr3 hd kl kl2 HP
   have WP : wrap64 (P - 1) = P - 1 := by unfold wrap64; omega
   have hnx := below_any g (P - 1) w3 D.s' (by omega)
   go_wp2_with fail
   refine hnx.mono ?_
   rintro e w4 ⟨ra, rfl, ra1, ra2, hd⟩
   have ra3 := ra2 (by omega)
   have Wra : wrap64 (1 + ra) = 1 + ra := by unfold wrap64; omega
   replace D := D.trans hd
   clear hnx hd ra2
   clear hc hlt
   have hnx := below_any g (P - 1) w4 D.s' (by omega)
   go_wp2_with fail
   refine hnx.mono ?_
   rintro e w5 ⟨rb, rfl, rb1, rb2, hd⟩
   have rb3 := rb2 (by omega)
   have Wrb : wrap64 (1 + rb) = 1 + rb := by unfold wrap64; omega
   replace D := D.trans hd
   clear hnx hd rb2
   go_wp2_with fail
   obtain ⟨a, ha⟩ : ∃ a, a = 1 + ra := ⟨_, rfl⟩
   obtain ⟨b, hb⟩ : ∃ b, b = 1 + rb := ⟨_, rfl⟩
   rw [← ha, ← hb]
   have hM := Mk.lit (E := 2) (Below.refl w5.heap.size w5) #[.int .i64 a, .int .i64 b] (by simp [maxLen])
   have o_sq : Own (w5.alloc (.cells #[.int .i64 a, .int .i64 b] 2)) w2.heap.size 2 (some ⟨w5.heap.size, 0, none⟩) 2 2 (ints [a, b]) := by
    have := hM.2.base D.size
    simpa [ints] using this
   have k_pl := Blk.newAt3 (w := w5.alloc (.cells #[.int .i64 a, .int .i64 b] 2)) (t := 26) (cs := #[.int .i64 P, .slice (some ⟨w5.heap.size, 0, none⟩) 2 2]) (g := w5.heap.size + 1) (by simp)
   replace o_sq := o_sq.below (zG.alloc (Nat.le_refl _) (.cells #[.int .i64 P, .slice (some ⟨w5.heap.size, 0, none⟩) 2 2] 26))
   have k_qu := Blk.newAt3 (w := (w5.alloc (.cells #[.int .i64 a, .int .i64 b] 2)).alloc (.cells #[.int .i64 P, .slice (some ⟨w5.heap.size, 0, none⟩) 2 2] 26)) (t := 51) (cs := #[.int .i64 P, .slice (some ⟨w5.heap.size, 0, none⟩) 2 2]) (g := w5.heap.size + 1 + 1) (by simp)
   replace o_sq := o_sq.below (zG.alloc (Nat.le_refl _) (.cells #[.int .i64 P, .slice (some ⟨w5.heap.size, 0, none⟩) 2 2] 51))
   replace k_pl := k_pl.alloc (.cells #[.int .i64 P, .slice (some ⟨w5.heap.size, 0, none⟩) 2 2] 51)
   replace D := ((D.alloc (.cells #[.int .i64 a, .int .i64 b] 2)).alloc (.cells #[.int .i64 P, .slice (some ⟨w5.heap.size, 0, none⟩) 2 2] 26)).alloc (.cells #[.int .i64 P, .slice (some ⟨w5.heap.size, 0, none⟩) 2 2] 51)
   obtain ⟨w6, hw6⟩ : ∃ W, W = ((w5.alloc (.cells #[.int .i64 a, .int .i64 b] 2)).alloc (.cells #[.int .i64 P, .slice (some ⟨w5.heap.size, 0, none⟩) 2 2] 26)).alloc (.cells #[.int .i64 P, .slice (some ⟨w5.heap.size, 0, none⟩) 2 2] 51) := ⟨_, rfl⟩
   rw [← hw6] at o_sq k_pl k_qu D ⊢
   obtain ⟨z5, hz5⟩ : ∃ z, z = w5.heap.size := ⟨_, rfl⟩
   rw [← hz5] at o_sq k_pl k_qu ⊢
   clear hw6 hM hz5
   have ha1 : 1 ≤ a ∧ a < P := by omega
   have hb1 : 1 ≤ b ∧ b < P := by omega
   have HSP : Hid (isSp P [a, b] = true) := Lib.hid (isSp_mk2 HPP.out (by simp) (by simp) (all_two ⟨by omega, by omega⟩ ⟨by omega, by omega⟩))
   have HDB : Hid (isDb P [a, b] = true) := Lib.hid (isDb_mk HPP.out (by simp) (all_two ⟨by omega, by omega⟩ ⟨by omega, by omega⟩) (all_two (by omega) (by omega)))
   clear ha hb ra1 ra3 Wra rb1 rb3 Wrb ha1 hb1
   refine (belowList_any g P 4 w6 D.s' (by omega) (by omega)).mono ?_
   rintro e w7 ⟨Axs, cxs, xs, rfl, hl, hx, ho, hd⟩
   have Hxs : Hid (xs.length = 4 ∧ NumsL P xs) := Lib.hid ⟨hl, nums_of (by omega) hx⟩
   have o_xs := ho.base D.size
   replace o_sq := o_sq.dr hd (by decide)
   replace k_pl := k_pl.dr hd (by decide)
   replace k_qu := k_qu.dr hd (by decide)
   replace D := D.trans hd
   clear hl hx ho hd
   go_wp2_with fail
   refine (belowList_any g P 4 w7 D.s' (by omega) (by omega)).mono ?_
   rintro e w8 ⟨Ays, cys, ys, rfl, hl, hx, ho, hd⟩
   have Hys : Hid (ys.length = 4 ∧ NumsL P ys) := Lib.hid ⟨hl, nums_of (by omega) hx⟩
   have o_ys := ho.base D.size
   replace o_sq := o_sq.dr hd (by decide)
   replace o_xs := o_xs.dr hd (by decide)
   replace k_pl := k_pl.dr hd (by decide)
   replace k_qu := k_qu.dr hd (by decide)
   replace D := D.trans hd
   clear hl hx ho hd
   have HCM : Hid (codeM P [a, b] [xs, ys] = 0) := Lib.hid (codeM_mk HSP.out (all_two ⟨Hxs.out.1, Hxs.out.2⟩ ⟨Hys.out.1, Hys.out.2⟩))
   have HCX : Hid (codeM P [a, b] [xs] = 0) := Lib.hid (codeM_mk HSP.out (all_one ⟨Hxs.out.1, Hxs.out.2⟩))
   obtain ⟨pr, hpr⟩ : ∃ X, X = mulL P [a, b] xs ys := ⟨_, rfl⟩
   have HPR := Lib.hid hpr
   have Hpr : Hid (pr.length = 4 ∧ NumsL P pr) := Lib.hid (by rw [hpr]; exact ⟨by unfold mulL; rw [prodL_len]; exact Hxs.out.1, prodL_nums _ _ _ _ (by omega)⟩)
   clear hpr
   have hcall := GeometricProduct_ok P (some ⟨z5, 0, none⟩) 2 2 [a, b] Axs 4 cxs xs Ays 4 cys ys w8 (by omega) (by omega) (by omega) o_sq.rd o_xs.rd o_xs.cap o_ys.rd o_ys.cap HCM.out
   rw [show pw 2 = 4 from rfl] at hcall
   rw [← HPR.out] at hcall
   obtain ⟨q0, q1⟩ := k_pl.two
   go_wp2_with fail
   refine hcall.mono ?_
   rintro e w9 ⟨Apr, cpr, rfl, hM⟩
   have hb7 := hM.b
   have o_pr := hM.2.base D.size
   replace o_sq := o_sq.below hb7
   replace o_xs := o_xs.below hb7
   replace o_ys := o_ys.below hb7
   replace k_pl := k_pl.below hb7 k_pl.lt
   replace k_qu := k_qu.below hb7 k_qu.lt
   replace D := D.then hb7
   clear hM hb7 hcall q0 q1
   have hcall := sGeometricProduct_ok P (some ⟨z5, 0, none⟩) 2 2 [a, b] Axs 4 cxs xs Ays 4 cys ys w9 (by omega) (by omega) (by omega) o_sq.rd o_xs.rd o_xs.cap o_ys.rd o_ys.cap HCM.out
   rw [show pw 2 = 4 from rfl] at hcall
   rw [← HPR.out] at hcall
   obtain ⟨q0, q1⟩ := k_pl.two
   go_wp2_with fail
   refine hcall.mono ?_
   rintro e w10 ⟨Adu, cdu, rfl, hM⟩
   have hb7 := hM.b
   have o_du := hM.2.base D.size
   replace o_sq := o_sq.below hb7
   replace o_xs := o_xs.below hb7
   replace o_ys := o_ys.below hb7
   replace o_pr := o_pr.below hb7
   replace k_pl := k_pl.below hb7 k_pl.lt
   replace k_qu := k_qu.below hb7 k_qu.lt
   replace D := D.then hb7
   clear hM hb7 hcall q0 q1
   have hcall := DoubleTimes_ok P (some ⟨z5, 0, none⟩) 2 2 [a, b] Axs cxs xs Ays cys ys w10 HDB.out (by omega) o_sq.rd o_xs.rd o_xs.cap Hxs.out.2 o_ys.rd o_ys.cap Hys.out.2
   rw [show pw 2 = 4 from rfl] at hcall
   rw [dbl_mul (by omega) a b Hxs.out.1 Hys.out.1, ← HPR.out] at hcall
   obtain ⟨q0, q1⟩ := k_qu.two
   go_wp2_with fail
   refine hcall.mono ?_
   rintro e w11 ⟨Aot, cot, rfl, hM⟩
   have hb7 := hM.b
   have o_ot := hM.2.base D.size
   replace o_sq := o_sq.below hb7
   replace o_xs := o_xs.below hb7
   replace o_ys := o_ys.below hb7
   replace o_pr := o_pr.below hb7
   replace o_du := o_du.below hb7
   replace k_pl := k_pl.below hb7 k_pl.lt
   replace k_qu := k_qu.below hb7 k_qu.lt
   replace D := D.then hb7
   clear hM hb7 hcall q0 q1
   obtain ⟨na, hna⟩ : ∃ x, x = dnormL P 2 [a, b] xs := ⟨_, rfl⟩
   obtain ⟨nb9, hnb⟩ : ∃ x, x = dnormL P 2 [a, b] ys := ⟨_, rfl⟩
   have hna2 : 0 ≤ na ∧ na < P := by rw [hna]; exact (dblL_nums (by omega) 2 [a, b] _ _).getD (by omega) 0
   have hnb2 : 0 ≤ nb9 ∧ nb9 < P := by rw [hnb]; exact (dblL_nums (by omega) 2 [a, b] _ _).getD (by omega) 0
   have HNA := Lib.hid hna
   have HNB := Lib.hid hnb
   clear hna hnb
   have hmn : 0 ≤ na * nb9 := Int.mul_nonneg hna2.1 hnb2.1
   have hmn2 : na * nb9 ≤ 13 * 13 := Int.mul_le_mul (by omega) (by omega) hnb2.1 (by omega)
   have WM : wrap64 (na * nb9) = na * nb9 := by unfold wrap64; omega
   clear hmn hmn2
   have hcall := DoubleNorm_ok P (some ⟨z5, 0, none⟩) 2 2 [a, b] Axs cxs xs w11 HDB.out (by omega) o_sq.rd o_xs.rd o_xs.cap Hxs.out.2
   rw [← HNA.out] at hcall
   obtain ⟨q0, q1⟩ := k_qu.two
   go_wp2_with fail
   refine hcall.mono ?_
   rintro e w12 ⟨rfl, hb7⟩
   replace o_sq := o_sq.below hb7
   replace o_xs := o_xs.below hb7
   replace o_ys := o_ys.below hb7
   replace o_pr := o_pr.below hb7
   replace o_du := o_du.below hb7
   replace o_ot := o_ot.below hb7
   replace k_pl := k_pl.below hb7 k_pl.lt
   replace k_qu := k_qu.below hb7 k_qu.lt
   replace D := D.then hb7
   clear hcall q0 q1 hb7
   have hcall := DoubleNorm_ok P (some ⟨z5, 0, none⟩) 2 2 [a, b] Ays cys ys w12 HDB.out (by omega) o_sq.rd o_ys.rd o_ys.cap Hys.out.2
   rw [← HNB.out] at hcall
   obtain ⟨q0, q1⟩ := k_qu.two
   go_wp2_with fail
   refine hcall.mono ?_
   rintro e w13 ⟨rfl, hb7⟩
   replace o_sq := o_sq.below hb7
   replace o_xs := o_xs.below hb7
   replace o_ys := o_ys.below hb7
   replace o_pr := o_pr.below hb7
   replace o_du := o_du.below hb7
   replace o_ot := o_ot.below hb7
   replace k_pl := k_pl.below hb7 k_pl.lt
   replace k_qu := k_qu.below hb7 k_qu.lt
   replace D := D.then hb7
   clear hcall q0 q1 hb7
   have hcall := DoubleNorm_ok P (some ⟨z5, 0, none⟩) 2 2 [a, b] Apr cpr pr w13 HDB.out (by omega) o_sq.rd o_pr.rd o_pr.cap Hpr.out.2
   have hnt := norm_times (by omega) a b Hxs.out.1 Hxs.out.2 Hys.out.1 Hys.out.2
   rw [← HPR.out, ← HNA.out, ← HNB.out] at hnt
   rw [hnt] at hcall
   clear hnt
   obtain ⟨q0, q1⟩ := k_qu.two
   go_wp2_with fail
   refine hcall.mono ?_
   rintro e w14 ⟨rfl, hb7⟩
   replace o_sq := o_sq.below hb7
   replace o_xs := o_xs.below hb7
   replace o_ys := o_ys.below hb7
   replace o_pr := o_pr.below hb7
   replace o_du := o_du.below hb7
   replace o_ot := o_ot.below hb7
   replace k_pl := k_pl.below hb7 k_pl.lt
   replace k_qu := k_qu.below hb7 k_qu.lt
   replace D := D.then hb7
   clear hcall q0 q1 hb7
   have hcall := ConjugateOf_ok P (some ⟨z5, 0, none⟩) 2 2 [a, b] Axs 4 cxs xs w14 (by omega) (by omega) o_sq.rd o_xs.rd o_xs.cap HCX.out
   rw [conj_four Hxs.out.1] at hcall
   obtain ⟨q0, q1⟩ := k_pl.two
   go_wp2_with fail
   refine hcall.mono ?_
   rintro e w15 ⟨Acj, ccj, rfl, hM⟩
   have hb7 := hM.b
   have o_cj := hM.2.base D.size
   replace o_sq := o_sq.below hb7
   replace o_xs := o_xs.below hb7
   replace o_ys := o_ys.below hb7
   replace o_pr := o_pr.below hb7
   replace o_du := o_du.below hb7
   replace o_ot := o_ot.below hb7
   replace k_pl := k_pl.below hb7 k_pl.lt
   replace k_qu := k_qu.below hb7 k_qu.lt
   replace D := D.then hb7
   clear hM hb7 hcall q0 q1
   have HCJ : Hid (codeM P [a, b] [xs, conjL P xs] = 0) := Lib.hid (codeM_mk HSP.out (all_two ⟨Hxs.out.1, Hxs.out.2⟩ ⟨by rw [conjL_len]; exact Hxs.out.1, conjL_nums (by omega) Hxs.out.2⟩))
   have hcall := times5_ok P (some ⟨z5, 0, none⟩) 2 2 [a, b] Axs 4 cxs xs Acj 4 ccj (conjL P xs) w15 (by omega) (by omega) (by omega) o_sq.rd o_xs.rd o_xs.cap o_cj.rd o_cj.cap HCJ.out
   rw [show pw 2 = 4 from rfl] at hcall
   rw [norm_four (by omega) a b Hxs.out.1, ← HNA.out] at hcall
   obtain ⟨q0, q1⟩ := k_pl.two
   go_wp2_with fail
   refine hcall.mono ?_
   rintro e w16 ⟨Asq, csq, rfl, hM⟩
   have hb7 := hM.b
   have o_st := hM.2.base D.size
   replace o_sq := o_sq.below hb7
   replace o_xs := o_xs.below hb7
   replace o_ys := o_ys.below hb7
   replace o_pr := o_pr.below hb7
   replace o_du := o_du.below hb7
   replace o_ot := o_ot.below hb7
   replace o_cj := o_cj.below hb7
   replace k_pl := k_pl.below hb7 k_pl.lt
   replace k_qu := k_qu.below hb7 k_qu.lt
   replace D := D.then hb7
   clear hM hb7 hcall q0 q1
   clear o_sq o_xs o_ys o_cj
   clear k_pl k_qu
   clear HCM HCX HCJ HSP HDB HNA HNB HPR Hxs Hys
   have D16 := D
   have st16 := o_st
   have hcall := likeInts_any Apr Adu 4 4 cpr cdu pr pr w16 (by omega) (by omega) o_pr.rd o_du.rd
   rw [decide_eq_true rfl] at hcall
   go_wp2_with fail
   refine hcall.mono ?_
   rintro e w17 ⟨rfl, j1, rfl⟩
   have hb7 := below_drewN (Below.refl w16.heap.size w16) j1
   replace o_pr := o_pr.below hb7
   replace o_du := o_du.below hb7
   replace o_ot := o_ot.below hb7
   replace o_st := o_st.below hb7
   replace D := D.then hb7
   clear hcall hb7
   have hcall := likeInts_any Apr Aot 4 4 cpr cot pr pr (w16.drewN j1) (by omega) (by omega) o_pr.rd o_ot.rd
   rw [decide_eq_true rfl] at hcall
   go_wp2_with fail
   refine hcall.mono ?_
   rintro e w18 ⟨rfl, j2, rfl⟩
   have hb7 := below_drewN (Below.refl (w16.drewN j1).heap.size (w16.drewN j1)) j2
   replace o_pr := o_pr.below hb7
   replace o_du := o_du.below hb7
   replace o_ot := o_ot.below hb7
   replace o_st := o_st.below hb7
   replace D := D.then hb7
   clear hcall hb7
   clear o_pr o_du o_ot o_st
   replace D := D16.then (below_drewN (Below.refl w16.heap.size w16) (j1 + j2))
   have st18 := st16.below (below_drewN (Below.refl w16.heap.size w16) (j1 + j2))
   clear D16 st16
   have e0 : ((na * nb9) % P != (na * nb9) % P) = false := by simp
   go_wp2_with fail
   refine (mod5_any P (na * nb9) _ (by omega) hp2).mono ?_
   rintro e w19 ⟨rfl, rfl⟩
   have hM := Mk.lit (E := 2) (Below.refl (w16.drewN (j1 + j2)).heap.size (w16.drewN (j1 + j2))) #[.int .i64 na, .int .i64 0, .int .i64 0, .int .i64 0] (by simp [maxLen])
   have hcall := likeInts_any Asq (some ⟨(w16.drewN (j1 + j2)).heap.size, 0, none⟩) 4 4 csq 4 [na, 0, 0, 0] [na, 0, 0, 0] ((w16.drewN (j1 + j2)).alloc (.cells #[.int .i64 na, .int .i64 0, .int .i64 0, .int .i64 0] 2)) (by omega) (by omega) (st18.below hM.1).rd (by have := hM.2.rd; simpa [ints] using this)
   rw [decide_eq_true rfl] at hcall
   go_wp2_with fail
   refine hcall.mono ?_
   rintro e w19 ⟨rfl, j3, rfl⟩
   replace D := (D.alloc (.cells #[.int .i64 na, .int .i64 0, .int .i64 0, .int .i64 0] 2)).then (below_drewN zG j3)
   clear hM hcall st18 e0 WM hna2 hnb2 Hpr
   obtain ⟨w20, hw20⟩ : ∃ W, W = ((w16.drewN (j1 + j2)).alloc (.cells #[.int .i64 na, .int .i64 0, .int .i64 0, .int .i64 0] 2)).drewN j3 := ⟨_, rfl⟩
   rw [← hw20] at D ⊢
   clear hw20
   have hgs : w2.heap.size ≤ w20.heap.size := D.size
   have k_s := Blk.new w20 26 #[.int .i64 P, .slice none 0 0]
   replace D := D.alloc (.cells #[.int .i64 P, .slice none 0 0] 26)
   have hnx := below_any g 3 _ D.s' (by omega)
   go_wp2_with fail
   refine hnx.mono ?_
   rintro e w21 ⟨r3, rfl, r31, r32, hd⟩
   have r33 := r32 (by omega)
   obtain ⟨N, hN⟩ : ∃ N : Nat, (N : Int) = 2 + r3 := ⟨(2 + r3).toNat, by omega⟩
   have WN : wrap64 (2 + r3) = (N : Int) := by unfold wrap64; omega
   have k_s2 := k_s.dr hd (by decide)
   have D2 := D.trans hd
   clear hnx hd k_s D
   go_wp2
   go_loopw [26] (fun q wr => ∃ (j m : Nat) (A : Option Addr) (c : Nat) (xs : List Int), j + m = N ∧ q = .int .i64 m ∧ (∀ x ∈ xs, 1 ≤ x ∧ x < P) ∧ Blk wr w20.heap.size 26 #[.int .i64 P, .slice A j c] ∧ Own wr w2.heap.size 2 A j c (ints xs) ∧ Dr g 100 w2 wr) (fun q _ => (intOf q).toNat)
   case atStart => exact ⟨0, N, none, 0, [], by omega, by rw [hN], by simp, k_s2, World.ownsRow_nil _ _ _ _, D2⟩
   case round =>
    obtain ⟨j, m, A, c, xs, hjm, rfl, hxs, k_s, o_sq, D⟩ := hrel
    clear k_s2 D2
    obtain ⟨wo, hwo⟩ : ∃ W, W = wr := ⟨_, rfl⟩
    subst hwo
    cases m with
    | succ m =>
     have d1 : decide (0 < ((m + 1 : Nat) : Int)) = true := by rw [decide_eq_true_eq]; omega
     have WM : wrap64 (((m + 1 : Nat) : Int) - 1) = (m : Int) := by unfold wrap64; omega
     have WPi : IntKind.i64.wrap (P - 1) = P - 1 := i64_fit _ (by omega) (by omega)
     go_wp2
     refine wp_obsR 8 (Dr g 100) [[], [0], [], [], [3], [2, 3, 4], [2, 3, 4, 5], [2, 3, 4, 5, 6], [0, 1, 2, 3, 4, 5, 6, 7], [0, 1, 2, 3, 4, 5, 6, 7, 8], [0, 1, 2, 3, 4, 5, 6, 7, 8, 9]] [[], [], [], [], [], [99], [], []] (fun x => [VIs (.pointer (some ⟨w20.heap.size, 1, none⟩)), VIs (.slice A j c), VIs (.pointer (some ⟨g, 0, none⟩)), VIs (.int .i64 (P)), VIs (.int .i64 (P - 1)), VNm 0 (P - 1), VNm 1 P, VSn 1 P]) (fun w' => Blk w' w20.heap.size 26 #[.int .i64 P, .slice A j c] ∧ Own w' w2.heap.size 2 A j c (ints xs) ∧ Dr g 100 w2 w') (by kernel_rfl) (by kernel_rfl) (fun x x' j hx => by
         rcases j with _ | _ | _ | _ | _ | _ | _ | _ | j
         · rfl
         · rfl
         · rfl
         · rfl
         · rfl
         · rfl
         · rfl
         · rfl
         · rfl)
      (weak_ofR [0, 1, 2, 3, 4, 5, 6] (by decide) (fun k hk x v w w' hp hr => by
       simp only [List.mem_cons, zJ, or_false] at hk
       rcases hk with rfl | rfl | rfl | rfl | rfl | rfl | rfl
       · exact hp
       · exact hp
       · exact hp
       · exact hp
       · exact hp
       · exact hp
       · exact hp)) (fun j _ _ h hb => hb.either (fun hb => ⟨h.1.below hb h.1.lt, h.2.1.below hb, h.2.2.then hb⟩) (fun hr => ⟨h.1.dr hr (by decide), h.2.1.dr hr (by decide), h.2.2.trans hr⟩)) (⟨k_s.drew, o_sq.below zG.drew, D.then zG.drew⟩) (fun x => ?_)
     refine zSR (fun w' hS hV K hK => ?_) ?_
     · obtain ⟨q0, q1⟩ := hS.1.two; go_simp; exact hK.out _ _ _ rfl rfl rfl zG
     refine zSR (fun w' hS hV K hK => ?_) ?_
     · have e0 := zQ hV 0; obtain ⟨q0, q1⟩ := hS.1.two; go_simp; exact hK.out _ _ _ rfl rfl rfl zG
     refine zSR (fun w' hS hV K hK => ?_) ?_
     · obtain ⟨q0, q1⟩ := hS.1.two; go_simp; exact hK.out _ _ _ rfl rfl rfl zG
     refine zSR (fun w' hS hV K hK => ?_) ?_
     · obtain ⟨q0, q1⟩ := hS.1.two; go_simp; exact hK.out _ _ _ rfl rfl rfl zG
     refine zSR (fun w' hS hV K hK => ?_) ?_
     · have e3 := zQ hV 3; obtain ⟨q0, q1⟩ := hS.1.two; go_simp; exact hK.out _ _ _ rfl rfl rfl zG
     refine zSR (fun w' hS hV K hK => ?_) ?_
     · have e2 := zQ hV 2; have e4 := zQ hV 4; obtain ⟨q0, q1⟩ := hS.1.two; go_simp; refine (below_any g (P - 1) w' hS.2.2.s' (by omega)).mono ?_; rintro e v1 ⟨r, rfl, h1, h2, hd⟩; exact hK.out _ _ _ rfl rfl ⟨r, rfl, h1, h2 (by omega)⟩ (StepR.rel rfl hd)
     refine zSR (fun w' hS hV K hK => ?_) ?_
     · obtain ⟨r5, e5, l5, u5⟩ := hV 5 (by decide); obtain ⟨q0, q1⟩ := hS.1.two; have WR : IntKind.i64.wrap (1 + r5) = 1 + r5 := i64_fit _ (by omega) (by omega); go_simp; exact hK.out _ _ _ rfl rfl ⟨1 + r5, rfl, by omega, by omega⟩ zG
     refine zSR (fun w' hS hV K hK => ?_) ?_
     · obtain ⟨r5, e5, l5, u5⟩ := hV 5 (by decide); obtain ⟨r6, e6, l6, u6⟩ := hV 6 (by decide); obtain ⟨q0, q1⟩ := hS.1.two; go_simp; exact hK.out _ _ _ rfl rfl ⟨_, r6, rfl, l6, u6, rd_new1 _ _⟩ (zG.alloc (Nat.le_refl _) _)
     refine fun w' hS hV => ?_
     have e0 := zQ hV 0
     have e1 := zQ hV 1
     have e2 := zQ hV 2
     have e3 := zQ hV 3
     have e4 := zQ hV 4
     obtain ⟨r5, e5, l5, u5⟩ := hV 5 (by decide)
     obtain ⟨r6, e6, l6, u6⟩ := hV 6 (by decide)
     obtain ⟨g7, r7, e7, l7, u7, h7⟩ := hV 7 (by decide)
     simp only [e0, e1, e2, e3, e4, e5, e6, e7]
     clear e0 e1 e2 e3 e4 e5 e6 e7
     refine any_plain (j := 8) (by kernel_rfl) (Eq.trans (by simp only [zA, zB, zC]; exact rfl) rfl) rfl (fun K hK => ?_)
     refine wp_appAll (cutW w' w2.heap.size) w' _ _ rfl A j c xs (some ⟨g7, 0, none⟩) 1 1 [r7] (hS.2.1.mk_ hS.2.2.size) h7 (by omega) (by omega) (by omega) (by rfl) (by rfl) ?_
     intro A8 c8 w8 hM8 hg8
     refine hK.out _ _ ?_
     simp only [Act.put, zD, zE, zF]
     have k8 := hS.1.grown hg8 (hS.2.1.ne_blk hS.1 (by decide))
     have o8 := hM8.own_ (cutW_size hS.2.2.size)
     have d8 := hS.2.2.grown hS.2.1 hg8
     have f8 := k8.frozen 1
     have f9 := k8.cell 1
     simp only [zA, zC, zB] at f9
     clear hS hM8 hg8
     refine any_one (j := 9) (by kernel_rfl) (Eq.trans (by simp only [zA, zB, zC]; exact rfl) rfl) (fun K hK => ?_)
     go_simp
     refine hK.out _ _ ?_
     refine any_one (j := 10) (by kernel_rfl) (Eq.trans (by simp only [zA, zB, zC]; exact rfl) rfl) (fun K hK => ?_)
     go_simp
     refine hK.out _ _ (wpAny_done (by kernel_rfl) ?_ _)
     have k9 := k8.set_ 1 (.slice A8 (j + 1) c8)
     have o9 := o8.far k8 (by decide) 1 (.slice A8 (j + 1) c8)
     have d9 := d8.setNew (b := w20.heap.size) hgs 1 (.slice A8 (j + 1) c8)
     simp only [zD, zE, zF] at k9
     clear k8 o8 d8 f8 f9
     go_wp2
     go_roundw
     case rel => exact ⟨j + 1, m, A8, c8, xs ++ [r7], by omega, by go_num, fun x hx => (by rcases List.mem_append.1 hx with hx | hx; exact hxs x hx; rw [List.mem_singleton.1 hx]; exact ⟨l7, u7⟩), k9, o9, d9⟩
     case measure => simp [intOf]
    | zero =>
     have hjN : (j : Int) = 2 + r3 := by omega
     have hN2 : 2 ≤ j ∧ j ≤ 4 := by have := hjN; omega
     clear hgs r31 r32 r33 hN WN hjm
     have hsl : xs.length = j := o_sq.rd.lenI
     have HS : NumsL P xs := fun x hx => ⟨by have := (hxs x hx).1; omega, (hxs x hx).2⟩
     have HSP : Hid (isSp P xs = true) := Lib.hid (isSp_mk2 HPP.out (by omega) (by omega) HS)
     have HREG : Hid (regB xs = true) := Lib.hid (by
      unfold regB
      cases h : xs.contains 0
      · rfl
      · exact absurd (hxs 0 (by simpa using h)).1 (by decide))
     have hpw : pw j ≤ 16 := pw_le hN2.2
     have hpn := pw_pos j
     have HSL := Lib.hid hsl
     have HSN := Lib.hid HS
     clear hxs HS hjN hsl
     have d1 : decide (0 < ((0 : Nat) : Int)) = false := by simp
     have m_l := OwnM.empty wo (B := w2.heap.size) D.size
     replace o_sq := o_sq.below (zG.alloc (Nat.le_refl _) (.cells #[] 24))
     obtain ⟨q0, q1⟩ := k_s.two
     replace k_s := k_s.alloc (.cells #[] 24)
     replace D := D.alloc (.cells #[] 24)
     have hnx := below_any g 5 _ D.s' (by omega)
     go_wp2_with fail
     refine hnx.mono ?_
     rintro e w22 ⟨r5, rfl, r51, r52, hd⟩
     have r53 := r52 (by omega)
     obtain ⟨K0, rfl⟩ : ∃ K0 : Nat, r5 = K0 := ⟨r5.toNat, by omega⟩
     clear r51 r52 hnx q0 q1 d1
     replace o_sq := o_sq.dr hd (by decide)
     replace k_s := k_s.dr hd (by decide)
     replace m_l := m_l.dr hd (by decide) (by decide)
     replace D := D.trans hd
     clear hd
     have m_l0 := m_l
     have o_sq0 := o_sq
     have k_s0 := k_s
     have D0 := D
     clear m_l o_sq k_s D
     go_wp2
     go_loopw [28, 29] (fun l i wr => ∃ (kk m : Nat) (AL : Option Addr) (cl : Nat) (L : List (List Int)), m + kk ≤ 4 ∧ i = .int .i64 kk ∧ l = .slice AL m cl ∧ Good P xs L ∧ OwnM wr w2.heap.size AL m cl L ∧ Own wr w2.heap.size 2 A j c (ints xs) ∧ Blk wr w20.heap.size 26 #[.int .i64 P, .slice A j c] ∧ Dr g 100 w2 wr) (fun _ i _ => (intOf i).toNat)
     case atStart => exact ⟨K0, 0, _, _, [], by omega, rfl, rfl, fun v hv => by simp at hv, m_l0, o_sq0, k_s0, D0⟩
     case round =>
      obtain ⟨kk, m, AL, cl, L, hmk, rfl, rfl, hG, m_l, o_sq, k_s, D⟩ := hrel
      clear m_l0 o_sq0 k_s0 D0
      obtain ⟨wp, hwp⟩ : ∃ W, W = wr := ⟨_, rfl⟩
      subst hwp
      have HG := Lib.hid hG
      clear hG
      by_cases hk0 : 0 < kk
      · skip
        have t1 : decide ((0 : Int) < (kk : Int)) = true := by simp; omega
        have W5 : wrap64 ((kk : Int) - 1) = ((kk - 1 : Nat) : Int) := by unfold wrap64; omega
        have hbl := belowList_any g P j wp D.s' (by omega) (by omega)
        have HML := Lib.hid m_l
        have HD := Lib.hid D
        clear m_l
        go_wp2_with fail
        refine hbl.mono ?_
        rintro e w3 ⟨Av, cv, v, rfl, hl, hx, ho, hd⟩
        have Hv : Hid (v.length = j ∧ NumsL P v) := Lib.hid ⟨hl, nums_of (by omega) hx⟩
        clear hl hx hbl
        replace o_sq := o_sq.dr hd (by decide)
        replace k_s := k_s.dr hd (by decide)
        replace D := D.trans hd
        obtain ⟨q0, q1⟩ := k_s.two
        have hcall := NormOf_ok P A j c xs Av cv v w3 HSP.out o_sq.rd ho.rd ho.cap Hv.out.2
        obtain ⟨q, hq⟩ : ∃ q, q = pairL P xs v v := ⟨_, rfl⟩
        rw [← hq] at hcall
        have HQ := Lib.hid hq
        clear hq
        go_wp2_with fail
        refine hcall.mono ?_
        rintro e w4 ⟨rfl, hb7⟩
        replace ho := ho.below hb7
        replace hd := hd.then hb7
        replace o_sq := o_sq.below hb7
        replace k_s := k_s.below hb7 k_s.lt
        replace D := D.then hb7
        clear hb7 hcall q0 q1 D
        have HV8 := Lib.hid ho
        have HD8 := Lib.hid hd
        clear ho hd
        by_cases hq0 : q = 0
        · have e9 : (q != 0) = false := by simp [hq0]
          go_wp2
          go_roundw
          case rel => exact ⟨kk - 1, m, AL, cl, L, by omega, by go_num, rfl, HG.out, HML.out.dr HD8.out (by decide) (by decide), o_sq, k_s, HD.out.trans HD8.out⟩
          case measure => simp [intOf]; omega
        · have e9 : (q != 0) = true := by simp [hq0]
          go_wp2_with (at_builtin; (refine wpList_pushRow w2 wp w4 g 100 rfl _ _ rfl AL m cl L Av j cv v HML.out HD.out HD8.out (by decide) (by decide) HV8.out (by omega) rfl ?_ ?_; (go_simp); intro A9 c9 w9 h9 d9 kp))
          have k9 := kp.2 _ _ _ k_s (by decide)
          have o9 := kp.1 _ _ _ _ _ o_sq
          have HT9 := Lib.hid (show Good P xs (L ++ [v]) from fun u hu => by
           rcases List.mem_append.1 hu with hu | hu
           · exact HG.out u hu
           · rw [List.mem_singleton.1 hu]
             exact ⟨by rw [Hv.out.1, HSL.out], Hv.out.2, fun e => hq0 (by rw [HQ.out]; exact (bil_same HPP.out (by rw [Hv.out.1, HSL.out])).2 e)⟩)
          clear kp k_s o_sq
          go_wp2
          go_roundw
          case rel => exact ⟨kk - 1, m + 1, A9, c9, L ++ [v], by omega, by go_num, rfl, HT9.out, h9, o9, k9, d9⟩
          case measure => simp [intOf]; omega
      · skip
        obtain rfl : kk = 0 := by omega
        have t1 : decide ((0 : Int) < ((0 : Nat) : Int)) = false := by simp
        have hml : L.length = m := m_l.rd.len
        have hm4 : m ≤ 4 := by omega
        have OF := own_factor HSP.out HREG.out HSL.out HG.out
        obtain ⟨X, hX⟩ : ∃ X, X = versL P xs j L := ⟨_, rfl⟩
        obtain ⟨VM, hVM⟩ : ∃ X, X = vmatL P xs j (versL P xs j L) := ⟨_, rfl⟩
        rw [← hVM, ← hX] at OF
        obtain ⟨f1, f2, M, f3, f4, f5, f6, f7, at_, a1, a2, a3, a4, a5⟩ := OF
        obtain ⟨Y, hY⟩ : ∃ Y, Y = versL P xs j M := ⟨_, rfl⟩
        rw [← hY] at f4 f6 a2 a3 a4 a5
        have HF1 := Lib.hid f1
        have HF2 := Lib.hid f2
        have HF3 : Hid (versL P xs j (decL P xs VM) = Y) := Lib.hid (by rw [f3, hY])
        have HYN := Lib.hid (And.intro f4 f6)
        have HXN := Lib.hid (And.intro f5 f7)
        have HA2 := Lib.hid a2
        have HA5 := Lib.hid a5
        have HXE := Lib.hid hX
        have HCV := Lib.hid (voR_ok (codeVo_mk HSP.out HREG.out (by omega) HG.out))
        have HLL := Lib.hid (show ∀ ys ∈ L, ys.length ≤ 1048576 from fun u hu => by have := (HG.out u hu).1; rw [HSL.out] at this; omega)
        obtain ⟨xa, hxa⟩ : ∃ x, x = X.getD at_ 0 := ⟨_, rfl⟩
        obtain ⟨ya, hya⟩ : ∃ x, x = Y.getD at_ 0 := ⟨_, rfl⟩
        have hxa2 : 0 ≤ xa ∧ xa < P := by rw [hxa]; exact f7.getD (by omega) at_
        have hya2 : 0 ≤ ya ∧ ya < P := by rw [hya]; exact f6.getD (by omega) at_
        have hya0 : ya ≠ 0 := by rw [hya]; exact a3
        obtain ⟨fct, hfc⟩ : ∃ f, f = xa * invF P ya % P := ⟨_, rfl⟩
        have hfc2 : 0 ≤ fct ∧ fct < P := by rw [hfc]; exact ⟨Int.emod_nonneg _ (by omega), Int.emod_lt_of_pos _ (by omega)⟩
        have hfc0 : fct ≠ 0 := by rw [hfc, hxa, hya]; exact a4
        have HFC := Lib.hid hfc
        have HSC : Hid (scaleL P Y fct = X) := Lib.hid (by rw [hfc, hxa, hya]; exact a5)
        have HXA := Lib.hid hxa
        have HYA := Lib.hid hya
        clear f1 f2 f3 f4 f5 f6 f7 a2 a3 a4 a5 hX hVM hY hxa hya hfc hml
        have hcall := VersorOf_any P A j c xs AL m cl L wp (by omega) (by omega) o_sq.rd m_l.rd HLL.out
        rw [HCV.out, HSL.out, ← HXE.out] at hcall
        obtain ⟨q0, q1⟩ := k_s.two
        go_wp2_with fail
        refine hcall.mono ?_
        rintro e w30 ⟨Av, kv, cv, rfl, hM⟩
        have hb7 := hM.b
        have o_x := hM.2.base D.size
        replace o_sq := o_sq.below hb7
        replace k_s := k_s.below hb7 k_s.lt
        replace m_l := m_l.below hb7
        replace D := D.then hb7
        clear hM hb7 hcall q0 q1
        obtain rfl : pw j = kv := by rw [← HXN.out.1]; exact o_x.rd.lenI
        clear m_l
        clear HCV HLL HXE HG
        have hcall := MatrixOfVersor_any P A j c xs Av (pw j) cv X w30 (by omega) (by omega) o_sq.rd o_x.rd o_x.cap
        rw [HF1.out] at hcall
        obtain ⟨q0, q1⟩ := k_s.two
        go_wp2_with fail
        refine hcall.mono ?_
        rintro e w31 ⟨Am, km, cm, rfl, hM⟩
        have hb7 := hM.b
        have m_a := (OwnM.of hM).base D.size
        replace o_sq := o_sq.below hb7
        replace o_x := o_x.below hb7
        replace k_s := k_s.below hb7 k_s.lt
        replace D := D.then hb7
        clear hM hb7 hcall q0 q1
        obtain rfl : j = km := by rw [← m_a.rd.len, ← HSL.out]; exact (isoB_frame HF2.out).1.symm
        have hcall := IsOrthogonal_ok P A j c xs Am cm VM w31 HSP.out HREG.out o_sq.rd m_a.rd HF2.out
        obtain ⟨q0, q1⟩ := k_s.two
        go_wp2_with fail
        refine hcall.mono ?_
        rintro e w32 ⟨rfl, hb7⟩
        replace o_sq := o_sq.below hb7
        replace o_x := o_x.below hb7
        replace k_s := k_s.below hb7 k_s.lt
        replace m_a := m_a.below hb7
        replace D := D.then hb7
        clear hcall q0 q1 hb7
        have hcall := VersorOfMatrix_ok P A j c xs Am cm VM w32 HSP.out HREG.out o_sq.rd m_a.rd HF2.out
        rw [HF3.out] at hcall
        obtain ⟨q0, q1⟩ := k_s.two
        go_wp2_with fail
        refine hcall.mono ?_
        rintro e w33 ⟨Ay, cy, rfl, hM⟩
        have hb7 := hM.b
        have o_y := hM.2.base D.size
        replace o_sq := o_sq.below hb7
        replace o_x := o_x.below hb7
        replace k_s := k_s.below hb7 k_s.lt
        replace m_a := m_a.below hb7
        replace D := D.then hb7
        clear hM hb7 hcall q0 q1
        clear m_a
        clear HF1 HF2 HF3
        have e02 : (((pw j : Nat) : Int) != ((pw j : Nat) : Int)) = false := by simp
        obtain ⟨gy, oy, rfl, hyk, hcy⟩ := o_y.rd.int hpn
        obtain ⟨gx, ox, rfl, hxk, hcx⟩ := o_x.rd.int hpn
        clear hyk hcy hxk hcx
        go_wp2
        go_loopw [41] (fun i wr => ∃ k : Nat, k ≤ at_ ∧ i = .int .i64 k ∧ Below w33.heap.size w33 wr) (fun i _ => at_ - (intOf i).toNat)
        case atStart => exact ⟨0, by omega, rfl, Below.refl _ _⟩
        case round =>
         obtain ⟨k, hk, rfl, hbr⟩ := hrel
         obtain ⟨g9, o9, e9, hyk, hcy⟩ := (o_y.rd.below hbr).int (show k < pw j by omega)
         cases e9
         have hyv : Y[k] = Y.getD k 0 := by rw [List.getD_eq_getElem?_getD, List.getElem?_eq_getElem hyk]; rfl
         have i1 : (0 : Int) ≤ (k : Int) := by omega
         have i2 : (k : Int) < ((pw j : Nat) : Int) := by omega
         by_cases hlt : k < at_
         · rw [hyv, HA2.out k hlt] at hcy
           clear hyv hyk
           go_wp2
           go_roundw
           case rel => exact ⟨k + 1, by omega, by go_num, hbr⟩
           case measure => simp [intOf]; omega
         · obtain rfl : k = at_ := by omega
           have e1 : (ya == 0) = false := by simpa using hya0
           rw [hyv, ← HYA.out] at hcy
           clear hyv hyk e02
           have e3 : ((k : Int) == ((pw j : Nat) : Int)) = false := by rw [beq_eq_false_iff_ne]; omega
           have HCY := Lib.hid fun (w' : World) (h : Below wr.heap.size wr w') => (h.cell (World.block_lt_of_cell? _ _ hcy)).trans hcy
           obtain ⟨g9, o9, e9, hxk, hcx⟩ := (o_x.rd.below hbr).int (show k < pw j by omega)
           cases e9
           have hxv : X[k] = X.getD k 0 := by rw [List.getD_eq_getElem?_getD, List.getElem?_eq_getElem hxk]; rfl
           rw [hxv, ← HXA.out] at hcx
           have HCX := Lib.hid fun (w' : World) (h : Below wr.heap.size wr w') => (h.cell (World.block_lt_of_cell? _ _ hcx)).trans hcx
           clear hxv hxk HA2
           go_wp2
           refine wp_obs 15 [[],[],[],[1,2],[1,2,3],[],[],[5,6],[5,6,7],[0,1,2,3,4,5,6,7,8],[0,1,2,3,4,5,6,7,8,9],[0,1,2,3,4,5,6,7,8,9,10],[0,1,2,3,4,5,6,7,8,9,10],[0,1,2,3,4,5,6,7,8,9,10,11],[0,1,2,3,4,5,6,7,8,9,10,12]] [VIs (.int .i64 (P)), VIs (.slice (some ⟨gx, ox, none⟩) (pw j) cv), VIs (.int .i64 (k)), VIs (.pointer (some ⟨gx, ox + k, none⟩)), VIs (.int .i64 (xa)), VIs (.slice (some ⟨gy, oy, none⟩) (pw j) cy), VIs (.int .i64 (k)), VIs (.pointer (some ⟨gy, oy + k, none⟩)), VIs (.int .i64 (ya)), VIs (.tuple #[.int .i64 fct, .int .i64 0]), VIs (.tuple #[.int .i64 fct, .int .i64 0]), VIs (.int .i64 (fct)), VIs (.int .i64 (0)), VIs (.int .i64 (fct)), VIs (.int .i64 (0))] (fun w' => Below wr.heap.size wr w') (by kernel_rfl) (by kernel_rfl) (fun _ _ h hb => h.trans (hb.mono h.size)) (zG.drew) (fun x => ?_)
           refine zS (fun w' hS hV K hK => ?_) ?_
           · have cx9 := HCX.out _ hS; have cy9 := HCY.out _ hS; go_simp; exact zO hK
           refine zS (fun w' hS hV K hK => ?_) ?_
           · have cx9 := HCX.out _ hS; have cy9 := HCY.out _ hS; go_simp; exact zO hK
           refine zS (fun w' hS hV K hK => ?_) ?_
           · have cx9 := HCX.out _ hS; have cy9 := HCY.out _ hS; go_simp; exact zO hK
           refine zS (fun w' hS hV K hK => ?_) ?_
           · have e1 := zQ hV 1; have e2 := zQ hV 2; have cx9 := HCX.out _ hS; have cy9 := HCY.out _ hS; go_simp; exact zO hK
           refine zS (fun w' hS hV K hK => ?_) ?_
           · have e3 := zQ hV 3; have cx9 := HCX.out _ hS; have cy9 := HCY.out _ hS; go_simp; exact zO hK
           refine zS (fun w' hS hV K hK => ?_) ?_
           · have cx9 := HCX.out _ hS; have cy9 := HCY.out _ hS; go_simp; exact zO hK
           refine zS (fun w' hS hV K hK => ?_) ?_
           · have cx9 := HCX.out _ hS; have cy9 := HCY.out _ hS; go_simp; exact zO hK
           refine zS (fun w' hS hV K hK => ?_) ?_
           · have e5 := zQ hV 5; have e6 := zQ hV 6; have cx9 := HCX.out _ hS; have cy9 := HCY.out _ hS; go_simp; exact zO hK
           refine zS (fun w' hS hV K hK => ?_) ?_
           · have e7 := zQ hV 7; have cx9 := HCX.out _ hS; have cy9 := HCY.out _ hS; go_simp; exact zO hK
           refine zS (fun w' hS hV K hK => ?_) ?_
           · have e0 := zQ hV 0; have e4 := zQ hV 4; have e8 := zQ hV 8; have cx9 := HCX.out _ hS; have cy9 := HCY.out _ hS; go_simp; have hdv := DivideNumbers_ok P xa ya w' HPP.out hxa2.1 hxa2.2 hya2.1 hya2.2 hya0; rw [← HFC.out] at hdv; refine hdv.mono ?_; rintro e v1 ⟨rfl, hb⟩; exact hK.out _ _ _ rfl rfl rfl hb
           refine zS (fun w' hS hV K hK => ?_) ?_
           · have e9 := zQ hV 9; have cx9 := HCX.out _ hS; have cy9 := HCY.out _ hS; go_simp; exact zO hK
           refine zS (fun w' hS hV K hK => ?_) ?_
           · have e10 := zQ hV 10; have cx9 := HCX.out _ hS; have cy9 := HCY.out _ hS; go_simp; exact zO hK
           refine zS (fun w' hS hV K hK => ?_) ?_
           · have e10 := zQ hV 10; have cx9 := HCX.out _ hS; have cy9 := HCY.out _ hS; go_simp; exact zO hK
           refine zS (fun w' hS hV K hK => ?_) ?_
           · have e11 := zQ hV 11; have cx9 := HCX.out _ hS; have cy9 := HCY.out _ hS; go_simp; exact zO hK
           refine zS (fun w' hS hV K hK => ?_) ?_
           · have e12 := zQ hV 12; have cx9 := HCX.out _ hS; have cy9 := HCY.out _ hS; go_simp; exact zO hK
           refine fun w' hS hV => ?_
           have e0 := zT hV 0
           have e1 := zT hV 1
           have e2 := zT hV 2
           have e3 := zT hV 3
           have e4 := zT hV 4
           have e5 := zT hV 5
           have e6 := zT hV 6
           have e7 := zT hV 7
           have e8 := zT hV 8
           have e9 := zT hV 9
           have e10 := zT hV 10
           have e11 := zT hV 11
           have e12 := zT hV 12
           have e13 := zT hV 13
           have e14 := zT hV 14
           simp only [e0, e1, e2, e3, e4, e5, e6, e7, e8, e9, e10, e11, e12, e13, e14]
           clear e0 e1 e2 e3 e4 e5 e6 e7 e8 e9 e10 e11 e12 e13 e14
           refine wpAny_done (by kernel_rfl) ?_ _
           have hb7 := hbr.trans (hS.mono hbr.size)
           obtain ⟨w40, hw40⟩ : ∃ W, W = w' := ⟨_, rfl⟩
           rw [← hw40] at hb7 ⊢
           replace o_sq := o_sq.below hb7
           replace o_x := o_x.below hb7
           replace o_y := o_y.below hb7
           replace k_s := k_s.below hb7 k_s.lt
           replace D := D.then hb7
           clear hb7 hbr hS hw40 HCX HCY hcx hcy
           have HCMY : Hid (codeM P xs [Y] = 0) := Lib.hid (codeM_mk HSP.out (all_one ⟨by rw [HYN.out.1, HSL.out], HYN.out.2⟩))
           have hcall := ScaleMultivector_ok P A j c xs (some ⟨gy, oy, none⟩) (pw j) cy Y fct w40 (by omega) (by omega) o_sq.rd o_y.rd o_y.cap HCMY.out hfc2.1 hfc2.2
           rw [HSC.out] at hcall
           obtain ⟨q0, q1⟩ := k_s.two
           go_wp2_with fail
           refine hcall.mono ?_
           rintro e w41 ⟨Az, cz, rfl, hM⟩
           have hb7 := hM.b
           have o_z := hM.2.base D.size
           replace o_sq := o_sq.below hb7
           replace o_x := o_x.below hb7
           replace o_y := o_y.below hb7
           replace k_s := k_s.below hb7 k_s.lt
           replace D := D.then hb7
           clear hM hb7 hcall q0 q1
           have e4 : (fct == 0) = false := by simpa using hfc0
           have hcall := likeInts_any Az (some ⟨gx, ox, none⟩) (pw j) (pw j) cz cv X X w41 (by omega) (by omega) o_z.rd o_x.rd
           rw [decide_eq_true rfl] at hcall
           go_wp2_with fail
           refine hcall.mono ?_
           rintro e w42 ⟨rfl, j9, rfl⟩
           have hb7 := below_drewN (Below.refl w41.heap.size w41) j9
           replace o_sq := o_sq.below hb7
           replace o_x := o_x.below hb7
           replace o_y := o_y.below hb7
           replace o_z := o_z.below hb7
           replace k_s := k_s.below hb7 k_s.lt
           replace D := D.then hb7
           clear o_x o_y o_z
           clear hb7 hcall e4 e3 HCMY HSC HXN HYN HXA HYA HFC hya0 hya2 hxa2 hfc0 hfc2 e1
           obtain ⟨w43, hw43⟩ : ∃ W, W = w41.drewN j9 := ⟨_, rfl⟩
           rw [← hw43] at o_sq k_s D ⊢
           clear hw43
           have HGP := Lib.hid fun (w' : World) (A9 : Option Addr) (c9 : Nat) (X9 : List Int) (ha : Rd w' A j (ints xs)) (h9 : Rd w' A9 (pw j) (ints X9)) (hc : pw j ≤ c9) (hl : X9.length = pw j) (hu : NumsL P X9) => GradePart_ok P A j c xs A9 (pw j) c9 X9 2 w' (by omega) (by omega) ha h9 hc (codeM_mk HSP.out (all_one ⟨by rw [hl, HSL.out], hu⟩)) (by omega)
           have HGF := Lib.hid fun (X9 : List Int) (hl : X9.length = pw j) (hu : NumsL P X9) => (show (partG X9 2).length = pw j ∧ NumsL P (partG X9 2) ∧ onlyL (partG X9 2) 2 = true from ⟨by rw [partG_len, hl], partG_nums (by omega) hu 2, partG_two (by rw [hl]; omega)⟩)
           obtain ⟨q0, q1⟩ := k_s.two
           go_wp2
           refine wp_obsR 12 (Dr g 100) [[], [], [], [2], [], [1, 2, 3, 4], [0, 1, 2, 3, 4, 5], [0, 1, 2, 3, 4, 5, 6], [0, 1, 2, 3, 4, 5, 6, 7], [0, 1, 2, 3, 4, 5, 6, 7], [0, 1, 2, 3, 4, 5, 6, 7, 8], [0, 1, 2, 3, 4, 5, 6, 7, 9]] [[], [], [], [], [], [99], [], [], [], [], [], []] (fun x => [VIs (.agg #[.int .i64 P, .slice A j c]), VIs (.pointer (some ⟨g, 0, none⟩)), VIs (.agg #[.int .i64 P, .slice A j c]), VIs (.int .i64 (pw j)), VIs (.int .i64 (P)), VLs w2.heap.size (pw j) P, VTxT w2.heap.size (pw j) P, VTxT w2.heap.size (pw j) P, VLoT w2.heap.size (pw j) P, VIs (.int .i64 (0)), VLoT w2.heap.size (pw j) P, VIs (.int .i64 (0))]) (fun w' => Blk w' w20.heap.size 26 #[.int .i64 P, .slice A j c] ∧ Own w' w2.heap.size 2 A j c (ints xs) ∧ Dr g 100 w2 w') (by kernel_rfl) (by kernel_rfl) (fun x x' j hx => by
               rcases j with _ | _ | _ | _ | _ | _ | _ | _ | _ | _ | _ | _ | j
               · rfl
               · rfl
               · rfl
               · rfl
               · rfl
               · rfl
               · rfl
               · rfl
               · rfl
               · rfl
               · rfl
               · rfl
               · rfl)
            (weak_ofR [0, 1, 2, 3, 4, 5, 6, 7, 8, 9, 10, 11] (by decide) (fun k hk x v w w' hp hr => by
             simp only [List.mem_cons, zJ, or_false] at hk
             rcases hk with rfl | rfl | rfl | rfl | rfl | rfl | rfl | rfl | rfl | rfl | rfl | rfl
             · exact hp
             · exact hp
             · exact hp
             · exact hp
             · exact hp
             · exact VLs.dr hp hr (by decide)
             · exact VTxT.dr hp hr (by decide)
             · exact VTxT.dr hp hr (by decide)
             · exact VLoT.dr hp hr (by decide)
             · exact hp
             · exact VLoT.dr hp hr (by decide)
             · exact hp)) (fun j _ _ h hb => hb.either (fun hb => ⟨h.1.below hb h.1.lt, h.2.1.below hb, h.2.2.then hb⟩) (fun hr => ⟨h.1.dr hr (by decide), h.2.1.dr hr (by decide), h.2.2.trans hr⟩)) (⟨k_s.drew, o_sq.below zG.drew, D.then zG.drew⟩) (fun x => ?_)
           refine zSR (fun w' hS hV K hK => ?_) ?_
           · obtain ⟨q0, q1⟩ := hS.1.two; go_simp; exact hK.out _ _ _ rfl rfl rfl zG
           refine zSR (fun w' hS hV K hK => ?_) ?_
           · obtain ⟨q0, q1⟩ := hS.1.two; go_simp; exact hK.out _ _ _ rfl rfl rfl zG
           refine zSR (fun w' hS hV K hK => ?_) ?_
           · obtain ⟨q0, q1⟩ := hS.1.two; go_simp; exact hK.out _ _ _ rfl rfl rfl zG
           refine zSR (fun w' hS hV K hK => ?_) ?_
           · have e2 := zQ hV 2; obtain ⟨q0, q1⟩ := hS.1.two; go_simp; refine (size5_any P A j c w' (by omega)).mono ?_; rintro e v1 ⟨rfl, hb⟩; exact hK.out _ _ _ rfl rfl rfl hb
           refine zSR (fun w' hS hV K hK => ?_) ?_
           · obtain ⟨q0, q1⟩ := hS.1.two; go_simp; exact hK.out _ _ _ rfl rfl rfl zG
           refine zSR (fun w' hS hV K hK => ?_) ?_
           · have e1 := zQ hV 1; have e3 := zQ hV 3; have e4 := zQ hV 4; obtain ⟨q0, q1⟩ := hS.1.two; go_simp; refine (belowList_any g P (pw j) w' hS.2.2.s' (by omega) (by omega)).mono ?_; rintro e v1 ⟨A9, c9, xs9, rfl, hl9, hx9, ho9, hd9⟩; exact hK.out _ _ _ rfl rfl ⟨_, _, xs9, rfl, hl9, nums_of (by omega) hx9, ho9.base hS.2.2.size⟩ (StepR.rel rfl hd9)
           refine zSR (fun w' hS hV K hK => ?_) ?_
           · have e0 := zQ hV 0; obtain ⟨A5, c5, X5, e5, l5, u5, h5⟩ := hV 5 (by decide); obtain ⟨q0, q1⟩ := hS.1.two; go_simp; refine (HGP.out _ _ _ _ hS.2.1.rd h5.rd h5.cap l5 u5).mono ?_; rintro e v1 ⟨A9, c9, rfl, hM⟩; exact hK.out _ _ _ rfl rfl ⟨_, _, _, rfl, HGF.out _ l5 u5, hM.2.base hS.2.2.size⟩ hM.b
           refine zSR (fun w' hS hV K hK => ?_) ?_
           · obtain ⟨A5, c5, X5, e5, l5, u5, h5⟩ := hV 5 (by decide); obtain ⟨A6, c6, X6, e6, l6, h6⟩ := hV 6 (by decide); obtain ⟨q0, q1⟩ := hS.1.two; go_simp; exact hK.out _ _ _ rfl rfl ⟨_, _, _, rfl, l6, h6⟩ zG
           refine zSR (fun w' hS hV K hK => ?_) ?_
           · obtain ⟨A5, c5, X5, e5, l5, u5, h5⟩ := hV 5 (by decide); obtain ⟨A6, c6, X6, e6, l6, h6⟩ := hV 6 (by decide); obtain ⟨A7, c7, X7, e7, l7, h7⟩ := hV 7 (by decide); obtain ⟨q0, q1⟩ := hS.1.two; go_simp; exact hK.out _ _ _ rfl rfl ⟨_, _, _, rfl, l7, h7⟩ zG
           refine zSR (fun w' hS hV K hK => ?_) ?_
           · obtain ⟨A5, c5, X5, e5, l5, u5, h5⟩ := hV 5 (by decide); obtain ⟨A6, c6, X6, e6, l6, h6⟩ := hV 6 (by decide); obtain ⟨A7, c7, X7, e7, l7, h7⟩ := hV 7 (by decide); obtain ⟨q0, q1⟩ := hS.1.two; go_simp; exact hK.out _ _ _ rfl rfl rfl zG
           refine zSR (fun w' hS hV K hK => ?_) ?_
           · obtain ⟨A5, c5, X5, e5, l5, u5, h5⟩ := hV 5 (by decide); obtain ⟨A6, c6, X6, e6, l6, h6⟩ := hV 6 (by decide); obtain ⟨A7, c7, X7, e7, l7, h7⟩ := hV 7 (by decide); obtain ⟨A8, c8, X8, e8, l8, h8⟩ := hV 8 (by decide); obtain ⟨q0, q1⟩ := hS.1.two; go_simp; exact hK.out _ _ _ rfl rfl ⟨_, _, _, rfl, l8, h8⟩ zG
           refine zSR (fun w' hS hV K hK => ?_) ?_
           · obtain ⟨A5, c5, X5, e5, l5, u5, h5⟩ := hV 5 (by decide); obtain ⟨A6, c6, X6, e6, l6, h6⟩ := hV 6 (by decide); obtain ⟨A7, c7, X7, e7, l7, h7⟩ := hV 7 (by decide); have e9 := zQ hV 9; obtain ⟨q0, q1⟩ := hS.1.two; go_simp; exact hK.out _ _ _ rfl rfl rfl zG
           refine fun w' hS hV => ?_
           have e0 := zQ hV 0
           have e1 := zQ hV 1
           have e2 := zQ hV 2
           have e3 := zQ hV 3
           have e4 := zQ hV 4
           obtain ⟨A5, c5, X5, e5, l5, u5, h5⟩ := hV 5 (by decide)
           obtain ⟨A6, c6, X6, e6, l6, h6⟩ := hV 6 (by decide)
           obtain ⟨A7, c7, X7, e7, l7, h7⟩ := hV 7 (by decide)
           obtain ⟨A8, c8, X8, e8, l8, h8⟩ := hV 8 (by decide)
           have e9 := zQ hV 9
           obtain ⟨A10, c10, X10, e10, l10, h10⟩ := hV 10 (by decide)
           have e11 := zQ hV 11
           simp only [e0, e1, e2, e3, e4, e5, e6, e7, e8, e9, e10, e11]
           clear e0 e1 e2 e3 e4 e5 e6 e7 e8 e9 e10 e11
           refine wpAny_done (by kernel_rfl) ?_ _
           obtain ⟨w50, hw50⟩ : ∃ W, W = w' := ⟨_, rfl⟩
           replace k_s := hS.1
           replace o_sq := hS.2.1
           replace D := hS.2.2
           have o_b := h10
           have HBV := Lib.hid l10
           obtain ⟨Ab, hAb⟩ : ∃ V, V = A10 := ⟨_, rfl⟩
           obtain ⟨cb9, hcb⟩ : ∃ V, V = c10 := ⟨_, rfl⟩
           obtain ⟨Bv, hBv⟩ : ∃ V, V = X10 := ⟨_, rfl⟩
           rw [← hAb, ← hcb, ← hBv] at o_b
           rw [← hBv] at HBV
           rw [← hAb, ← hcb]
           rw [← hw50] at o_b k_s o_sq D ⊢
           clear hw50 hS hAb hcb hBv HGP HGF q0 q1
           have HCB : Hid (codeB P xs [Bv] = 0) := Lib.hid (codeB_mk HSP.out HREG.out (all_one ⟨by rw [HBV.out.1, HSL.out], HBV.out.2.1⟩) (all_one HBV.out.2.2))
           obtain ⟨SK, hSK⟩ : ∃ S, S = matL P xs j Bv := ⟨_, rfl⟩
           have HTS : Hid (Tab P j SK ∧ SK.length = j) := Lib.hid (by rw [hSK]; exact ⟨matL_tab (by omega) _ _ _, matL_len (by omega) _ (by omega) _⟩)
           have HSK := Lib.hid hSK
           clear hSK
           have hcall := MatrixOfBivector_any P A j c xs Ab (pw j) cb9 Bv w50 (by omega) (by omega) o_sq.rd o_b.rd o_b.cap
           rw [mobR_ok HCB.out, HSL.out, ← HSK.out] at hcall
           obtain ⟨q0, q1⟩ := k_s.two
           go_wp2_with fail
           refine hcall.mono ?_
           rintro e w51 ⟨Ak, kk9, ck, rfl, hM⟩
           have hb7 := hM.b
           have m_k := (OwnM.of hM).base D.size
           replace o_sq := o_sq.below hb7
           replace o_b := o_b.below hb7
           replace k_s := k_s.below hb7 k_s.lt
           replace D := D.then hb7
           clear hM hb7 hcall q0 q1
           obtain rfl : j = kk9 := by rw [← m_k.rd.len]; exact HTS.out.2.symm
           clear o_b
           clear HCB HSK HBV
           obtain ⟨⟨G, z⟩, hGz⟩ : ∃ R, R = cofR P xs SK := ⟨_, rfl⟩
           have HGZ := Lib.hid hGz
           clear hGz
           have hcall := CayleyOf_any P A j c xs Ak j ck SK j w51 (by omega) (by omega) (by omega) (by omega) (by omega) o_sq.rd m_k.rd (fun r hr => (HTS.out.1 r hr).1)
           rw [← HGZ.out] at hcall
           obtain ⟨q0, q1⟩ := k_s.two
           go_wp2_with fail
           refine hcall.mono ?_
           rintro e w52 ⟨Ag, kg, cg, rfl, hM⟩
           have hb7 := hM.b
           have m_g := (OwnM.of hM).base D.size
           replace o_sq := o_sq.below hb7
           replace k_s := k_s.below hb7 k_s.lt
           replace m_k := m_k.below hb7
           replace D := D.then hb7
           clear hM hb7 hcall q0 q1
           clear m_k
           have hcF : codeF P xs SK = 0 := codeF_mk HSP.out HREG.out (by rw [HTS.out.2, HSL.out]) (by rw [HSL.out]; exact HTS.out.1)
           by_cases hz : z = 0
           · subst hz
             obtain ⟨c1, c2, c3, c4, -⟩ := cof_law hcF HGZ.out.symm
             obtain rfl : j = kg := by rw [← m_g.rd.len, c1, HSL.out]
             have hcall := IsProper_ok P A j c xs Ag cg G w52 HSP.out HREG.out o_sq.rd m_g.rd c3
             rw [c4] at hcall
             clear c1 c2 c3 c4 hcF
             obtain ⟨q0, q1⟩ := k_s.two
             go_wp2_with fail
             refine hcall.mono ?_
             rintro e w53 ⟨rfl, hb7⟩
             replace D := D.then hb7
             go_wp2
             go_ret
             exact ⟨rfl, hb2.trans (D.b.mono hg)⟩
           · have hz5 : z = 5 := by
              have h := HGZ.out
              unfold cofR at h
              rw [if_pos hcF] at h
              split at h
              · exact absurd (Prod.mk.inj h).2 hz
              · exact (Prod.mk.inj h).2
             subst hz5
             clear hcF hz
             go_wp2
             go_ret
             exact ⟨rfl, hb2.trans (D.b.mono hg)⟩
end Go.Proofs.YtmkjdpnoloofjaaGreat
