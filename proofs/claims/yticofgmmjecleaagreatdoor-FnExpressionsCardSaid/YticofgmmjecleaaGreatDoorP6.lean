/-
  LawFnExpressions: part 6 of the texts that the proof needs. No condition.
-/
import Derived.Test.YticofgmmjecleaaGreatDoorP5
namespace Go.Proofs.YticofgmmjecleaaGreatDoor
open Go Go.RowKit
set_option maxHeartbeats 800000 in
set_option maxRecDepth 8000 in
theorem text_any (p a : Int) (w : World) (hp : 2 ≤ p) (hp2 : p ≤ 13) (h0 : 0 ≤ a) (h1 : a < p) (he : Env w) :
    Calls Tryz.prog 99 #[.int .i64 p, .int .i64 a] w fun e w' => e = .returned (.string ⟨(txtN p a).toArray⟩) ∧ Below w.heap.size w w' := by
  have q1 : Int.tdiv (p - 1) 2 = (p - 1) / 2 := Int.tdiv_eq_ediv_of_nonneg (by omega)
  have W1 : wrap64 (p - 1) = p - 1 := by unfold wrap64; omega
  have W2 : wrap64 ((p - 1) / 2) = (p - 1) / 2 := by unfold wrap64; omega
  by_cases h : (p - 1) / 2 < a
  · have d : decide ((p - 1) / 2 < a) = true := decide_eq_true h
    have W3 : wrap64 (a - p) = a - p := by unfold wrap64; omega
    have ht : txtN p a = Lib.itoa (a - p) := by unfold txtN; rw [if_pos h]
    rw [ht]
    have hF := FormatInt_any (a - p) (by omega) (by omega) w he
    clear ht h
    go_enter Tryz.func99, Tryz.ntmps99
    go_wp2_with fail
    refine hF.mono ?_
    rintro e w1 ⟨rfl, hb⟩
    go_wp2
    go_ret
    exact ⟨rfl, hb⟩
  · have d : decide ((p - 1) / 2 < a) = false := decide_eq_false h
    have ht : txtN p a = Lib.itoa a := by unfold txtN; rw [if_neg h]
    rw [ht]
    have hF := FormatInt_any a (by omega) (by omega) w he
    clear ht h
    go_enter Tryz.func99, Tryz.ntmps99
    go_wp2_with fail
    refine hF.mono ?_
    rintro e w1 ⟨rfl, hb⟩
    go_wp2
    go_ret
    exact ⟨rfl, hb⟩
theorem prefix_head (t : By) : Lib.hasPrefix t [45] = (t.head? == some 45) := by
  cases t with
  | nil => rfl
  | cons a l =>
    unfold Lib.hasPrefix
    show ((45 : UInt8) == a && true) = (some a == some 45)
    rw [Bool.and_true]
    show ((45 : UInt8) == a) = (a == 45)
    exact BEq.comm
theorem num_short : ([3, 5, 7, 11, 13].all fun p : Nat => (List.range p).all fun a => decide ((txtN p a).length ≤ 3)) = true := by decide +kernel
theorem txtN_len {p : Int} (hP : isP p = true) {a : Int} (h0 : 0 ≤ a) (h1 : a < p) : (txtN p a).length ≤ 3 := by
  obtain ⟨q, rfl, hq⟩ := isP_list hP
  have h := List.all_eq_true.1 (List.all_eq_true.1 num_short q hq) a.toNat (List.mem_range.2 (by omega))
  rw [show ((a.toNat : Nat) : Int) = a by omega] at h
  exact of_decide_eq_true h
/-- What the loop makes of a term's number. -/
def stepO (out t : By) : By := out ++ ((if out ≠ [] ∧ t.head? ≠ some 45 then [43] else []) ++ t)
theorem stepO_plus {out t : By} (h1 : out.isEmpty = false) (h2 : Lib.hasPrefix t [45] = false) : stepO out t = out ++ [43] ++ t := by
  rw [prefix_head] at h2
  unfold stepO
  rw [if_pos ⟨fun e => (by rw [e] at h1; cases h1), (by simpa using h2)⟩, List.append_assoc]
theorem stepO_minus {out t : By} (h2 : Lib.hasPrefix t [45] = true) : stepO out t = out ++ t := by
  rw [prefix_head] at h2
  unfold stepO
  rw [if_neg (fun h => h.2 (by simpa using h2))]; rfl
theorem stepO_nil {out t : By} (h1 : out.isEmpty = true) : stepO out t = out ++ t := by
  unfold stepO
  rw [if_neg (fun h => h.1 (by simpa using h1))]; rfl
theorem textTo_step0 {p : Int} {n : Nat} {x : List Int} {k : Nat} (hk : k < x.length) (h : x[k] = 0) : textTo p n x (k + 1) = textTo p n x k := by
  rw [textTo, if_pos (by rw [List.getD_eq_getElem?_getD, List.getElem?_eq_getElem hk]; exact h)]
theorem textTo_step1 {p : Int} {n : Nat} {x : List Int} {k : Nat} (hk : k < x.length) (h : x[k] ≠ 0) : textTo p n x (k + 1) = stepO (textTo p n x k) (termL p n k x[k]) := by
  have e : x.getD k 0 = x[k] := by rw [List.getD_eq_getElem?_getD, List.getElem?_eq_getElem hk]; rfl
  rw [textTo, e, if_neg h]; rfl
set_option maxHeartbeats 3200000 in
set_option maxRecDepth 8000 in
theorem multiText_any (P : Int) (A X : Option Addr) (n c d : Nat) (x : List Int) (w : World) (hP : isP P = true) (hn : n ≤ 6) (hx : NumsL P x) (hl : x.length = pw n) (hX : Rd w X (pw n) (ints x)) (he : Env w) :
    Calls Tryz.prog 61 #[.agg #[.int .i64 P, .slice A n c], .slice X (pw n) d] w fun e w' => e = .returned (.string ⟨(textL P n x).toArray⟩) ∧ Below w.heap.size w w' := by
  have hB0 : Below w.heap.size w (w.alloc (.cells #[.int .i64 P, .slice A n c] 28)) := (Below.refl _ _).alloc (Nat.le_refl _) _
  have k0 : Blk (w.alloc (.cells #[.int .i64 P, .slice A n c] 28)) w.heap.size 28 #[.int .i64 P, .slice A n c] := Blk.new _ _ _
  have hge := isP_ge hP
  have hpw : pw n ≤ 64 := pw_le hn
  obtain ⟨m, hm⟩ : ∃ m, m = pw n := ⟨_, rfl⟩
  rw [← hm] at hl hX hpw ⊢
  have HP := Lib.hid hP
  have HX := Lib.hid hx
  have HLM := Lib.hid hl
  obtain ⟨R, hR⟩ : ∃ R, R = textL P n x := ⟨_, rfl⟩
  have HR : Hid (R = if textTo P n x m = [] then [48] else textTo P n x m) := Lib.hid (by rw [hR]; unfold textL; rw [hl])
  rw [← hR]
  clear hx hl hR hm hP
  go_enter Tryz.func61, Tryz.ntmps61
  go_wp2
  go_loopw [5, 11] (fun o i wr => ∃ (k : Nat) (out : By), k ≤ m ∧ i = .int .i64 (k : Int) ∧ o = .string ⟨out.toArray⟩ ∧ Hid (out = textTo P n x k) ∧ Hid (out.length ≤ 20 * k) ∧ Below w.heap.size w wr ∧ Blk wr w.heap.size 28 #[.int .i64 P, .slice A n c]) (fun _ i _ => m - (intOf i).toNat)
  case atStart => exact ⟨0, [], Nat.zero_le _, rfl, rfl, Lib.hid rfl, Lib.hid (Nat.zero_le _), hB0, k0⟩
  case round =>
    obtain ⟨k, out, hk, rfl, rfl, ho, hol, hB, kb⟩ := hrel
    clear hB0 k0
    by_cases hlt : k < m
    · obtain ⟨g, o, rfl, hxk, hcx⟩ := (hX.below hB).int hlt
      obtain ⟨a0, a1⟩ := HX.out x[k] (List.getElem_mem hxk)
      have hs0 := textTo_step0 (p := P) (n := n) hxk
      have hs1 := textTo_step1 (p := P) (n := n) hxk
      obtain ⟨a, ha⟩ : ∃ a, a = x[k] := ⟨_, rfl⟩
      rw [← ha] at hcx a0 a1 hs0 hs1
      clear ha
      obtain ⟨q0, q1⟩ := kb.two
      by_cases h0 : a = 0
      · subst h0
        have HO : Hid (out = textTo P n x (k + 1)) := Lib.hid (by rw [hs0 rfl]; exact ho.out)
        clear hs0 hs1 ho
        go_wp2
        go_roundw
        case rel => exact ⟨k + 1, out, by omega, by go_num, rfl, HO, Lib.hid (by have := hol.out; omega), hB, kb⟩
        case measure => simp [intOf]; omega
      have e0 : (a == 0) = false := by simpa using h0
      have HO : Hid (textTo P n x (k + 1) = stepO out (termL P n k a)) := Lib.hid (by rw [hs1 h0, ← ho.out])
      have htl := txtN_len HP.out a0 a1
      clear hs0 hs1 ho
      have htx := fun (wx : World) (hbx : Below w.heap.size w wx) => text_any P a wx (by omega) (by omega) a0 a1 (he.below hbx (Nat.le_refl _))
      obtain ⟨y, hy⟩ : ∃ y, y = txtN P a := ⟨_, rfl⟩
      rw [← hy] at htx htl
      have HTN : Hid (txtN P a = y) := Lib.hid hy.symm
      have HTX := Lib.hid htx
      clear hy htx hxk
      go_wp2_with fail
      refine (field_any P A n c wr).mono ?_
      rintro e w4 ⟨rfl, hb4⟩
      have hB4 := hB.trans (hb4.mono hB.size)
      have kb4 := kb.below hb4 kb.lt
      have htx4 := HTX.out w4 hB4
      clear hb4 hB kb q0 q1 hcx
      obtain ⟨q0, q1⟩ := kb4.two
      go_wp2_with fail
      refine htx4.mono ?_
      rintro e w5 ⟨rfl, hb5⟩
      have HB5 := Lib.hid (hB4.trans (hb5.mono hB4.size))
      have kb5 := kb4.below hb5 kb4.lt
      clear htx4 HTX hb5 hB4 kb4 q0 q1
      by_cases hk0 : k = 0
      · subst hk0
        have HTL : Hid (termL P n 0 a = y) := Lib.hid (by unfold termL; rw [if_pos rfl]; exact HTN.out)
        have HBW := HB5
        have kbw := kb5
        have htt : y.length ≤ 10 := by omega
        obtain ⟨t, rfl⟩ : ∃ t, t = y := ⟨_, rfl⟩
        have HSO : Hid (textTo P n x (0 + 1) = stepO out t) := Lib.hid (by rw [HO.out, HTL.out])
        have HTT := Lib.hid htt
        have hct := fun wx => cat_big (P := Tryz.prog) wx out t (by have := hol.out; omega)
        have HLL : Hid ((out ++ t).length ≤ 20 * (0 + 1)) := Lib.hid (by have := hol.out; rw [List.length_append]; omega)
        cases hemp : out.isEmpty
        · cases hh : Lib.hasPrefix t [45]
          · have HS2 := Lib.hid (stepO_plus hemp hh)
            have hc1 := fun wx => cat_big (P := Tryz.prog) wx out [43] (by have := hol.out; simp only [List.length_cons, List.length_nil]; omega)
            have hc2 := fun wx => cat_big (P := Tryz.prog) wx (out ++ [43]) t (by have := hol.out; simp only [List.length_append, List.length_cons, List.length_nil]; omega)
            have HL2 : Hid ((out ++ [43] ++ t).length ≤ 20 * (0 + 1)) := Lib.hid (by have := hol.out; simp only [List.length_append, List.length_cons, List.length_nil]; omega)
            have HH := Lib.hid hh
            clear htt hct hh
            generalize out ++ [43] ++ t = z2 at *
            generalize out ++ [43] = z1 at *
            go_wp2_with fail
            refine (HasPrefix_any t [45] _).mono ?_
            rintro e w9 ⟨rfl, rfl⟩
            rw [HH.out]
            go_wp2
            go_roundw
            case rel => exact ⟨0 + 1, z2, by omega, by go_num, rfl, Lib.hid (by rw [HSO.out, HS2.out]), HL2, HBW.out, kbw⟩
            case measure => simp [intOf]; omega
          · have HS2 := Lib.hid (stepO_minus (out := out) hh)
            have HH := Lib.hid hh
            clear htt hh
            generalize out ++ t = z2 at *
            go_wp2_with fail
            refine (HasPrefix_any t [45] _).mono ?_
            rintro e w9 ⟨rfl, rfl⟩
            rw [HH.out]
            go_wp2
            go_roundw
            case rel => exact ⟨0 + 1, z2, by omega, by go_num, rfl, Lib.hid (by rw [HSO.out, HS2.out]), HLL, HBW.out, kbw⟩
            case measure => simp [intOf]; omega
        · have HS2 := Lib.hid (stepO_nil (t := t) hemp)
          clear htt
          generalize out ++ t = z2 at *
          go_wp2
          go_roundw
          case rel => exact ⟨0 + 1, z2, by omega, by go_num, rfl, Lib.hid (by rw [HSO.out, HS2.out]), HLL, HBW.out, kbw⟩
          case measure => simp [intOf]; omega
      have hkn : ((k : Int) != 0) = true := by rw [bne_iff_ne]; omega
      obtain ⟨q0, q1⟩ := kb5.two
      by_cases y1 : y = [49]
      · subst y1
        have hnm := nameOf_any P A n c k w5 hn (by omega)
        have hnl : (nameL n k).length ≤ 7 := by unfold nameL; rw [if_neg hk0]; exact Nat.le_trans (nameTo_len k n) (by omega)
        have hcn := fun wx => cat_big (P := Tryz.prog) wx [] (nameL n k) (by simp only [List.length_cons, List.length_nil]; omega)
        obtain ⟨t, ht⟩ : ∃ t, t = [] ++ nameL n k := ⟨_, rfl⟩
        have HTL : Hid (termL P n k a = t) := Lib.hid (by rw [ht]; unfold termL; rw [if_neg hk0]; unfold numP; rw [HTN.out]; rfl)
        have htt : t.length ≤ 10 := by rw [ht, List.length_append]; first | omega | (simp only [List.length_cons, List.length_nil]; omega)
        rw [← ht] at hcn
        generalize nameL n k = nm at *
        clear ht hnl
        go_wp2_with fail
        refine hnm.mono ?_
        rintro e w6 ⟨rfl, hb6⟩
        have HBW := Lib.hid (HB5.out.trans (hb6.mono HB5.out.size))
        have kbw := kb5.below hb6 kb5.lt
        clear hnm hb6 HB5 kb5 q0 q1
        have HSO : Hid (textTo P n x (k + 1) = stepO out t) := Lib.hid (by rw [HO.out, HTL.out])
        have HTT := Lib.hid htt
        have hct := fun wx => cat_big (P := Tryz.prog) wx out t (by have := hol.out; omega)
        have HLL : Hid ((out ++ t).length ≤ 20 * (k + 1)) := Lib.hid (by have := hol.out; rw [List.length_append]; omega)
        cases hemp : out.isEmpty
        · cases hh : Lib.hasPrefix t [45]
          · have HS2 := Lib.hid (stepO_plus hemp hh)
            have hc1 := fun wx => cat_big (P := Tryz.prog) wx out [43] (by have := hol.out; simp only [List.length_cons, List.length_nil]; omega)
            have hc2 := fun wx => cat_big (P := Tryz.prog) wx (out ++ [43]) t (by have := hol.out; simp only [List.length_append, List.length_cons, List.length_nil]; omega)
            have HL2 : Hid ((out ++ [43] ++ t).length ≤ 20 * (k + 1)) := Lib.hid (by have := hol.out; simp only [List.length_append, List.length_cons, List.length_nil]; omega)
            have HH := Lib.hid hh
            clear htt hct hh
            generalize out ++ [43] ++ t = z2 at *
            generalize out ++ [43] = z1 at *
            go_wp2_with fail
            refine (HasPrefix_any t [45] _).mono ?_
            rintro e w9 ⟨rfl, rfl⟩
            rw [HH.out]
            go_wp2
            go_roundw
            case rel => exact ⟨k + 1, z2, by omega, by go_num, rfl, Lib.hid (by rw [HSO.out, HS2.out]), HL2, HBW.out, kbw⟩
            case measure => simp [intOf]; omega
          · have HS2 := Lib.hid (stepO_minus (out := out) hh)
            have HH := Lib.hid hh
            clear htt hh
            generalize out ++ t = z2 at *
            go_wp2_with fail
            refine (HasPrefix_any t [45] _).mono ?_
            rintro e w9 ⟨rfl, rfl⟩
            rw [HH.out]
            go_wp2
            go_roundw
            case rel => exact ⟨k + 1, z2, by omega, by go_num, rfl, Lib.hid (by rw [HSO.out, HS2.out]), HLL, HBW.out, kbw⟩
            case measure => simp [intOf]; omega
        · have HS2 := Lib.hid (stepO_nil (t := t) hemp)
          clear htt
          generalize out ++ t = z2 at *
          go_wp2
          go_roundw
          case rel => exact ⟨k + 1, z2, by omega, by go_num, rfl, Lib.hid (by rw [HSO.out, HS2.out]), HLL, HBW.out, kbw⟩
          case measure => simp [intOf]; omega
      by_cases y2 : y = [45, 49]
      · subst y2
        have hnm := nameOf_any P A n c k w5 hn (by omega)
        have hnl : (nameL n k).length ≤ 7 := by unfold nameL; rw [if_neg hk0]; exact Nat.le_trans (nameTo_len k n) (by omega)
        have hcn := fun wx => cat_big (P := Tryz.prog) wx [45] (nameL n k) (by simp only [List.length_cons, List.length_nil]; omega)
        obtain ⟨t, ht⟩ : ∃ t, t = [45] ++ nameL n k := ⟨_, rfl⟩
        have HTL : Hid (termL P n k a = t) := Lib.hid (by rw [ht]; unfold termL; rw [if_neg hk0]; unfold numP; rw [HTN.out]; rfl)
        have htt : t.length ≤ 10 := by rw [ht, List.length_append]; first | omega | (simp only [List.length_cons, List.length_nil]; omega)
        rw [← ht] at hcn
        generalize nameL n k = nm at *
        clear ht hnl
        go_wp2_with fail
        refine hnm.mono ?_
        rintro e w6 ⟨rfl, hb6⟩
        have HBW := Lib.hid (HB5.out.trans (hb6.mono HB5.out.size))
        have kbw := kb5.below hb6 kb5.lt
        clear hnm hb6 HB5 kb5 q0 q1
        have HSO : Hid (textTo P n x (k + 1) = stepO out t) := Lib.hid (by rw [HO.out, HTL.out])
        have HTT := Lib.hid htt
        have hct := fun wx => cat_big (P := Tryz.prog) wx out t (by have := hol.out; omega)
        have HLL : Hid ((out ++ t).length ≤ 20 * (k + 1)) := Lib.hid (by have := hol.out; rw [List.length_append]; omega)
        cases hemp : out.isEmpty
        · cases hh : Lib.hasPrefix t [45]
          · have HS2 := Lib.hid (stepO_plus hemp hh)
            have hc1 := fun wx => cat_big (P := Tryz.prog) wx out [43] (by have := hol.out; simp only [List.length_cons, List.length_nil]; omega)
            have hc2 := fun wx => cat_big (P := Tryz.prog) wx (out ++ [43]) t (by have := hol.out; simp only [List.length_append, List.length_cons, List.length_nil]; omega)
            have HL2 : Hid ((out ++ [43] ++ t).length ≤ 20 * (k + 1)) := Lib.hid (by have := hol.out; simp only [List.length_append, List.length_cons, List.length_nil]; omega)
            have HH := Lib.hid hh
            clear htt hct hh
            generalize out ++ [43] ++ t = z2 at *
            generalize out ++ [43] = z1 at *
            go_wp2_with fail
            refine (HasPrefix_any t [45] _).mono ?_
            rintro e w9 ⟨rfl, rfl⟩
            rw [HH.out]
            go_wp2
            go_roundw
            case rel => exact ⟨k + 1, z2, by omega, by go_num, rfl, Lib.hid (by rw [HSO.out, HS2.out]), HL2, HBW.out, kbw⟩
            case measure => simp [intOf]; omega
          · have HS2 := Lib.hid (stepO_minus (out := out) hh)
            have HH := Lib.hid hh
            clear htt hh
            generalize out ++ t = z2 at *
            go_wp2_with fail
            refine (HasPrefix_any t [45] _).mono ?_
            rintro e w9 ⟨rfl, rfl⟩
            rw [HH.out]
            go_wp2
            go_roundw
            case rel => exact ⟨k + 1, z2, by omega, by go_num, rfl, Lib.hid (by rw [HSO.out, HS2.out]), HLL, HBW.out, kbw⟩
            case measure => simp [intOf]; omega
        · have HS2 := Lib.hid (stepO_nil (t := t) hemp)
          clear htt
          generalize out ++ t = z2 at *
          go_wp2
          go_roundw
          case rel => exact ⟨k + 1, z2, by omega, by go_num, rfl, Lib.hid (by rw [HSO.out, HS2.out]), HLL, HBW.out, kbw⟩
          case measure => simp [intOf]; omega
      have y1' : (y == [49]) = false := by simpa using y1
      have y2' : (y == [45, 49]) = false := by simpa using y2
      have hnm := nameOf_any P A n c k w5 hn (by omega)
      have hnl : (nameL n k).length ≤ 7 := by unfold nameL; rw [if_neg hk0]; exact Nat.le_trans (nameTo_len k n) (by omega)
      have hcn := fun wx => cat_big (P := Tryz.prog) wx y (nameL n k) (by omega)
      obtain ⟨t, ht⟩ : ∃ t, t = y ++ nameL n k := ⟨_, rfl⟩
      have HTL : Hid (termL P n k a = t) := Lib.hid (by rw [ht]; unfold termL; rw [if_neg hk0]; unfold numP; rw [HTN.out]; rw [if_neg y1, if_neg y2])
      have htt : t.length ≤ 10 := by rw [ht, List.length_append]; first | omega | (simp only [List.length_cons, List.length_nil]; omega)
      rw [← ht] at hcn
      generalize nameL n k = nm at *
      clear ht hnl
      have Y1 := Lib.hid y1
      have Y2 := Lib.hid y2
      clear y1 y2
      go_wp2_with fail
      refine hnm.mono ?_
      rintro e w6 ⟨rfl, hb6⟩
      have HBW := Lib.hid (HB5.out.trans (hb6.mono HB5.out.size))
      have kbw := kb5.below hb6 kb5.lt
      clear hnm hb6 HB5 kb5 q0 q1
      have HSO : Hid (textTo P n x (k + 1) = stepO out t) := Lib.hid (by rw [HO.out, HTL.out])
      have HTT := Lib.hid htt
      have hct := fun wx => cat_big (P := Tryz.prog) wx out t (by have := hol.out; omega)
      have HLL : Hid ((out ++ t).length ≤ 20 * (k + 1)) := Lib.hid (by have := hol.out; rw [List.length_append]; omega)
      cases hemp : out.isEmpty
      · cases hh : Lib.hasPrefix t [45]
        · have HS2 := Lib.hid (stepO_plus hemp hh)
          have hc1 := fun wx => cat_big (P := Tryz.prog) wx out [43] (by have := hol.out; simp only [List.length_cons, List.length_nil]; omega)
          have hc2 := fun wx => cat_big (P := Tryz.prog) wx (out ++ [43]) t (by have := hol.out; simp only [List.length_append, List.length_cons, List.length_nil]; omega)
          have HL2 : Hid ((out ++ [43] ++ t).length ≤ 20 * (k + 1)) := Lib.hid (by have := hol.out; simp only [List.length_append, List.length_cons, List.length_nil]; omega)
          have HH := Lib.hid hh
          clear htt hct hh
          generalize out ++ [43] ++ t = z2 at *
          generalize out ++ [43] = z1 at *
          go_wp2_with fail
          refine (HasPrefix_any t [45] _).mono ?_
          rintro e w9 ⟨rfl, rfl⟩
          rw [HH.out]
          go_wp2
          go_roundw
          case rel => exact ⟨k + 1, z2, by omega, by go_num, rfl, Lib.hid (by rw [HSO.out, HS2.out]), HL2, HBW.out, kbw⟩
          case measure => simp [intOf]; omega
        · have HS2 := Lib.hid (stepO_minus (out := out) hh)
          have HH := Lib.hid hh
          clear htt hh
          generalize out ++ t = z2 at *
          go_wp2_with fail
          refine (HasPrefix_any t [45] _).mono ?_
          rintro e w9 ⟨rfl, rfl⟩
          rw [HH.out]
          go_wp2
          go_roundw
          case rel => exact ⟨k + 1, z2, by omega, by go_num, rfl, Lib.hid (by rw [HSO.out, HS2.out]), HLL, HBW.out, kbw⟩
          case measure => simp [intOf]; omega
      · have HS2 := Lib.hid (stepO_nil (t := t) hemp)
        clear htt
        generalize out ++ t = z2 at *
        go_wp2
        go_roundw
        case rel => exact ⟨k + 1, z2, by omega, by go_num, rfl, Lib.hid (by rw [HSO.out, HS2.out]), HLL, HBW.out, kbw⟩
        case measure => simp [intOf]; omega
    · obtain rfl : k = m := by omega
      have HRO : Hid (R = if out = [] then [48] else out) := Lib.hid (by rw [HR.out, ← ho.out])
      cases hemp : out.isEmpty
      · have HRR : Hid (R = out) := Lib.hid (by rw [HRO.out, if_neg (by intro e; rw [e] at hemp; cases hemp)])
        go_wp2
        go_ret
        exact ⟨by rw [HRR.out]; rfl, hB⟩
      · have HRR : Hid (R = [48]) := Lib.hid (by rw [HRO.out, if_pos (by simpa using hemp)])
        go_wp2
        go_ret
        exact ⟨by rw [HRR.out]; rfl, hB⟩
end Go.Proofs.YticofgmmjecleaaGreatDoor
namespace Go.Proofs.YticofgmmjecleaaGreatDoor
open Go.RowKit
theorem mul_range {x k : Int} (x1 : 0 ≤ x) (x2 : x ≤ 13) (k1 : -1000 ≤ k) (k2 : k ≤ 1000) : -13000 ≤ k * x ∧ k * x ≤ 13000 := by
  have h1 := Int.mul_le_mul_of_nonneg_right k2 x1
  have h2 := Int.mul_le_mul_of_nonneg_right k1 x1
  omega
set_option maxHeartbeats 800000 in
set_option maxRecDepth 8000 in
theorem plus_any (p : Int) (A : Option Addr) (n c : Nat) (B : Option Addr) (m d : Nat) (k : Int) (xs ys : List Int) (w : World) (hp : 2 ≤ p) (hp2 : p ≤ 13) (hn : n ≤ 65536) (hnm : n ≤ m) (ha : Rd w A n (ints xs)) (hx : NumsL p xs) (hb : Rd w B m (ints ys)) (hy : NumsL p ys) (hk1 : -1000 ≤ k) (hk2 : k ≤ 1000) :
    Calls Tryz.prog 57 #[.int .i64 p, .slice A n c, .slice B m d, .int .i64 k] w fun e w' => ∃ A' c', e = .returned (.slice A' n c') ∧ MkI w w' A' n c' (plusL p xs ys k) := by
  have hxl : xs.length = n := by have := ha.1; rwa [ints_length] at this
  have Hx := Lib.hid hxl; clear hxl
  have hM0 := Mk.lit (E := 2) (Below.refl w.heap.size w) #[] (by simp)
  go_enter Tryz.func57, Tryz.ntmps57
  go_wp2
  go_loopw [9, 10, 11, 15] (fun out _ _ i wr => ∃ (j : Nat) (A' : Option Addr) (c' : Nat), j ≤ n ∧ i = .int .i64 j ∧ out = .slice A' j c' ∧ MkI w wr A' j c' (tab j fun i => (xs.getD i 0 + k * ys.getD i 0) % p)) (fun _ _ _ i _ => n - (intOf i).toNat)
  case atStart => exact ⟨0, _, _, by omega, rfl, rfl, by simpa [MkI, ints, tab] using hM0⟩
  case round =>
    obtain ⟨j, A', c', hj, rfl, rfl, hM⟩ := hrel
    clear hM0
    by_cases hlt : j < n
    · obtain ⟨g, o, rfl, hxj, hcx⟩ := (ha.below hM.b).int hlt
      obtain ⟨g2, o2, rfl, hyj, hcy⟩ := (hb.below hM.b).int (show j < m by omega)
      obtain ⟨x1, x2⟩ := hx _ (List.getElem_mem hxj)
      obtain ⟨y1, y2⟩ := hy _ (List.getElem_mem hyj)
      obtain ⟨m1, m2⟩ := mul_range y1 (show ys[j] ≤ 13 by omega) hk1 hk2
      have HV : Hid ((tab (j + 1) fun i => (xs.getD i 0 + k * ys.getD i 0) % p) = (tab j fun i => (xs.getD i 0 + k * ys.getD i 0) % p) ++ [(xs[j] + k * ys[j]) % p]) := Lib.hid (by rw [tab_succ, getD_of_lt 0 hxj, getD_of_lt 0 hyj])
      have HM := Lib.hid hM
      clear ha hb hM
      go_wp2_with (first
        | (go_at_call 94; refine (num_any _ (xs[j] + k * ys[j]) _ (by omega) hp2 (by omega) (by omega)).mono ?_; rintro e w' ⟨rfl, rfl⟩)
        | (at_builtin; refine wpList_app1 w _ 22 2 _ _ Tryz.underlying22 info_i rfl (by omega) rfl _ _ rfl A' j c' _ _ HM.out (by omega) rfl rfl rfl ?_; intro A2 c2 w2 hM2 _ _))
      go_roundw
      case rel => exact ⟨j + 1, A2, c2, by omega, by go_num, rfl, by rw [HV.out]; simpa [MkI, ints] using hM2⟩
      case measure => simp [intOf]; omega
    · go_wp2
      go_ret
      obtain rfl : j = n := by omega
      exact ⟨_, _, rfl, by unfold plusL; rw [Hx.out]; exact hM⟩
set_option maxHeartbeats 1600000 in
set_option maxRecDepth 8000 in
theorem l02Plus_any (p : Int) (A : Option Addr) (n c : Nat) (B : Option Addr) (m d : Nat) (k : Int) (xs ys : List Int) (w : World) (hp : 2 ≤ p) (hp2 : p ≤ 13) (hn : n ≤ 65536) (hnm : n ≤ m) (ha : Rd w A n (ints xs)) (hx : NumsL p xs) (hb : Rd w B m (ints ys)) (hy : NumsL p ys) (hk1 : 0 ≤ k) (hk2 : k ≤ 1000) :
    Calls Tryz.prog 52 #[.int .i64 p, .slice A n c, .slice B m d, .int .i64 k] w fun e w' => ∃ A' c', e = .returned (.slice A' n c') ∧ MkI w w' A' n c' (plusL p xs ys k) := by
  have hxl : xs.length = n := by have := ha.1; rwa [ints_length] at this
  have Hx := Lib.hid hxl; clear hxl
  have hM0 := Mk.lit (E := 2) (Below.refl w.heap.size w) #[] (by simp)
  go_enter Tryz.func52, Tryz.ntmps52
  go_wp2
  go_loopw [9, 10] (fun out i wr => ∃ (j : Nat) (A' : Option Addr) (c' : Nat), j ≤ n ∧ i = .int .i64 j ∧ out = .slice A' j c' ∧ MkI w wr A' j c' (tab j fun i => (xs.getD i 0 + k * ys.getD i 0) % p)) (fun _ i _ => n - (intOf i).toNat)
  case atStart => exact ⟨0, _, _, by omega, rfl, rfl, by simpa [MkI, ints, tab] using hM0⟩
  case round =>
    obtain ⟨j, A', c', hj, rfl, rfl, hM⟩ := hrel
    clear hM0
    by_cases hlt : j < n
    · obtain ⟨g, o, rfl, hxj, hcx⟩ := (ha.below hM.b).int hlt
      obtain ⟨g2, o2, rfl, hyj, hcy⟩ := (hb.below hM.b).int (show j < m by omega)
      obtain ⟨x1, x2⟩ := hx _ (List.getElem_mem hxj)
      obtain ⟨y1, y2⟩ := hy _ (List.getElem_mem hyj)
      obtain ⟨m1, m2⟩ := mul_small hk1 hk2 y1 (show ys[j] ≤ 13 by omega)
      have HV : Hid ((tab (j + 1) fun i => (xs.getD i 0 + k * ys.getD i 0) % p) = (tab j fun i => (xs.getD i 0 + k * ys.getD i 0) % p) ++ [(xs[j] + k * ys[j]) % p]) := Lib.hid (by rw [tab_succ, getD_of_lt 0 hxj, getD_of_lt 0 hyj])
      have W1 := i64_fit (k * ys[j]) (by omega) (by omega)
      have W2 := i64_fit (xs[j] + k * ys[j]) (by omega) (by omega)
      have W3 : (xs[j] + k * ys[j]).tmod p = (xs[j] + k * ys[j]) % p := Int.tmod_eq_emod_of_nonneg (by omega)
      have i1 : (0 : Int) ≤ (j : Int) := by omega
      have hP0 : ¬ p = 0 := by omega
      have i2 : (j : Int) < (n : Int) := by omega
      have i3 : (j : Int) < (m : Int) := by omega
      go_wp2
      refine wp_obs 15 [[], [], [], [1, 2], [1, 2, 3], [], [], [], [6, 7], [6, 7, 8], [5, 6, 7, 8, 9], [1, 2, 3, 4, 5, 6, 7, 8, 9, 10], [], [1, 2, 3, 4, 5, 6, 7, 8, 9, 10, 11, 12], [1, 2, 3, 4, 5, 6, 7, 8, 9, 10, 11, 12, 13], [0, 1, 2, 3, 4, 5, 6, 7, 8, 9, 10, 11, 12, 13, 14], [0, 1, 2, 3, 4, 5, 6, 7, 8, 9, 10, 11, 12, 13, 14, 15]] [VIs (.slice A' j c'), VIs (.slice (some ⟨g, o, none⟩) n c), VIs (.int .i64 (j)), VIs (.pointer (some ⟨g, o + j, none⟩)), VIs (.int .i64 (xs[j])), VIs (.int .i64 (k)), VIs (.slice (some ⟨g2, o2, none⟩) m d), VIs (.int .i64 (j)), VIs (.pointer (some ⟨g2, o2 + j, none⟩)), VIs (.int .i64 (ys[j])), VIs (.int .i64 (k * ys[j])), VIs (.int .i64 (xs[j] + k * ys[j])), VIs (.int .i64 (p)), VIs (.int .i64 ((xs[j] + k * ys[j]) % p)), VBs 2 #[.int .i64 ((xs[j] + k * ys[j]) % p)]] (fun w' => MkI w w' A' j c' (tab j fun i => (xs.getD i 0 + k * ys.getD i 0) % p) ∧ w'.cell? ⟨g, o + j, none⟩ = some (.int .i64 xs[j]) ∧ w'.cell? ⟨g2, o2 + j, none⟩ = some (.int .i64 ys[j])) (by kernel_rfl) (by kernel_rfl) (fun _ _ h hb => ⟨h.1.below hb, (hb.cell (World.block_lt_of_cell? _ _ h.2.1)).trans h.2.1, (hb.cell (World.block_lt_of_cell? _ _ h.2.2)).trans h.2.2⟩) (⟨hM.drew, hcx, hcy⟩) (fun x => ?_)
      refine obs_step (Eq.trans (by simp only [List.getElem?_toArray, List.getElem?_cons_zero]; exact rfl) rfl) rfl (fun w' hS hV K hK => ?_) ?_
      · obtain ⟨_, q1, q2⟩ := hS
        go_simp
        exact hK.out _ _ _ rfl rfl rfl (Below.refl _ _)
      simp only [List.setIfInBounds_toArray, List.set_cons_zero, List.set_cons_succ]
      refine obs_step (Eq.trans (by simp only [List.getElem?_toArray, List.getElem?_cons_succ, List.getElem?_cons_zero]; exact rfl) rfl) rfl (fun w' hS hV K hK => ?_) ?_
      · obtain ⟨_, q1, q2⟩ := hS
        go_simp
        exact hK.out _ _ _ rfl rfl rfl (Below.refl _ _)
      simp only [List.setIfInBounds_toArray, List.set_cons_zero, List.set_cons_succ]
      refine obs_step (Eq.trans (by simp only [List.getElem?_toArray, List.getElem?_cons_succ, List.getElem?_cons_zero]; exact rfl) rfl) rfl (fun w' hS hV K hK => ?_) ?_
      · obtain ⟨_, q1, q2⟩ := hS
        go_simp
        exact hK.out _ _ _ rfl rfl rfl (Below.refl _ _)
      simp only [List.setIfInBounds_toArray, List.set_cons_zero, List.set_cons_succ]
      refine obs_step (Eq.trans (by simp only [List.getElem?_toArray, List.getElem?_cons_succ, List.getElem?_cons_zero]; exact rfl) rfl) rfl (fun w' hS hV K hK => ?_) ?_
      · have e1 : x 1 = (.slice (some ⟨g, o, none⟩) n c) := hV 1 (by decide)
        have e2 : x 2 = (.int .i64 (j)) := hV 2 (by decide)
        obtain ⟨_, q1, q2⟩ := hS
        go_simp
        exact hK.out _ _ _ rfl rfl rfl (Below.refl _ _)
      simp only [List.setIfInBounds_toArray, List.set_cons_zero, List.set_cons_succ]
      refine obs_step (Eq.trans (by simp only [List.getElem?_toArray, List.getElem?_cons_succ, List.getElem?_cons_zero]; exact rfl) rfl) rfl (fun w' hS hV K hK => ?_) ?_
      · have e1 : x 1 = (.slice (some ⟨g, o, none⟩) n c) := hV 1 (by decide)
        have e2 : x 2 = (.int .i64 (j)) := hV 2 (by decide)
        have e3 : x 3 = (.pointer (some ⟨g, o + j, none⟩)) := hV 3 (by decide)
        obtain ⟨_, q1, q2⟩ := hS
        go_simp
        exact hK.out _ _ _ rfl rfl rfl (Below.refl _ _)
      simp only [List.setIfInBounds_toArray, List.set_cons_zero, List.set_cons_succ]
      refine obs_step (Eq.trans (by simp only [List.getElem?_toArray, List.getElem?_cons_succ, List.getElem?_cons_zero]; exact rfl) rfl) rfl (fun w' hS hV K hK => ?_) ?_
      · obtain ⟨_, q1, q2⟩ := hS
        go_simp
        exact hK.out _ _ _ rfl rfl rfl (Below.refl _ _)
      simp only [List.setIfInBounds_toArray, List.set_cons_zero, List.set_cons_succ]
      refine obs_step (Eq.trans (by simp only [List.getElem?_toArray, List.getElem?_cons_succ, List.getElem?_cons_zero]; exact rfl) rfl) rfl (fun w' hS hV K hK => ?_) ?_
      · obtain ⟨_, q1, q2⟩ := hS
        go_simp
        exact hK.out _ _ _ rfl rfl rfl (Below.refl _ _)
      simp only [List.setIfInBounds_toArray, List.set_cons_zero, List.set_cons_succ]
      refine obs_step (Eq.trans (by simp only [List.getElem?_toArray, List.getElem?_cons_succ, List.getElem?_cons_zero]; exact rfl) rfl) rfl (fun w' hS hV K hK => ?_) ?_
      · obtain ⟨_, q1, q2⟩ := hS
        go_simp
        exact hK.out _ _ _ rfl rfl rfl (Below.refl _ _)
      simp only [List.setIfInBounds_toArray, List.set_cons_zero, List.set_cons_succ]
      refine obs_step (Eq.trans (by simp only [List.getElem?_toArray, List.getElem?_cons_succ, List.getElem?_cons_zero]; exact rfl) rfl) rfl (fun w' hS hV K hK => ?_) ?_
      · have e6 : x 6 = (.slice (some ⟨g2, o2, none⟩) m d) := hV 6 (by decide)
        have e7 : x 7 = (.int .i64 (j)) := hV 7 (by decide)
        obtain ⟨_, q1, q2⟩ := hS
        go_simp
        exact hK.out _ _ _ rfl rfl rfl (Below.refl _ _)
      simp only [List.setIfInBounds_toArray, List.set_cons_zero, List.set_cons_succ]
      refine obs_step (Eq.trans (by simp only [List.getElem?_toArray, List.getElem?_cons_succ, List.getElem?_cons_zero]; exact rfl) rfl) rfl (fun w' hS hV K hK => ?_) ?_
      · have e6 : x 6 = (.slice (some ⟨g2, o2, none⟩) m d) := hV 6 (by decide)
        have e7 : x 7 = (.int .i64 (j)) := hV 7 (by decide)
        have e8 : x 8 = (.pointer (some ⟨g2, o2 + j, none⟩)) := hV 8 (by decide)
        obtain ⟨_, q1, q2⟩ := hS
        go_simp
        exact hK.out _ _ _ rfl rfl rfl (Below.refl _ _)
      simp only [List.setIfInBounds_toArray, List.set_cons_zero, List.set_cons_succ]
      refine obs_step (Eq.trans (by simp only [List.getElem?_toArray, List.getElem?_cons_succ, List.getElem?_cons_zero]; exact rfl) rfl) rfl (fun w' hS hV K hK => ?_) ?_
      · have e5 : x 5 = (.int .i64 (k)) := hV 5 (by decide)
        have e6 : x 6 = (.slice (some ⟨g2, o2, none⟩) m d) := hV 6 (by decide)
        have e7 : x 7 = (.int .i64 (j)) := hV 7 (by decide)
        have e8 : x 8 = (.pointer (some ⟨g2, o2 + j, none⟩)) := hV 8 (by decide)
        have e9 : x 9 = (.int .i64 (ys[j])) := hV 9 (by decide)
        obtain ⟨_, q1, q2⟩ := hS
        go_simp
        exact hK.out _ _ _ rfl rfl rfl (Below.refl _ _)
      simp only [List.setIfInBounds_toArray, List.set_cons_zero, List.set_cons_succ]
      refine obs_step (Eq.trans (by simp only [List.getElem?_toArray, List.getElem?_cons_succ, List.getElem?_cons_zero]; exact rfl) rfl) rfl (fun w' hS hV K hK => ?_) ?_
      · have e1 : x 1 = (.slice (some ⟨g, o, none⟩) n c) := hV 1 (by decide)
        have e2 : x 2 = (.int .i64 (j)) := hV 2 (by decide)
        have e3 : x 3 = (.pointer (some ⟨g, o + j, none⟩)) := hV 3 (by decide)
        have e4 : x 4 = (.int .i64 (xs[j])) := hV 4 (by decide)
        have e5 : x 5 = (.int .i64 (k)) := hV 5 (by decide)
        have e6 : x 6 = (.slice (some ⟨g2, o2, none⟩) m d) := hV 6 (by decide)
        have e7 : x 7 = (.int .i64 (j)) := hV 7 (by decide)
        have e8 : x 8 = (.pointer (some ⟨g2, o2 + j, none⟩)) := hV 8 (by decide)
        have e9 : x 9 = (.int .i64 (ys[j])) := hV 9 (by decide)
        have e10 : x 10 = (.int .i64 (k * ys[j])) := hV 10 (by decide)
        obtain ⟨_, q1, q2⟩ := hS
        go_simp
        exact hK.out _ _ _ rfl rfl rfl (Below.refl _ _)
      simp only [List.setIfInBounds_toArray, List.set_cons_zero, List.set_cons_succ]
      refine obs_step (Eq.trans (by simp only [List.getElem?_toArray, List.getElem?_cons_succ, List.getElem?_cons_zero]; exact rfl) rfl) rfl (fun w' hS hV K hK => ?_) ?_
      · obtain ⟨_, q1, q2⟩ := hS
        go_simp
        exact hK.out _ _ _ rfl rfl rfl (Below.refl _ _)
      simp only [List.setIfInBounds_toArray, List.set_cons_zero, List.set_cons_succ]
      refine obs_step (Eq.trans (by simp only [List.getElem?_toArray, List.getElem?_cons_succ, List.getElem?_cons_zero]; exact rfl) rfl) rfl (fun w' hS hV K hK => ?_) ?_
      · have e1 : x 1 = (.slice (some ⟨g, o, none⟩) n c) := hV 1 (by decide)
        have e2 : x 2 = (.int .i64 (j)) := hV 2 (by decide)
        have e3 : x 3 = (.pointer (some ⟨g, o + j, none⟩)) := hV 3 (by decide)
        have e4 : x 4 = (.int .i64 (xs[j])) := hV 4 (by decide)
        have e5 : x 5 = (.int .i64 (k)) := hV 5 (by decide)
        have e6 : x 6 = (.slice (some ⟨g2, o2, none⟩) m d) := hV 6 (by decide)
        have e7 : x 7 = (.int .i64 (j)) := hV 7 (by decide)
        have e8 : x 8 = (.pointer (some ⟨g2, o2 + j, none⟩)) := hV 8 (by decide)
        have e9 : x 9 = (.int .i64 (ys[j])) := hV 9 (by decide)
        have e10 : x 10 = (.int .i64 (k * ys[j])) := hV 10 (by decide)
        have e11 : x 11 = (.int .i64 (xs[j] + k * ys[j])) := hV 11 (by decide)
        have e12 : x 12 = (.int .i64 (p)) := hV 12 (by decide)
        obtain ⟨_, q1, q2⟩ := hS
        go_simp
        exact hK.out _ _ _ rfl rfl rfl (Below.refl _ _)
      simp only [List.setIfInBounds_toArray, List.set_cons_zero, List.set_cons_succ]
      refine obs_step (Eq.trans (by simp only [List.getElem?_toArray, List.getElem?_cons_succ, List.getElem?_cons_zero]; exact rfl) rfl) rfl (fun w' hS hV K hK => ?_) ?_
      · have e1 : x 1 = (.slice (some ⟨g, o, none⟩) n c) := hV 1 (by decide)
        have e2 : x 2 = (.int .i64 (j)) := hV 2 (by decide)
        have e3 : x 3 = (.pointer (some ⟨g, o + j, none⟩)) := hV 3 (by decide)
        have e4 : x 4 = (.int .i64 (xs[j])) := hV 4 (by decide)
        have e5 : x 5 = (.int .i64 (k)) := hV 5 (by decide)
        have e6 : x 6 = (.slice (some ⟨g2, o2, none⟩) m d) := hV 6 (by decide)
        have e7 : x 7 = (.int .i64 (j)) := hV 7 (by decide)
        have e8 : x 8 = (.pointer (some ⟨g2, o2 + j, none⟩)) := hV 8 (by decide)
        have e9 : x 9 = (.int .i64 (ys[j])) := hV 9 (by decide)
        have e10 : x 10 = (.int .i64 (k * ys[j])) := hV 10 (by decide)
        have e11 : x 11 = (.int .i64 (xs[j] + k * ys[j])) := hV 11 (by decide)
        have e12 : x 12 = (.int .i64 (p)) := hV 12 (by decide)
        have e13 : x 13 = (.int .i64 ((xs[j] + k * ys[j]) % p)) := hV 13 (by decide)
        obtain ⟨_, q1, q2⟩ := hS
        go_simp
        exact hK.out _ _ _ rfl rfl ⟨_, rfl, Blk.new _ _ _⟩ ((Below.refl _ _).alloc (Nat.le_refl _) _)
      simp only [List.setIfInBounds_toArray, List.set_cons_zero, List.set_cons_succ]
      refine fun w' hS hV => ?_
      have e0 : x 0 = (.slice A' j c') := hV 0 (by decide)
      have e1 : x 1 = (.slice (some ⟨g, o, none⟩) n c) := hV 1 (by decide)
      have e2 : x 2 = (.int .i64 (j)) := hV 2 (by decide)
      have e3 : x 3 = (.pointer (some ⟨g, o + j, none⟩)) := hV 3 (by decide)
      have e4 : x 4 = (.int .i64 (xs[j])) := hV 4 (by decide)
      have e5 : x 5 = (.int .i64 (k)) := hV 5 (by decide)
      have e6 : x 6 = (.slice (some ⟨g2, o2, none⟩) m d) := hV 6 (by decide)
      have e7 : x 7 = (.int .i64 (j)) := hV 7 (by decide)
      have e8 : x 8 = (.pointer (some ⟨g2, o2 + j, none⟩)) := hV 8 (by decide)
      have e9 : x 9 = (.int .i64 (ys[j])) := hV 9 (by decide)
      have e10 : x 10 = (.int .i64 (k * ys[j])) := hV 10 (by decide)
      have e11 : x 11 = (.int .i64 (xs[j] + k * ys[j])) := hV 11 (by decide)
      have e12 : x 12 = (.int .i64 (p)) := hV 12 (by decide)
      have e13 : x 13 = (.int .i64 ((xs[j] + k * ys[j]) % p)) := hV 13 (by decide)
      obtain ⟨b14, e14, h14⟩ := hV 14 (by decide)
      simp only [e0, e1, e2, e3, e4, e5, e6, e7, e8, e9, e10, e11, e12, e13, e14]
      clear e0 e1 e2 e3 e4 e5 e6 e7 e8 e9 e10 e11 e12 e13 e14
      obtain ⟨s1, s2, s3⟩ := hS
      refine any_plain (j := 15) (by kernel_rfl) (Eq.trans (by simp only [List.getElem?_toArray, List.getElem?_cons_succ, List.getElem?_cons_zero]; exact rfl) rfl) rfl (fun K hK => ?_)
      refine wp_app1 w w' 22 2 _ _ Tryz.underlying22 info_i rfl (by omega) _ _ rfl A' j c' _ _ s1 (by omega) rfl _ h14 (by rfl) (by rfl) ?_
      intro A2 c2 w2 hM2 hgr
      refine hK.out _ _ ?_
      simp only [Act.put, List.setIfInBounds_toArray, List.set_cons_zero, List.set_cons_succ]
      refine any_one (j := 16) (by kernel_rfl) (Eq.trans (by simp only [List.getElem?_toArray, List.getElem?_cons_succ, List.getElem?_cons_zero]; exact rfl) rfl) (fun K hK => ?_)
      go_simp
      refine hK.out _ _ (wpAny_done (by kernel_rfl) ?_ _)
      clear W1 W2 W3 s2 s3 hM
      go_wp2
      go_roundw
      case rel => exact ⟨j + 1, A2, c2, by omega, by go_num, rfl, by rw [HV.out]; simpa [MkI, ints] using hM2⟩
      case measure => simp [intOf]; omega
    · go_wp2
      go_ret
      obtain rfl : j = n := by omega
      exact ⟨_, _, rfl, by unfold plusL; rw [Hx.out]; exact hM⟩
end Go.Proofs.YticofgmmjecleaaGreatDoor
namespace Go.Proofs.YticofgmmjecleaaGreatDoor
theorem xor_eq_iff (a k m : Nat) : a ^^^ k = m ↔ k = a ^^^ m := by
  constructor
  · rintro rfl; rw [← Nat.xor_assoc, Nat.xor_self, Nat.zero_xor]
  · rintro rfl; rw [← Nat.xor_assoc, Nat.xor_self, Nat.zero_xor]
/-- What row a adds to place m. -/
def term (p : Int) (sq : List Int) (t : Nat → Nat → Bool) (x y : List Int) (m a : Nat) : Int :=
  if t a (a ^^^ m) = true then x.getD a 0 * y.getD (a ^^^ m) 0 * fac p sq a (a ^^^ m) else 0
theorem addRow_getD (p : Int) (sq : List Int) (t : Nat → Nat → Bool) (x y : List Int) (a : Nat) (out : List Int) (m : Nat) (hm : m < out.length) (h0 : out.getD m 0 % p = out.getD m 0) :
    ∀ k, (addRow p sq t x y a out k).getD m 0 = if a ^^^ m < k then (out.getD m 0 + term p sq t x y m a) % p else out.getD m 0 := by
  intro k
  induction k with
  | zero => rw [if_neg (by omega)]; simp [addRow]
  | succ k ih =>
    rw [addRow_succ]
    have hl : (addRow p sq t x y a out k).length = out.length := addRow_len _ _ _ _ _ _ _ _
    unfold addPair
    by_cases hk : a ^^^ k = m
    · have hk' := (xor_eq_iff a k m).1 hk
      have h1 : ¬ a ^^^ m < k := by omega
      have h2 : a ^^^ m < k + 1 := by omega
      rw [if_neg h1] at ih
      rw [if_pos (c := a ^^^ m < k + 1) h2]
      unfold term
      rw [← hk']
      by_cases hc : x.getD a 0 ≠ 0 ∧ y.getD k 0 ≠ 0 ∧ t a k = true
      · rw [if_pos hc, if_pos hc.2.2, getD_set, if_pos ⟨hk, by rw [hl, hk]; exact hm⟩, hk, ih]
      · rw [if_neg hc, ih]
        by_cases ht : t a k = true
        · rw [if_pos ht]
          have : x.getD a 0 * y.getD k 0 = 0 := by
            by_cases h1 : x.getD a 0 = 0
            · rw [h1, Int.zero_mul]
            · by_cases h2 : y.getD k 0 = 0
              · rw [h2, Int.mul_zero]
              · exact absurd ⟨h1, h2, ht⟩ hc
          rw [this, Int.zero_mul, Int.add_zero, h0]
        · rw [if_neg ht, Int.add_zero, h0]
    · have hk' : k ≠ a ^^^ m := fun e => hk ((xor_eq_iff a k m).2 e)
      have e : (if x.getD a 0 ≠ 0 ∧ y.getD k 0 ≠ 0 ∧ t a k = true then (addRow p sq t x y a out k).set (a ^^^ k) (((addRow p sq t x y a out k).getD (a ^^^ k) 0 + x.getD a 0 * y.getD k 0 * fac p sq a k) % p) else addRow p sq t x y a out k).getD m 0 = (addRow p sq t x y a out k).getD m 0 := by
        split
        · rw [getD_set, if_neg (fun h => hk h.1)]
        · rfl
      rw [e, ih]
      by_cases h1 : a ^^^ m < k
      · rw [if_pos h1, if_pos (by omega)]
      · rw [if_neg h1, if_neg (by omega)]
theorem addRows_getD (p : Int) (sq : List Int) (t : Nat → Nat → Bool) (x y : List Int) (n m : Nat) (hy : y.length = pw n) (hm : m < pw n) :
    ∀ k, k ≤ pw n → (addRows p sq t x y (List.replicate (pw n) 0) k).getD m 0 = sumTo k (term p sq t x y m) % p := by
  intro k
  induction k with
  | zero =>
    intro _
    rw [show addRows p sq t x y (List.replicate (pw n) 0) 0 = List.replicate (pw n) 0 from rfl, getD_of_lt 0 (by simpa using hm)]
    simp [sumTo]
  | succ k ih =>
    intro hk
    have ih := ih (by omega)
    have hl : (addRows p sq t x y (List.replicate (pw n) 0) k).length = pw n := by rw [addRows_len]; simp
    rw [addRows_succ, addRow_getD p sq t x y k _ m (by rw [hl]; exact hm) (by rw [ih, Int.emod_emod_of_dvd _ (Int.dvd_refl p)]), if_pos (by rw [hy]; exact xor_lt (by omega) hm), ih]
    exact sumTo_step p k _
theorem prodL_getD (p : Int) (sq : List Int) (t : Nat → Nat → Bool) (x y : List Int) (n m : Nat) (hx : x.length = pw n) (hy : y.length = pw n) (hm : m < pw n) :
    (prodL p sq t x y).getD m 0 = sumTo (pw n) (term p sq t x y m) % p := by
  unfold prodL
  rw [hx]
  exact addRows_getD p sq t x y n m hy hm _ (Nat.le_refl _)
theorem sumTo_zero {n : Nat} {f : Nat → Int} (h : ∀ i, i < n → f i = 0) : sumTo n f = 0 := by
  induction n with
  | zero => rfl
  | succ n ih => rw [sumTo_succ, ih (fun i hi => h i (by omega)), h n (by omega)]; rfl
theorem sumTo_one {n : Nat} {f : Nat → Int} (k : Nat) (hk : k < n) (h : ∀ i, i < n → i ≠ k → f i = 0) : sumTo n f = f k := by
  induction n with
  | zero => omega
  | succ n ih =>
    rw [sumTo_succ]
    by_cases e : k = n
    · subst e; rw [sumTo_zero (fun i hi => h i (by omega) (by omega)), Int.zero_add]
    · rw [ih (by omega) (fun i hi => h i (by omega)), h n (by omega) (by omega), Int.add_zero]
theorem sumTo_add (n : Nat) (f g : Nat → Int) : sumTo n (fun i => f i + g i) = sumTo n f + sumTo n g := by
  induction n with
  | zero => rfl
  | succ n ih => rw [sumTo_succ, sumTo_succ, sumTo_succ, ih]; omega
theorem sumTo_mul (n : Nat) (f : Nat → Int) (c : Int) : sumTo n (fun i => c * f i) = c * sumTo n f := by
  induction n with
  | zero => simp [sumTo]
  | succ n ih => rw [sumTo_succ, sumTo_succ, ih, Int.mul_add]
theorem sumTo_comm (n m : Nat) (f : Nat → Nat → Int) : sumTo n (fun i => sumTo m (f i)) = sumTo m (fun j => sumTo n (fun i => f i j)) := by
  induction n with
  | zero => exact (sumTo_zero (fun _ _ => rfl)).symm
  | succ n ih => rw [sumTo_succ, ih, ← sumTo_add]; rfl
theorem pc_zero : pc 0 = 0 := by simp [pc]
theorem bit_zero (i : Nat) : bit 0 i = 0 := by simp [bit]
theorem fac_zero_left (p : Int) (sq : List Int) (b : Nat) : fac p sq 0 b = 1 := by
  have h1 : ∀ i, swaps 0 b i = 0 := by
    intro i
    induction i with
    | zero => rfl
    | succ i ih => simp [swaps, ih, pc_zero]
  have h2 : ∀ i, common p sq 0 b i = 1 := by
    intro i
    induction i with
    | zero => rfl
    | succ i ih => simp [common, ih, bit_zero]
  unfold fac
  rw [h1, h2]; rfl
theorem bladeL_getD (n m i : Nat) (hi : i < pw n) : (bladeL n m).getD i 0 = if m = i then 1 else 0 := by
  unfold bladeL
  rw [getD_set]
  by_cases h : m = i
  · subst h; rw [if_pos ⟨rfl, by simpa using hi⟩, if_pos rfl]
  · rw [if_neg (fun hh => h hh.1), if_neg h, getD_of_lt 0 (by simpa using hi)]; simp
/-- 1 times a multivector. -/
theorem one_mul (p : Int) (sq : List Int) (n : Nat) (xs : List Int) (hx : xs.length = pw n) (hn : NumsL p xs) : mulL p sq (bladeL n 0) xs = xs := by
  apply list_ext_getD 0 (by unfold mulL; rw [prodL_len, bladeL_len, hx])
  intro m hm
  have hm : m < pw n := by unfold mulL at hm; rwa [prodL_len, bladeL_len] at hm
  unfold mulL
  rw [prodL_getD p sq _ _ xs n m (bladeL_len n 0) hx hm, sumTo_one 0 (pw_pos n) (fun i hi h0 => by unfold term; rw [if_pos rfl, bladeL_getD n 0 i hi, if_neg (fun e => h0 e.symm), Int.zero_mul, Int.zero_mul])]
  unfold term
  rw [if_pos rfl, bladeL_getD n 0 0 (pw_pos n), if_pos rfl, Nat.zero_xor, fac_zero_left, Int.one_mul, Int.mul_one]
  obtain ⟨h1, h2⟩ := hn _ (getD_mem 0 (by rw [hx]; exact hm))
  exact Int.emod_eq_of_lt h1 h2
theorem mulL_len (p : Int) (sq xs ys : List Int) : (mulL p sq xs ys).length = xs.length := prodL_len _ _ _ _ _
theorem mulL_nums {p : Int} (hp : 0 < p) (sq xs ys : List Int) : NumsL p (mulL p sq xs ys) := prodL_nums sq _ _ _ hp
theorem timesL_two (p : Int) (sq : List Int) (n : Nat) (xs ys : List Int) (hx : xs.length = pw n) (hn : NumsL p xs) : timesL p sq n [xs, ys] = mulL p sq xs ys := by
  show mulL p sq (mulL p sq (bladeL n 0) xs) ys = _
  rw [one_mul p sq n xs hx hn]
end Go.Proofs.YticofgmmjecleaaGreatDoor
namespace Go.Proofs.YticofgmmjecleaaGreatDoor
open Go.RowKit
theorem Blk.newAt {w : World} {t : TypeId} {cs : Array Value} {g : Nat} (hg : g = w.heap.size) : Blk (w.alloc (.cells cs t)) g t cs := hg ▸ Blk.new w t cs
theorem codeM_spec2 {P : Int} {sq : List Int} {ms : List (List Int)} (h : codeM P sq ms = 0) : isP P = true ∧ 2 < P ∧ P ≤ 13 ∧ 1 ≤ sq.length ∧ sq.length ≤ 6 ∧ NumsL P sq ∧ ∀ ys ∈ ms, ys.length = pw sq.length ∧ NumsL P ys := by
  obtain ⟨h1, h2⟩ := codeM_sp h
  obtain ⟨hp, hd1, hd2, hnum⟩ := isSp_dim h1
  have := isP_ge hp
  refine ⟨hp, by omega, by omega, hd1, hd2, nums_numsL hnum, fun ys hy => ?_⟩
  have hm := h2 ys hy
  unfold isMu at hm
  simp only [Bool.and_eq_true, beq_iff_eq] at hm
  exact ⟨by have := hm.1; omega, nums_numsL hm.2⟩
end Go.Proofs.YticofgmmjecleaaGreatDoor
namespace Go.Proofs.YticofgmmjecleaaGreatDoor
open Go.RowKit
set_option maxHeartbeats 3200000 in
set_option maxRecDepth 8000 in
theorem ReverseOf_ok (P : Int) (A : Option Addr) (n c : Nat) (sq : List Int) (X : Option Addr) (m cx : Nat) (xs : List Int) (w : World) (hn : n ≤ 1048576) (hm : m ≤ 1048576) (ha : Rd w A n (ints sq)) (hx : Rd w X m (ints xs)) (hcx : m ≤ cx) (h0 : codeM P sq [xs] = 0) :
    Calls Tryz.prog 42 #[.agg #[.int .i64 P, .slice A n c], .slice X m cx] w fun e w' => ∃ (A' : Option Addr) (c' : Nat), e = .returned (.tuple #[.slice A' m c', .int .i64 0]) ∧ MkI w w' A' m c' (revL P xs) := by
  have hB0 : Below w.heap.size w (w.alloc (.cells #[.int .i64 P, .slice A n c] 28)) := (Below.refl _ _).alloc (Nat.le_refl _) _
  have k0 : Blk (w.alloc (.cells #[.int .i64 P, .slice A n c] 28)) w.heap.size 28 #[.int .i64 P, .slice A n c] := Blk.new _ _ _
  have hB1 : Below w.heap.size w ((w.alloc (.cells #[.int .i64 P, .slice A n c] 28)).alloc (.cells #[.slice X m cx] 22)) := hB0.alloc (by simp) _
  have k1 : Blk ((w.alloc (.cells #[.int .i64 P, .slice A n c] 28)).alloc (.cells #[.slice X m cx] 22)) w.heap.size 28 #[.int .i64 P, .slice A n c] := k0.alloc _
  have hreg := checkMultis_any P A (some ⟨w.heap.size + 1, 0, none⟩) n c 1 1 sq [xs] ((w.alloc (.cells #[.int .i64 P, .slice A n c] 28)).alloc (.cells #[.slice X m cx] 22)) hn (by omega) (ha.below hB1) (rdII_one' (Blk.newAt (by simp)) (hx.below hB1) hcx) (all_one (by rw [hx.lenI]; exact hm))
  rw [h0] at hreg
  obtain ⟨HP, hp, hp2, hd1, hd2, hs0, hms⟩ := codeM_spec2 h0
  obtain ⟨hx1, hxs0⟩ := hms xs (by simp)
  have hm64 : m ≤ 64 := by rw [← hx.lenI, hx1]; exact pw_le hd2
  have HXS := Lib.hid hxs0
  have hcall := fun w' (hb : Below w.heap.size w w') => reverse_any P A n c X m cx xs w' (by omega) hp2 hm64 (hx.below hb) HXS.out
  clear hms hx1 hs0 hxs0 h0
  go_enter Tryz.func42, Tryz.ntmps42
  go_wp2_with fail
  refine hreg.mono ?_
  rintro e w2 ⟨rfl, hb2⟩
  have hB2 := hB1.trans (hb2.mono hB1.size)
  have k2 := k1.below hb2 k1.lt
  obtain ⟨q0, q1⟩ := k2.two
  clear k0 hB0 k1 hB1 hb2 hreg
  go_wp2_with fail
  refine (hcall _ hB2).mono ?_
  rintro e w3 ⟨A', c', rfl, hM⟩
  have hM3 := hM.after hB2
  go_wp2
  go_ret2
  exact ⟨A', c', rfl, hM3⟩
end Go.Proofs.YticofgmmjecleaaGreatDoor
namespace Go.Proofs.YticofgmmjecleaaGreatDoor
open Go Go.RowKit
set_option maxHeartbeats 3200000 in
set_option maxRecDepth 8000 in
theorem MultivectorText_ok (P : Int) (A : Option Addr) (n c : Nat) (sq : List Int) (X : Option Addr) (m cx : Nat) (xs : List Int) (w : World) (hn : n ≤ 1048576) (hm : m ≤ 1048576) (ha : Rd w A n (ints sq)) (hx : Rd w X m (ints xs)) (hcx : m ≤ cx) (h0 : codeM P sq [xs] = 0) (hnx : NumsL P xs) (he : Env w) :
    Calls Tryz.prog 27 #[.agg #[.int .i64 P, .slice A n c], .slice X m cx] w fun e w' => e = .returned (.tuple #[.string ⟨(textL P n xs).toArray⟩, .int .i64 0]) ∧ Below w.heap.size w w' := by
  have hB0 : Below w.heap.size w (w.alloc (.cells #[.int .i64 P, .slice A n c] 28)) := (Below.refl _ _).alloc (Nat.le_refl _) _
  have k0 : Blk (w.alloc (.cells #[.int .i64 P, .slice A n c] 28)) w.heap.size 28 #[.int .i64 P, .slice A n c] := Blk.new _ _ _
  have hB1 : Below w.heap.size w ((w.alloc (.cells #[.int .i64 P, .slice A n c] 28)).alloc (.cells #[.slice X m cx] 22)) := hB0.alloc (by simp) _
  have k1 : Blk ((w.alloc (.cells #[.int .i64 P, .slice A n c] 28)).alloc (.cells #[.slice X m cx] 22)) w.heap.size 28 #[.int .i64 P, .slice A n c] := k0.alloc _
  have hreg := checkMultis_any P A (some ⟨w.heap.size + 1, 0, none⟩) n c 1 1 sq [xs] ((w.alloc (.cells #[.int .i64 P, .slice A n c] 28)).alloc (.cells #[.slice X m cx] 22)) hn (by omega) (ha.below hB1) (rdII_one' (Blk.newAt (by simp)) (hx.below hB1) hcx) (all_one (by rw [hx.lenI]; exact hm))
  rw [h0] at hreg
  obtain ⟨HP, hp, hp2, hd1, hd2, hs0, hms⟩ := codeM_spec2 h0
  obtain ⟨hx1, hxs0⟩ := hms xs (by simp)
  have hln : sq.length = n := ha.lenI
  have hxm : xs.length = m := hx.lenI
  have hmn : m = pw n := by rw [← hxm, hx1, hln]
  have hcall := fun w' (hb : Below w.heap.size w w') => multiText_any P A X n c cx xs w' HP (by omega) hnx (by rw [hx1, hln]) (by rw [← hmn]; exact hx.below hb) (he.below hb (Nat.le_refl _))
  rw [← hmn] at hcall
  obtain ⟨T, hT⟩ : ∃ T, T = textL P n xs := ⟨_, rfl⟩
  rw [← hT] at hcall ⊢
  clear hms hx1 hs0 hxs0 h0 hln hxm hmn hT
  go_enter Tryz.func27, Tryz.ntmps27
  go_wp2_with fail
  refine hreg.mono ?_
  rintro e w2 ⟨rfl, hb2⟩
  have hB2 := hB1.trans (hb2.mono hB1.size)
  have k2 := k1.below hb2 k1.lt
  obtain ⟨q0, q1⟩ := k2.two
  clear k0 hB0 k1 hB1 hb2 hreg
  go_wp2_with fail
  refine (hcall _ hB2).mono ?_
  rintro e w3 ⟨rfl, hb3⟩
  have hB3 := hB2.trans (hb3.mono hB2.size)
  go_wp2
  go_ret2
  exact ⟨rfl, hB3⟩
end Go.Proofs.YticofgmmjecleaaGreatDoor
namespace Go.Proofs.YticofgmmjecleaaGreatDoor
open Go Go.RowKit
/-- The values of a list of texts. -/
def txts (ts : List By) : List Value := ts.map fun t => .string ⟨t.toArray⟩
theorem txts_length (ts : List By) : (txts ts).length = ts.length := by simp [txts]
theorem txts_get (ts : List By) (k : Nat) (h : k < ts.length) : (txts ts)[k]? = some (.string ⟨ts[k].toArray⟩) := by simp [txts, h]
theorem Rd.str {w : World} {A : Option Addr} {n : Nat} {ts : List By} (h : Rd w A n (txts ts)) {k : Nat} (hk : k < n) :
    ∃ g o, A = some ⟨g, o, none⟩ ∧ ∃ hx : k < ts.length, w.cell? ⟨g, o + k, none⟩ = some (.string ⟨ts[k].toArray⟩) := by
  obtain ⟨g, o, e, hc⟩ := h.2 (by omega)
  have hl : k < ts.length := by have := h.1; rw [txts_length] at this; omega
  exact ⟨g, o, e, hl, hc k _ (txts_get ts k hl)⟩
theorem Rd.lenS {w : World} {A : Option Addr} {n : Nat} {ts : List By} (h : Rd w A n (txts ts)) : ts.length = n := by have := h.1; rwa [txts_length] at this
/-- A function of a text that tells whether p holds. -/
def TellsT (f : FuncId) (p : By → Bool) : Prop :=
  ∀ (w : World) (x : By), x.length ≤ 1048576 → Calls Tryz.prog f #[.string ⟨x.toArray⟩] w fun e w' => e = .returned (.bool (p x)) ∧ w = w'
set_option maxHeartbeats 800000 in
set_option maxRecDepth 8000 in
theorem IndexFuncT_any (f : FuncId) (p : By → Bool) (A : Option Addr) (n c : Nat) (xs : List By) (w : World) (hn : n ≤ 1099511627776) (ha : Rd w A n (txts xs)) (hxs : ∀ x ∈ xs, x.length ≤ 1048576)
    (hf : TellsT f p) (hcf : ∀ (args : Array Value) (w : World), (callFunc f args).run Tryz.prog w = .ok (.enter f args) w) :
    Calls Tryz.prog 93 #[.slice A n c, .func (.func f) #[] #[]] w fun e w' => ∃ r : Int, e = .returned (.int .i64 r) ∧ decide (0 ≤ r) = xs.any p ∧ w = w' := by
  have hxl : xs.length = n := ha.lenS
  have Hx := Lib.hid hxl; clear hxl
  have HX := Lib.hid hxs; clear hxs
  go_enter Tryz.func93, Tryz.ntmps93
  go_wp2
  go_loop [5, 8] (fun _ i => ∃ k : Nat, k ≤ n ∧ i = .int .i64 k ∧ (xs.take k).any p = false) (fun _ i => n - (intOf i).toNat)
  case atStart => exact ⟨0, by omega, rfl, by simp⟩
  case round =>
    obtain ⟨k, hk, rfl, ht⟩ := hrel
    have H := Lib.hid ht; clear ht
    by_cases hlt : k < n
    · obtain ⟨g, o, rfl, hx, hcx⟩ := ha.str hlt
      have b1 := HX.out xs[k] (List.getElem_mem hx)
      have hfk := hf w xs[k] b1
      clear ha b1
      cases hi : p xs[k]
      all_goals
        have HI := Lib.hid hi; clear hi
        go_wp2_with fail
        refine hfk.mono ?_
        rintro e w1 ⟨rfl, rfl⟩
        rw [HI.out]
        go_wp2
      · go_round
        case rel =>
          refine ⟨k + 1, by omega, by go_num, ?_⟩
          rw [List.take_succ_eq_append_getElem hx, List.any_append, H.out]
          simpa using HI.out
        case measure => simp [intOf]; omega
      · go_ret
        refine ⟨_, rfl, ?_, rfl⟩
        have : xs.any p = true := List.any_eq_true.2 ⟨xs[k], List.getElem_mem hx, HI.out⟩
        rw [this]; simp
    · go_wp2
      go_ret
      refine ⟨_, rfl, ?_, rfl⟩
      have := H.out
      rw [List.take_of_length_le (by rw [Hx.out]; omega)] at this
      rw [this]; simp
set_option maxHeartbeats 400000 in
set_option maxRecDepth 8000 in
theorem ContainsFuncT_any (f : FuncId) (p : By → Bool) (A : Option Addr) (n c : Nat) (xs : List By) (w : World) (hn : n ≤ 1099511627776) (ha : Rd w A n (txts xs)) (hxs : ∀ x ∈ xs, x.length ≤ 1048576)
    (hf : TellsT f p) (hcf : ∀ (args : Array Value) (w : World), (callFunc f args).run Tryz.prog w = .ok (.enter f args) w) :
    Calls Tryz.prog 53 #[.slice A n c, .func (.func f) #[] #[]] w fun e w' => e = .returned (.bool (xs.any p)) ∧ w = w' := by
  go_enter Tryz.func53, Tryz.ntmps53
  go_wp2_with fail
  refine (IndexFuncT_any _ p _ _ _ _ _ hn ha hxs hf hcf).mono ?_
  rintro e w1 ⟨r, rfl, hr, rfl⟩
  have HR := Lib.hid hr; clear hr
  go_wp2
  go_ret
  exact ⟨ret_bool HR.out, rfl⟩
set_option maxHeartbeats 400000 in
set_option maxRecDepth 8000 in
theorem longText_tells : TellsT 54 (fun t => decide (200 < t.length)) := by
  intro w x hx
  have hln := fun wx ty => str_len wx ty x
  have h : decide ((200 : Int) < (x.length : Int)) = decide (200 < x.length) := by simp only [decide_eq_decide]; omega
  have H := Lib.hid h
  clear h
  go_enter Tryz.func54, Tryz.ntmps54
  go_wp2
  go_ret
  exact ⟨ret_bool H.out, rfl⟩
end Go.Proofs.YticofgmmjecleaaGreatDoor
namespace Go.Proofs.YticofgmmjecleaaGreatDoor
open Go
section
variable {P : Int} {sq : List Int} {n : Nat}
theorem evE_sum_eq (t : By) : evE P sq n .sum t = (evE P sq n .prod t).bind fun r => evE P sq n (.sumL r.1) r.2 := by
  have e : evE P sq n .sum t = ev P sq n (8 * t.length + 5 + 1) .sum t := rfl
  rw [e, ev, ev_enough (m := .prod) (show need .prod t ≤ _ by simp only [need, rk]; omega)]
  cases h : evE P sq n .prod t with
  | none => rfl
  | some r =>
    have h1 := (ev_len _ _ _ _ (show ev P sq n (need .prod t) .prod t = some r from h)).1
    exact ev_enough (by simp only [need, rk]; omega)
theorem evE_prod_eq (t : By) : evE P sq n .prod t = (evE P sq n .fac t).bind fun r => evE P sq n (.prodL r.1) r.2 := by
  have e : evE P sq n .prod t = ev P sq n (8 * t.length + 3 + 1) .prod t := rfl
  rw [e, ev, ev_enough (m := .fac) (show need .fac t ≤ _ by simp only [need, rk]; omega)]
  cases h : evE P sq n .fac t with
  | none => rfl
  | some r =>
    have h1 := (ev_len _ _ _ _ (show ev P sq n (need .fac t) .fac t = some r from h)).1
    exact ev_enough (by simp only [need, rk]; omega)
theorem evE_sumL_none (o : List Int) {t : By} (h : nxt [43, 45] t = none) : evE P sq n (.sumL o) t = some (o, t) := by
  have e : evE P sq n (.sumL o) t = ev P sq n (8 * t.length + 4 + 1) (.sumL o) t := rfl
  rw [e, ev, h]
theorem evE_sumL_some (o : List Int) {t : By} {c : UInt8} {t' : By} (h : nxt [43, 45] t = some (c, t')) :
    evE P sq n (.sumL o) t = (evE P sq n .prod t').bind fun r => evE P sq n (.sumL (opL P sq c o r.1)) r.2 := by
  have e : evE P sq n (.sumL o) t = ev P sq n (8 * t.length + 4 + 1) (.sumL o) t := rfl
  rw [e, ev, h]
  obtain ⟨rfl, _⟩ := nxt_some h
  rw [List.length_cons]
  dsimp only
  rw [ev_enough (m := .prod) (show need .prod t' ≤ _ by simp only [need, rk]; omega)]
  cases h : evE P sq n .prod t' with
  | none => rfl
  | some r =>
    have h1 := (ev_len _ _ _ _ (show ev P sq n (need .prod t') .prod t' = some r from h)).1
    exact ev_enough (by simp only [need, rk]; omega)
theorem evE_prodL_none (o : List Int) {t : By} (h : nxt [42, 94, 46] t = none) : evE P sq n (.prodL o) t = some (o, t) := by
  have e : evE P sq n (.prodL o) t = ev P sq n (8 * t.length + 2 + 1) (.prodL o) t := rfl
  rw [e, ev, h]
theorem evE_prodL_some (o : List Int) {t : By} {c : UInt8} {t' : By} (h : nxt [42, 94, 46] t = some (c, t')) :
    evE P sq n (.prodL o) t = (evE P sq n .fac t').bind fun r => evE P sq n (.prodL (opL P sq c o r.1)) r.2 := by
  have e : evE P sq n (.prodL o) t = ev P sq n (8 * t.length + 2 + 1) (.prodL o) t := rfl
  rw [e, ev, h]
  obtain ⟨rfl, _⟩ := nxt_some h
  rw [List.length_cons]
  dsimp only
  rw [ev_enough (m := .fac) (show need .fac t' ≤ _ by simp only [need, rk]; omega)]
  cases h : evE P sq n .fac t' with
  | none => rfl
  | some r =>
    have h1 := (ev_len _ _ _ _ (show ev P sq n (need .fac t') .fac t' = some r from h)).1
    exact ev_enough (by simp only [need, rk]; omega)
theorem evE_fac_none {t : By} (h : nxt [45, 126] t = none) : evE P sq n .fac t = evE P sq n .atom t := by
  have e : evE P sq n .fac t = ev P sq n (8 * t.length + 1 + 1) .fac t := rfl
  rw [e, ev, h]
  exact ev_enough (by simp only [need, rk]; omega)
theorem evE_fac_some {t : By} {c : UInt8} {t' : By} (h : nxt [45, 126] t = some (c, t')) :
    evE P sq n .fac t = (evE P sq n .fac t').map fun r => (if c = 45 then scaleL P r.1 (-1) else revL P r.1, r.2) := by
  have e : evE P sq n .fac t = ev P sq n (8 * t.length + 1 + 1) .fac t := rfl
  rw [e, ev, h]
  obtain ⟨rfl, _⟩ := nxt_some h
  rw [List.length_cons]
  dsimp only
  rw [ev_enough (m := .fac) (show need .fac t' ≤ _ by simp only [need, rk]; omega)]
theorem evE_atom_num {t : By} (h : nxt [40, 101] t = none) : evE P sq n .atom t = (numF (digL t)).map fun (k : Nat) => (scaleL P (bladeL n 0) ((k : Int) % P), resL t) := by
  have e : evE P sq n .atom t = ev P sq n (8 * t.length + 0 + 1) .atom t := rfl
  rw [e, ev, h]
theorem evE_atom_bra {t t' : By} (h : nxt [40, 101] t = some (40, t')) : evE P sq n .atom t = (evE P sq n .sum t').bind fun r => (nxt [41] r.2).map fun q => (r.1, q.2) := by
  have e : evE P sq n .atom t = ev P sq n (8 * t.length + 0 + 1) .atom t := rfl
  rw [e, ev, h]
  obtain ⟨rfl, _⟩ := nxt_some h
  rw [List.length_cons]
  dsimp only
  rw [if_pos rfl, ev_enough (m := .sum) (show need .sum t' ≤ _ by simp only [need, rk]; omega)]
theorem evE_atom_name {t t' : By} (h : nxt [40, 101] t = some (101, t')) : evE P sq n .atom t = (maskOf n (101 :: digL t')).map fun (m : Nat) => (bladeL n m, resL t') := by
  have e : evE P sq n .atom t = ev P sq n (8 * t.length + 0 + 1) .atom t := rfl
  rw [e, ev, h]
  dsimp only
  rw [if_neg (by decide)]
theorem opL_add (c : UInt8) (a b : List Int) (h : c = 43 ∨ c = 45) : opL P sq c a b = plusL P a b (if c = 45 then -1 else 1) := by
  rcases h with rfl | rfl <;> rfl
theorem nxt_pm {t : By} {c : UInt8} {t' : By} (h : nxt [43, 45] t = some (c, t')) : c = 43 ∨ c = 45 := by
  have := (nxt_some h).2
  simpa using this
theorem nxt_op {t : By} {c : UInt8} {t' : By} (h : nxt [42, 94, 46] t = some (c, t')) : c = 42 ∨ c = 94 ∨ c = 46 := by
  have := (nxt_some h).2
  simpa using this
theorem nxt_sg {t : By} {c : UInt8} {t' : By} (h : nxt [45, 126] t = some (c, t')) : c = 45 ∨ c = 126 := by
  have := (nxt_some h).2
  simpa using this
theorem nxt_at {t : By} {c : UInt8} {t' : By} (h : nxt [40, 101] t = some (c, t')) : c = 40 ∨ c = 101 := by
  have := (nxt_some h).2
  simpa using this
theorem nxt_len {cs t : By} {c : UInt8} {t' : By} (h : nxt cs t = some (c, t')) : t.length = t'.length + 1 := by
  rw [(nxt_some h).1]; rfl
/-- What one sign less makes is the same by the remainder. -/
theorem scaleL_less (x : List Int) : scaleL P x (P - 1) = scaleL P x (-1) := by
  unfold scaleL
  refine List.map_congr_left fun a _ => ?_
  rw [show a * (P - 1) = a * (-1) + P * a by grind, Int.add_mul_emod_self_left]
end
end Go.Proofs.YticofgmmjecleaaGreatDoor
namespace Go.Proofs.YticofgmmjecleaaGreatDoor
open Go Go.RowKit
/-- Block R is a reader. -/
abbrev RdB (w : World) (R : Nat) (P : Int) (A : Option Addr) (n c : Nat) (t : By) (b : Bool) : Prop := Blk w R 111 #[.int .i64 P, .slice A n c, .string ⟨t.toArray⟩, .bool b]
theorem Blk.four {w : World} {g : Nat} {T : TypeId} {a b c d : Value} (h : Blk w g T #[a, b, c, d]) : w.cell? ⟨g, 0, none⟩ = some a ∧ w.cell? ⟨g, 1, none⟩ = some b ∧ w.cell? ⟨g, 2, none⟩ = some c ∧ w.cell? ⟨g, 3, none⟩ = some d := ⟨h.cell 0, h.cell 1, h.cell 2, h.cell 3⟩
theorem nxt_no {cs : By} {c : UInt8} {r : By} (h : nxt cs (c :: r) = none) : cs.contains c = false := by
  cases hc : cs.contains c with
  | false => rfl
  | true => simp only [nxt, hc, if_true] at h; cases h
set_option maxHeartbeats 1600000 in
set_option maxRecDepth 8000 in
theorem next_none (P : Int) (A : Option Addr) (n c : Nat) (t cs : By) (b : Bool) (R : Nat) (w : World) (he : Env w) (hcs : cs.length ≤ 100) (hk : RdB w R P A n c t b) (h : nxt cs t = none) :
    Calls Tryz.prog 122 #[.pointer (some ⟨R, 0, none⟩), .string ⟨cs.toArray⟩] w fun e w' => e = .returned (.int .u8 0) ∧ w = w' := by
  obtain ⟨q0, q1, q2, q3⟩ := hk.four
  cases t with
  | nil =>
    go_enter Tryz.func122, Tryz.ntmps122
    go_wp2
    go_ret
    exact ⟨rfl, rfl⟩
  | cons d r =>
    have hno := nxt_no h
    have hct := Contains_any cs [d] w (by omega) he
    rw [contains_one, hno] at hct
    have hto := str_to1 w (d :: r) (by simp)
    have htk : (d :: r).take 1 = [d] := rfl
    rw [htk] at hto
    obtain ⟨t, ht⟩ : ∃ t, t = d :: r := ⟨_, rfl⟩
    rw [← ht] at hto q2
    have hn1 : t.isEmpty = false := by rw [ht]; rfl
    have hn2 : (t == []) = false := by rw [ht]; rfl
    clear ht hk h hno htk
    go_enter Tryz.func122, Tryz.ntmps122
    go_wp2_with (go_at_call 150; refine hct.mono ?_; rintro e w1 ⟨rfl, rfl⟩)
    go_ret
    exact ⟨rfl, rfl⟩
set_option maxHeartbeats 1600000 in
set_option maxRecDepth 8000 in
theorem next_some (P : Int) (A : Option Addr) (n c : Nat) (t cs : By) (b : Bool) (R : Nat) (w : World) (d : UInt8) (r : By) (he : Env w) (hcs : cs.length ≤ 100) (hk : RdB w R P A n c t b) (h : nxt cs t = some (d, r)) :
    Calls Tryz.prog 122 #[.pointer (some ⟨R, 0, none⟩), .string ⟨cs.toArray⟩] w fun e w' => e = .returned (.int .u8 d.toNat) ∧ RdB w' R P A n c r b ∧ Ex R w w' := by
  obtain ⟨ht, hyes⟩ := nxt_some h
  obtain ⟨q0, q1, q2, q3⟩ := hk.four
  have f2 := hk.frozen 2
  have hct := Contains_any cs [d] w (by omega) he
  rw [contains_one, hyes] at hct
  have hto := str_to1 w t (by rw [ht]; simp)
  have hfr := str_from1 w t (by rw [ht]; simp)
  have hat := str_at0 w t (by rw [ht]; simp)
  have htk : t.take 1 = [d] := by rw [ht]; rfl
  have hdr : t.drop 1 = r := by rw [ht]; rfl
  have h0 : ∀ hl : 0 < t.length, t[0] = d := by subst ht; intro _; rfl
  rw [htk] at hto
  rw [hdr] at hfr
  rw [h0] at hat
  have hn1 : t.isEmpty = false := by rw [ht]; rfl
  have hn2 : (t == []) = false := by rw [ht]; rfl
  have HK := Lib.hid hk
  clear ht hk h hyes htk hdr h0
  go_enter Tryz.func122, Tryz.ntmps122
  go_wp2_with (go_at_call 150; refine hct.mono ?_; rintro e w1 ⟨rfl, rfl⟩)
  go_ret
  exact ⟨rfl, HK.out.set_ 2 _, Ex.set HK.out.lt 2 _⟩
theorem dig_take (t : By) : t.take (t.length - (resL t).length) = digL t := by
  have h := dig_res t
  have hl : t.length = (digL t).length + (resL t).length := by rw [← List.length_append, h]
  rw [show t.length - (resL t).length = (digL t).length by omega]
  have e : (digL t ++ resL t).take (digL t).length = digL t := List.take_left' rfl
  rw [h] at e
  exact e
theorem Ex.drewN {g : Nat} {w w' : World} (h : Ex g w w') (k : Nat) : Ex g w (w'.drewN k) := ⟨below_drewN h.b k, h.k⟩
set_option maxHeartbeats 1600000 in
set_option maxRecDepth 8000 in
theorem digits_any (P : Int) (A : Option Addr) (n c : Nat) (t : By) (b : Bool) (R : Nat) (w : World) (ht : t.length ≤ 1048576) (hk : RdB w R P A n c t b) :
    Calls Tryz.prog 187 #[.pointer (some ⟨R, 0, none⟩)] w fun e w' => e = .returned (.string ⟨(digL t).toArray⟩) ∧ RdB w' R P A n c (resL t) b ∧ Ex R w w' := by
  obtain ⟨q0, q1, q2, q3⟩ := hk.four
  have htr := TrimDig_any t w
  have hle := resL_len t
  have hx : (ByteArray.mk t.toArray).extract 0 (t.length - (resL t).length) = ⟨(digL t).toArray⟩ := by rw [ByteArray.extract_mk, List.drop_zero, Nat.sub_zero, dig_take]
  obtain ⟨u, hu⟩ : ∃ u, u = resL t := ⟨_, rfl⟩
  have HG := hk.lt
  rw [← hu] at htr hle hx ⊢
  clear hu
  have e1 : wrap64 ((t.length : Int) - (u.length : Int)) = ((t.length - u.length : Nat) : Int) := by unfold wrap64; omega
  have HK := Lib.hid hk
  clear hk q0 q1 q3 q2
  go_enter Tryz.func187, Tryz.ntmps187
  have q2 := HK.out.four.2.2.1
  go_wp2_with (go_at_call 194; refine htr.mono ?_; rintro e w1 ⟨rfl, hb1⟩)
  have hk1 := HK.out.below hb1 HG
  clear q2
  obtain ⟨q0, q1, q2, q3⟩ := hk1.four
  have f2 := hk1.frozen 2
  have HE := Lib.hid (fun nq => (Ex.of_below hb1 (Nat.le_of_lt HG)).drewN nq)
  have HK2 := Lib.hid hk1
  clear hb1 hk1
  go_quiet (fail)
  go_wp2
  go_ret
  exact ⟨rfl, Blk.set_ (w := w1.drewN nq) HK2.out 2 _, (HE.out nq).trans (Ex.set (w := w1.drewN nq) HK2.out.lt 2 _)⟩
set_option maxHeartbeats 1600000 in
set_option maxRecDepth 8000 in
theorem fail_any (P : Int) (A : Option Addr) (n c : Nat) (t : By) (b : Bool) (R : Nat) (w : World) (hn : n ≤ 6) (hk : RdB w R P A n c t b) :
    Calls Tryz.prog 186 #[.pointer (some ⟨R, 0, none⟩)] w fun e w' => ∃ A' c', e = .returned (.slice A' (pw n) c') ∧ RdB w' R P A n c t true ∧ Own w' w.heap.size 2 A' (pw n) c' (ints (List.replicate (pw n) 0)) ∧ Ex R w w' := by
  have f3 := hk.frozen 3
  have q3 := hk.cell 3
  have hk1 : RdB (w.setCell ⟨R, 3, none⟩ (.bool true)) R P A n c t true := hk.set_ 3 _
  have he1 : Ex R w (w.setCell ⟨R, 3, none⟩ (.bool true)) := Ex.set hk.lt 3 _
  have hno := fun w => nothing_any P A n c w (show n ≤ 10 by omega)
  have HG := hk.lt
  go_enter Tryz.func186, Tryz.ntmps186
  obtain ⟨q0, q1, q2, -⟩ := hk1.four
  have HK1 := Lib.hid hk1
  have HE1 := Lib.hid he1
  clear hk1 he1 hk
  go_wp2_with (go_at_call 55; refine (hno _).mono ?_; rintro e w2 ⟨A2, c2, rfl, hM⟩)
  go_ret
  exact ⟨A2, c2, rfl, HK1.out.below hM.b HK1.out.lt, hM.2.base (Nat.le_of_eq (by simp)), HE1.out.then hM.b (Nat.le_of_lt HG)⟩
end Go.Proofs.YticofgmmjecleaaGreatDoor
namespace Go.Proofs.YticofgmmjecleaaGreatDoor
open Go Go.RowKit
/-- Block R is a reader of the reference. -/
abbrev RsB (w : World) (R : Nat) (P : Int) (A : Option Addr) (n c : Nat) (T : By) (i : Nat) (b : Bool) : Prop := Blk w R 105 #[.int .i64 P, .slice A n c, .string ⟨T.toArray⟩, .int .i64 i, .bool b]
theorem Blk.five {w : World} {g : Nat} {T : TypeId} {a b c d e : Value} (h : Blk w g T #[a, b, c, d, e]) : w.cell? ⟨g, 0, none⟩ = some a ∧ w.cell? ⟨g, 1, none⟩ = some b ∧ w.cell? ⟨g, 2, none⟩ = some c ∧ w.cell? ⟨g, 3, none⟩ = some d ∧ w.cell? ⟨g, 4, none⟩ = some e := ⟨h.cell 0, h.cell 1, h.cell 2, h.cell 3, h.cell 4⟩
/-- The next byte, or 0. -/
def pk (t : By) : UInt8 := t.headD 0
theorem pk_at {T : By} {i : Nat} (h : i < T.length) : pk (T.drop i) = T[i] := by rw [List.drop_eq_getElem_cons h]; rfl
theorem pk_end {T : By} {i : Nat} (h : T.length ≤ i) : pk (T.drop i) = 0 := by rw [List.drop_eq_nil_of_le h]; rfl
theorem nxt_of_pk {cs t : By} (h0 : cs.contains 0 = false) : nxt cs t = if cs.contains (pk t) = true then some (pk t, t.tail) else none := by
  cases t with
  | nil => show none = if cs.contains 0 = true then _ else _; rw [h0]; rfl
  | cons c r => rfl
theorem drop_tail {T : By} {i : Nat} : (T.drop i).tail = T.drop (i + 1) := by rw [List.tail_drop]
theorem pk_ne_end {T : By} {i : Nat} (h : pk (T.drop i) ≠ 0) : i < T.length := by
  rcases Nat.lt_or_ge i T.length with hl | hl
  · exact hl
  · exact absurd (pk_end hl) h
set_option maxHeartbeats 1600000 in
set_option maxRecDepth 8000 in
theorem peek_any (P : Int) (A : Option Addr) (n c : Nat) (T : By) (i : Nat) (b : Bool) (R : Nat) (w : World) (hT : T.length ≤ 1048576) (hk : RsB w R P A n c T i b) :
    Calls Tryz.prog 120 #[.pointer (some ⟨R, 0, none⟩)] w fun e w' => e = .returned (.int .u8 (pk (T.drop i)).toNat) ∧ Below w.heap.size w w' := by
  obtain ⟨q0, q1, q2, q3, q4⟩ := hk.five
  by_cases hi : i < T.length
  · have d1 : decide ((i : Int) < (T.length : Int)) = true := by simp; omega
    rw [pk_at hi]
    have i1 : (0 : Int) ≤ (i : Int) := by omega
    have i2 : (i : Int) < (T.length : Int) := by omega
    go_enter Tryz.func120, Tryz.ntmps120
    go_wp2
    go_quiet (fail)
    go_wp2
    go_quiet (fail)
    go_wp2
    go_ret
    exact ⟨rfl, below_drewN (below_drewN (Below.refl _ _) _) _⟩
  · have d1 : decide ((i : Int) < (T.length : Int)) = false := by simp; omega
    rw [pk_end (by omega)]
    go_enter Tryz.func120, Tryz.ntmps120
    go_wp2
    go_quiet (fail)
    go_wp2
    go_ret
    exact ⟨rfl, below_drewN (Below.refl _ _) _⟩
theorem dig_head : ∀ (t : By) (j : Nat), j < (digL t).length → 48 ≤ (pk (t.drop j)).toNat ∧ (pk (t.drop j)).toNat ≤ 57
  | [], j, h => absurd h (by simp [digL])
  | c :: r, j, h => by
    unfold digL at h
    rw [List.takeWhile_cons] at h
    split at h
    · rename_i hc
      cases j with
      | zero => exact (decs_iff c).1 hc
      | succ j => exact dig_head r j (by simpa [digL] using h)
    · simp at h
theorem res_head : ∀ t : By, ¬ (48 ≤ (pk (resL t)).toNat ∧ (pk (resL t)).toNat ≤ 57)
  | [] => by decide
  | c :: r => by
    unfold resL
    rw [List.dropWhile_cons]
    split
    · exact res_head r
    · rename_i hc
      intro h
      exact hc ((decs_iff c).2 h)
theorem drop_dig (t : By) : t.drop (digL t).length = resL t := by
  have h := dig_res t
  have e : (digL t ++ resL t).drop (digL t).length = resL t := List.drop_left' rfl
  rw [h] at e
  exact e
theorem dig_le (t : By) : (digL t).length ≤ t.length := by have := congrArg List.length (dig_res t); rw [List.length_append] at this; omega
theorem take_dig (t : By) : t.take (digL t).length = digL t := by
  have h := dig_res t
  have e : (digL t ++ resL t).take (digL t).length = digL t := List.take_left' rfl
  rw [h] at e
  exact e
set_option maxHeartbeats 3200000 in
set_option maxRecDepth 8000 in
theorem sdigits_any (P : Int) (A : Option Addr) (n c : Nat) (T : By) (i : Nat) (b : Bool) (R : Nat) (w : World) (hT : T.length ≤ 1048576) (hi : i ≤ T.length) (hk : RsB w R P A n c T i b) :
    Calls Tryz.prog 184 #[.pointer (some ⟨R, 0, none⟩)] w fun e w' => e = .returned (.string ⟨(digL (T.drop i)).toArray⟩) ∧ RsB w' R P A n c T (i + (digL (T.drop i)).length) b ∧ Ex R w w' := by
  have hle := dig_le (T.drop i)
  rw [List.length_drop] at hle
  have hx : (ByteArray.mk T.toArray).extract i (i + (digL (T.drop i)).length) = ⟨(digL (T.drop i)).toArray⟩ := by rw [ByteArray.extract_mk, Nat.add_sub_cancel_left, take_dig]
  have hdig := fun m (hm1 : i ≤ m) (hm2 : m < i + (digL (T.drop i)).length) => (show 48 ≤ (pk (T.drop m)).toNat ∧ (pk (T.drop m)).toNat ≤ 57 by
    have := dig_head (T.drop i) (m - i) (by omega); rwa [List.drop_drop, show i + (m - i) = m by omega] at this)
  have hend : ¬ (48 ≤ (pk (T.drop (i + (digL (T.drop i)).length))).toNat ∧ (pk (T.drop (i + (digL (T.drop i)).length))).toNat ≤ 57) := by
    have := res_head (T.drop i); rwa [← drop_dig, List.drop_drop] at this
  obtain ⟨D, hD⟩ : ∃ D, D = digL (T.drop i) := ⟨_, rfl⟩
  rw [← hD] at hle hx hdig hend ⊢
  obtain ⟨L, hL⟩ : ∃ L, L = D.length := ⟨_, rfl⟩
  rw [← hL] at hle hx hdig hend ⊢
  have HDIG := Lib.hid hdig
  have HEND := Lib.hid hend
  have HX := Lib.hid hx
  clear hD hL hdig hend hx
  have q3 := hk.cell 3
  have HG := hk.lt
  go_enter Tryz.func184, Tryz.ntmps184
  go_wp2
  go_loopw [] (fun wr => ∃ m : Nat, i ≤ m ∧ m ≤ i + L ∧ RsB wr R P A n c T m b ∧ Ex R w wr) (fun wr => match wr.cell? ⟨R, 3, none⟩ with | some (.int _ x) => i + L - x.toNat | _ => 0)
  case atStart => exact ⟨i, by omega, by omega, hk, Ex.refl _ _⟩
  case round =>
    obtain ⟨m, hm1, hm2, hkr, hE⟩ := hrel
    clear hk q3
    have hms : (match wr.cell? ⟨R, 3, none⟩ with | some (.int _ x) => i + L - x.toNat | _ => 0) = i + L - m := by rw [hkr.cell 3]; rfl
    rw [hms]
    clear hms
    have hp1 := peek_any P A n c T m b R wr hT hkr
    have hp2 : ∀ wx, Below wr.heap.size wr wx → _ := fun wx hb => peek_any P A n c T m b R wx hT (hkr.below hb hkr.lt)
    by_cases hlt : m < i + L
    · obtain ⟨d1, d2⟩ := HDIG.out m hm1 hlt
      obtain ⟨x, hx⟩ : ∃ x : Nat, x = (pk (T.drop m)).toNat := ⟨_, rfl⟩
      rw [← hx] at hp1 hp2 d1 d2
      have c1 : decide ((48 : Int) ≤ (x : Int)) = true := by simp; omega
      have c2 : decide ((x : Int) ≤ 57) = true := by simp; omega
      clear hx
      go_wp2_with fail
      refine hp1.mono ?_
      rintro e w2 ⟨rfl, hb2⟩
      go_wp2_with fail
      refine (hp2 _ hb2).mono ?_
      rintro e w3 ⟨rfl, hb3⟩
      have hb4 := hb2.trans (hb3.mono hb2.size)
      have hk4 := hkr.below hb4 hkr.lt
      have hE4 := hE.then hb4 (Nat.le_of_lt HG)
      clear hp1 hp2 hb2 hb3 hb4 hkr hE
      have q3 := hk4.cell 3
      have f3 := hk4.frozen 3
      have W1 : wrap64 ((m : Int) + 1) = (m : Int) + 1 := by unfold wrap64; omega
      have HK4 := Lib.hid hk4
      clear hk4
      go_wp2
      go_roundw
      case rel => exact ⟨m + 1, by omega, by omega, HK4.out.set_ 3 _, hE4.trans (Ex.set HK4.out.lt 3 _)⟩
      case measure =>
        rw [(HK4.out.set_ 3 _).cell 3]
        show i + L - ((m : Int) + 1).toNat < _
        omega
    · obtain rfl : m = i + L := by omega
      have hne := HEND.out
      obtain ⟨x, hx⟩ : ∃ x : Nat, x = (pk (T.drop (i + L))).toNat := ⟨_, rfl⟩
      rw [← hx] at hp1 hp2 hne
      clear hx
      obtain ⟨m, hm⟩ : ∃ m, m = i + L := ⟨_, rfl⟩
      rw [← hm] at hkr hm2 HX
      have hml : m ≤ T.length := by omega
      have HM := Lib.hid hm
      have b1 : (0 : Int) ≤ (i : Int) := by omega
      have b2 : (i : Int) ≤ (m : Int) := by omega
      have b3 : (m : Int) ≤ (T.length : Int) := by omega
      have b4 : i ≤ m := by omega
      clear hm HDIG HEND
      by_cases h48 : x < 48
      · have c1 : decide ((48 : Int) ≤ (x : Int)) = false := by simp; omega
        go_wp2_with fail
        refine hp1.mono ?_
        rintro e w2 ⟨rfl, hb2⟩
        have hk2 := hkr.below hb2 hkr.lt
        have hE2 := hE.then hb2 (Nat.le_of_lt HG)
        clear hp1 hp2 hb2 hkr hE
        obtain ⟨q0, q1, q2, q3, q4⟩ := hk2.five
        have HK2 := Lib.hid hk2
        clear hk2
        go_wp2
        go_quiet (fail)
        go_wp2
        go_ret
        exact ⟨congrArg (fun z => Ending.returned (Value.string z)) HX.out, by rw [HM.out] at HK2; exact HK2.out, hE2.drewN _⟩
      · have c1 : decide ((48 : Int) ≤ (x : Int)) = true := by simp; omega
        have c2 : decide ((x : Int) ≤ 57) = false := by simp; omega
        go_wp2_with fail
        refine hp1.mono ?_
        rintro e w2 ⟨rfl, hb2⟩
        go_wp2_with fail
        refine (hp2 _ hb2).mono ?_
        rintro e w3 ⟨rfl, hb3⟩
        have hb4 := hb2.trans (hb3.mono hb2.size)
        have hk2 := hkr.below hb4 hkr.lt
        have hE2 := hE.then hb4 (Nat.le_of_lt HG)
        clear hp1 hp2 hb2 hb3 hb4 hkr hE
        obtain ⟨q0, q1, q2, q3, q4⟩ := hk2.five
        have HK2 := Lib.hid hk2
        clear hk2
        go_wp2
        go_quiet (fail)
        go_wp2
        go_ret
        exact ⟨congrArg (fun z => Ending.returned (Value.string z)) HX.out, by rw [HM.out] at HK2; exact HK2.out, hE2.drewN _⟩
/-- The number of a word, or -1. -/
def isDg (c : UInt8) : Bool := decide (48 ≤ c.toNat ∧ c.toNat ≤ 57)
def valG (u : By) : Int := if u = [] ∨ 9 < u.length ∨ (1 < u.length ∧ u.head? = some 48) then -1 else if u.all isDg = true then (spell u : Int) else -1
theorem valG_dig {u : By} (h : allD u) : valG u = valV u := by
  unfold valG valV numF
  by_cases h1 : u = [] ∨ 9 < u.length ∨ (1 < u.length ∧ u.head? = some 48)
  · rw [if_pos h1, if_pos h1]
  · rw [if_neg h1, if_neg h1, if_pos (List.all_eq_true.2 fun c hc => by unfold isDg; exact decide_eq_true (h c hc))]
theorem spell_small {u : By} {k : Nat} (hk : k ≤ u.length) (h9 : u.length ≤ 9) (hd : ∀ j (hj : j < k), isDg (u[j]'(by omega)) = true) : spell (u.take k) < 10 ^ k := by
  have ha : allD (u.take k) := fun c hc => by
    obtain ⟨j, hj, rfl⟩ := List.mem_iff_getElem.1 hc
    rw [List.length_take] at hj
    have := hd j (by omega)
    unfold isDg at this
    rw [List.getElem_take]
    exact of_decide_eq_true this
  have := spl_lt (u.take k) 0 0 ha (by decide)
  rw [Nat.zero_add, List.length_take, Nat.min_eq_left hk] at this
  exact this
set_option maxHeartbeats 3200000 in
set_option maxRecDepth 8000 in
theorem l01Value_any (u : By) (w : World) (hu : u.length ≤ 1048576) :
    Calls Tryz.prog 185 #[.string ⟨u.toArray⟩] w fun e w' => e = .returned (.int .i64 (valG u)) ∧ w = w' := by
  have hln := fun ty => str_len w ty u
  by_cases h0 : u = []
  · subst h0
    go_enter Tryz.func185, Tryz.ntmps185
    go_wp2
    go_ret
    exact ⟨rfl, rfl⟩
  have hpos : 0 < u.length := List.length_pos_iff.2 h0
  have d0 : ((u.length : Int) == 0) = false := by simp; omega
  obtain ⟨V, hV⟩ : ∃ V, V = valG u := ⟨_, rfl⟩
  have HV := Lib.hid hV
  rw [← hV]
  clear hV
  by_cases h9 : 9 < u.length
  · have d9 : decide ((9 : Int) < (u.length : Int)) = true := by simp; omega
    have hv : Hid (V = -1) := Lib.hid (by rw [HV.out]; unfold valG; rw [if_pos (Or.inr (Or.inl h9))])
    go_enter Tryz.func185, Tryz.ntmps185
    go_wp2
    go_ret
    exact ⟨by rw [hv.out]; rfl, rfl⟩
  have d9 : decide ((9 : Int) < (u.length : Int)) = false := by simp; omega
  have hat0 := str_at0 w u hpos
  have hhd : u.head? = some u[0] := by cases u with | nil => exact absurd rfl h0 | cons c r => rfl
  by_cases hz : 1 < u.length ∧ u[0] = 48
  · have d1 : decide ((1 : Int) < (u.length : Int)) = true := by simp; omega
    have hv : Hid (V = -1) := Lib.hid (by rw [HV.out]; unfold valG; rw [if_pos (Or.inr (Or.inr ⟨hz.1, by rw [hhd, hz.2]⟩))])
    rw [hz.2] at hat0
    clear h0 hhd hz
    go_enter Tryz.func185, Tryz.ntmps185
    go_wp2
    go_ret
    exact ⟨by rw [hv.out]; rfl, rfl⟩
  have HV2 : Hid (V = if u.all isDg = true then (spell u : Int) else -1) := Lib.hid (by
    rw [HV.out]; unfold valG
    rw [if_neg (fun h => h.elim h0 fun h => h.elim h9 fun h => hz ⟨h.1, by have := h.2; rw [hhd] at this; injection this⟩)])
  have hstart : ∀ Q : Prop, (decide ((1 : Int) < (u.length : Int)) = false → Q) → (decide ((1 : Int) < (u.length : Int)) = true → (((u[0]).toNat : Int) == 48) = false → Q) → Q := fun Q q1 q2 => by
    by_cases h1 : 1 < u.length
    · refine q2 (by simp; omega) ?_
      have hne : u[0] ≠ 48 := fun e => hz ⟨h1, e⟩
      have : (u[0]).toNat ≠ 48 := fun e => hne (UInt8.toNat_inj.1 e)
      simp; omega
    · exact q1 (by simp; omega)
  clear hhd hz HV
  have hatk : ∀ k (hk : k < u.length), (Instr.index 9 (.string ⟨u.toArray⟩) (.int .i64 (k : Int))).run Tryz.prog w = .ok (.int .u8 (u[k]).toNat) w := fun k hk => str_at w u k hk
  obtain ⟨x0, hx0⟩ : ∃ x0 : Nat, x0 = (u[0]).toNat := ⟨_, rfl⟩
  rw [← hx0] at hat0
  simp only [← hx0] at hstart
  clear hx0
  have HAT := Lib.hid hatk
  clear hatk h0
  refine hstart _ (fun d1 => ?_) (fun d1 d48 => ?_)
  all_goals
    clear hstart
    go_enter Tryz.func185, Tryz.ntmps185
    go_wp2
    go_loop [3, 4] (fun s i => ∃ k : Nat, k ≤ u.length ∧ i = .int .i64 k ∧ s = .int .i64 (spell (u.take k) : Nat) ∧ Hid (∀ j (hj : j < k) (hl : j < u.length), isDg u[j] = true)) (fun _ i => u.length - (intOf i).toNat)
    case atStart => exact ⟨0, by omega, rfl, rfl, Lib.hid fun j hj => absurd hj (by omega)⟩
    case round =>
      obtain ⟨k, hk, rfl, rfl, hD⟩ := hrel
      by_cases hlt : k < u.length
      · have hat := HAT.out k hlt
        have hsm := spell_small hk (by omega) (fun j hj => hD.out j hj (by omega))
        have hsm9 : spell (u.take k) < 100000000 := Nat.lt_of_lt_of_le hsm (Nat.le_trans (Nat.pow_le_pow_right (n := 10) (by decide) (show k ≤ 8 by omega)) (by decide))
        have hst := spell_take hlt
        have hisd : isDg u[k] = decide (48 ≤ (u[k]).toNat ∧ (u[k]).toNat ≤ 57) := rfl
        have hlt8 : (u[k]).toNat < 256 := (u[k]).toNat_lt
        have hnall : isDg u[k] = false → u.all isDg = false := fun h => by
          rw [Bool.eq_false_iff]; intro ha
          rw [List.all_eq_true.1 ha _ (List.getElem_mem hlt)] at h; cases h
        obtain ⟨x, hx⟩ : ∃ x : Nat, x = (u[k]).toNat := ⟨_, rfl⟩
        obtain ⟨bd, hbd⟩ : ∃ bd, bd = isDg u[k] := ⟨_, rfl⟩
        rw [← hx] at hat hst hisd hlt8
        rw [← hbd] at hisd hnall
        have HBD := Lib.hid hbd
        have HST := Lib.hid hst
        obtain ⟨S, hS⟩ : ∃ S, S = spell (u.take k) := ⟨_, rfl⟩
        rw [← hS] at hsm9 HST ⊢
        clear hS hsm hbd hx hst
        by_cases h48 : x < 48
        · have c1 : decide ((x : Int) < 48) = true := by simp; omega
          have hv : Hid (V = -1) := Lib.hid (by rw [HV2.out, hnall (by rw [hisd]; simp; omega)]; rfl)
          clear hisd hnall
          go_wp2
          go_ret
          exact ⟨by rw [hv.out]; rfl, rfl⟩
        · have c1 : decide ((x : Int) < 48) = false := by simp; omega
          by_cases h57 : 57 < x
          · have c2 : decide ((57 : Int) < (x : Int)) = true := by simp; omega
            have hv : Hid (V = -1) := Lib.hid (by rw [HV2.out, hnall (by rw [hisd]; simp; omega)]; rfl)
            clear hisd hnall
            go_wp2
            go_ret
            exact ⟨by rw [hv.out]; rfl, rfl⟩
          · have c2 : decide ((57 : Int) < (x : Int)) = false := by simp; omega
            have hbt : Hid (bd = true) := Lib.hid (by rw [hisd]; exact decide_eq_true ⟨by omega, by omega⟩)
            have U1 : IntKind.u8.wrap ((x : Int) - 48) = (x : Int) - 48 := by
              have e : IntKind.u8.wrap ((x : Int) - 48) = ((x : Int) - 48) % 256 := rfl
              rw [e]; omega
            have W1 : wrap64 ((S : Int) * 10) = (S : Int) * 10 := by unfold wrap64; omega
            have W2 : wrap64 ((S : Int) * 10 + ((x : Int) - 48)) = (S : Int) * 10 + ((x : Int) - 48) := by unfold wrap64; omega
            have W3 : wrap64 ((x : Int) - 48) = (x : Int) - 48 := by unfold wrap64; omega
            have W4 : IntKind.i64.wrap ((x : Int) - 48) = (x : Int) - 48 := by rw [IntWalk.i64_left]; exact W3
            clear hisd hnall
            go_wp2
            go_round
            case rel =>
              refine ⟨k + 1, by omega, by go_num, by rw [HST.out]; exact congrArg _ (by omega), Lib.hid fun j hj hl => ?_⟩
              by_cases e : j = k
              · subst e; rw [← HBD.out]; exact hbt.out
              · exact hD.out j (by omega) hl
            case measure => simp [intOf]; omega
      · obtain rfl : k = u.length := by omega
        have hv : Hid (V = (spell u : Int)) := Lib.hid (by
          rw [HV2.out, if_pos (List.all_eq_true.2 fun c hc => by obtain ⟨j, hj, rfl⟩ := List.mem_iff_getElem.1 hc; exact hD.out j hj hj)])
        rw [List.take_length]
        go_wp2
        go_ret
        exact ⟨by rw [hv.out]; rfl, rfl⟩
end Go.Proofs.YticofgmmjecleaaGreatDoor
namespace Go.Proofs.YticofgmmjecleaaGreatDoor
open Go Go.RowKit
/-- What a part of the reader leaves. -/
def RdPost (P : Int) (sq : List Int) (A : Option Addr) (n c : Nat) (m : Md) (t : By) (R : Nat) (w : World) (e : Ending) (w' : World) : Prop :=
  ∃ (A' : Option Addr) (c' : Nat) (x : List Int) (t' : By) (b : Bool), e = .returned (.slice A' (pw n) c') ∧ RdB w' R P A n c t' b ∧ MuL P n x ∧ Own w' w.heap.size 2 A' (pw n) c' (ints x) ∧ t'.length ≤ t.length ∧ evE P sq n m t = (if b = true then none else some (x, t')) ∧ Ex R w w'
/-- Function F reads a part of kind m at the text t. -/
def RdC (F : FuncId) (P : Int) (sq : List Int) (A : Option Addr) (n c : Nat) (m : Md) (t : By) : Prop :=
  ∀ (R : Nat) (w : World), EnvB R w → (∀ a, A = some a → a.block < R) → Rd w A n (ints sq) → RdB w R P A n c t false → Calls Tryz.prog F #[.pointer (some ⟨R, 0, none⟩)] w (RdPost P sq A n c m t R w)
set_option maxHeartbeats 6400000 in
set_option maxRecDepth 8000 in
theorem rsum_any (P : Int) (sq : List Int) (A : Option Addr) (n c : Nat) (t : By) (hp : 2 ≤ P) (hp2 : P ≤ 13) (hn : n ≤ 6) (ht : t.length ≤ 1048576)
    (hpr : ∀ t' : By, t'.length ≤ t.length → RdC 121 P sq A n c .prod t') : RdC 92 P sq A n c .sum t := by
  intro R w he hA hr hk
  have hpn : pw n ≤ 64 := pw_le hn
  have h0 := hpr t (Nat.le_refl _) R w he hA hr hk
  have HG := hk.lt
  obtain ⟨V, hV⟩ : ∃ V, V = evE P sq n .sum t := ⟨_, rfl⟩
  have HV := Lib.hid hV
  clear hV
  go_enter Tryz.func92, Tryz.ntmps92
  go_wp2_with fail
  refine h0.mono ?_
  rintro e w1 ⟨A1, c1, x1, t1, b1, rfl, hk1, hx1, hO1, hl1, hev1, hE1⟩
  have hs1 : V = if b1 = true then none else evE P sq n (.sumL x1) t1 := by
    rw [HV.out, evE_sum_eq, hev1]; cases b1 <;> rfl
  clear h0 hev1
  go_wp2
  go_loopw [3] (fun out wr => ∃ (A1 : Option Addr) (c1 : Nat) (x1 : List Int) (t1 : By) (b1 : Bool), out = .slice A1 (pw n) c1 ∧ RdB wr R P A n c t1 b1 ∧ MuL P n x1 ∧ Own wr w.heap.size 2 A1 (pw n) c1 (ints x1) ∧ t1.length ≤ t.length ∧ V = (if b1 = true then none else evE P sq n (.sumL x1) t1) ∧ Ex R w wr) (fun _ wr => match wr.cell? ⟨R, 2, none⟩ with | some (.string s) => s.size | _ => 0)
  case atStart => exact ⟨A1, c1, x1, t1, b1, rfl, hk1, hx1, hO1, hl1, hs1, hE1⟩
  case round =>
    clear hk1 hx1 hO1 hl1 hs1 hE1
    obtain ⟨A1, c1, x1, t1, b1, rfl, hk1, hx1, hO1, hl1, hs1, hE1⟩ := hrel
    have q3 := hk1.cell 3
    have HS := Lib.hid hs1
    clear hs1
    cases b1 with
    | true =>
      go_wp2
      go_ret
      exact ⟨A1, c1, x1, t1, true, rfl, hk1, hx1, hO1, hl1, HV.out.symm.trans HS.out, hE1⟩
    | false =>
      have heB := he.on hE1.b
      cases hnx : nxt [43, 45] t1 with
      | none =>
        have hcall := next_none P A n c t1 [43, 45] false R wr heB.here.e (by decide) hk1 hnx
        go_wp2_with (go_at_call 122; refine hcall.mono ?_; rintro e w2 ⟨rfl, rfl⟩)
        go_ret
        exact ⟨A1, c1, x1, t1, false, rfl, hk1, hx1, hO1, hl1, by rw [← HV.out, HS.out]; exact evE_sumL_none x1 hnx, hE1⟩
      | some q =>
        obtain ⟨d, t2⟩ := q
        have hcall := next_some P A n c t1 [43, 45] false R wr d t2 heB.here.e (by decide) hk1 hnx
        have hpm := nxt_pm hnx
        have hln := nxt_len hnx
        have HS2 : Hid (V = (evE P sq n .prod t2).bind fun r => evE P sq n (.sumL (plusL P x1 r.1 (if d = 45 then -1 else 1))) r.2) := Lib.hid (by
          rw [HS.out]
          show evE P sq n (.sumL x1) t1 = _
          rw [evE_sumL_some x1 hnx]
          congr 1
          funext r
          rw [opL_add d _ _ hpm])
        have hsz : (match wr.cell? ⟨R, 2, none⟩ with | some (.string s) => s.size | _ => 0) = t1.length := by rw [hk1.cell 2]; exact bs_len t1
        rw [hsz]
        clear HS hnx hsz
        have HMU := Lib.hid hx1
        clear hx1
        rcases hpm with rfl | rfl
        all_goals
          go_wp2_with fail
          refine hcall.mono ?_
          rintro e w2 ⟨rfl, hk2, hE2⟩
          have hO2 := hO1.ex hE2 hk1 (by decide)
          have hE3 := hE1.trans hE2
          clear hcall hO1 hE1 hE2 hk1 q3 heB
          obtain ⟨q0, q1, q2, q3⟩ := hk2.four
          go_wp2_with fail
          refine (field_any P A n c w2).mono ?_
          rintro e w3 ⟨rfl, hb3⟩
          have hk3 := hk2.below hb3 hk2.lt
          have hO3 := hO2.below hb3
          have hE4 := hE3.then hb3 (Nat.le_of_lt HG)
          clear hO2 hE3 q0 q1 q2 q3 hb3 hk2
          have hcall := hpr t2 (by omega) R w3 (he.on hE4.b) hA (hr.ex hE4 hA) hk3
          go_wp2_with fail
          refine hcall.mono ?_
          rintro e w4 ⟨A2, c2, x2, t3, b2, rfl, hk4, hx2, hO4, hl2, hev2, hE5⟩
          have hO5 := hO3.ex hE5 hk3 (by decide)
          have hO6 := hO4.base (B' := w.heap.size) hE4.size
          have hE6 := hE4.trans hE5
          have HEV := Lib.hid hev2
          clear hcall hO3 hE4 hE5 hk3 hO4 hev2
          go_wp2_with fail
          refine (plus_any P A1 (pw n) c1 A2 (pw n) c2 _ x1 x2 w4 hp hp2 (by omega) (Nat.le_refl _) hO5.rd HMU.out.2 hO6.rd hx2.2 (by omega) (by omega)).mono ?_
          rintro e w5 ⟨A3, c3, rfl, hM⟩
          have hk5 := hk4.below hM.b hk4.lt
          have hE7 := hE6.then hM.b (Nat.le_of_lt HG)
          have hO7 := hM.2.base (B' := w.heap.size) hE6.size
          clear hE6 hO5 hO6 hk4 hM
          go_wp2
          go_roundw
          case rel =>
            refine ⟨A3, c3, _, t3, b2, rfl, hk5, ⟨(plusL_len _ _ _ _).trans HMU.out.1, plusL_nums (by omega) _ _ _⟩, hO7, by omega, ?_, hE7⟩
            rw [HS2.out, HEV.out]
            cases b2 <;> rfl
          case measure =>
            rw [hk5.cell 2]
            show (ByteArray.mk t3.toArray).size < _
            rw [bs_len]; omega
end Go.Proofs.YticofgmmjecleaaGreatDoor
namespace Go.Proofs.YticofgmmjecleaaGreatDoor
open Go.RowKit
theorem getD_step {l : Array Bool} {i k0 : Nat} (h : i < l.size) : (l.getD k0 false || i == k0) = (l.setIfInBounds i true).getD k0 false := by
  by_cases e : i = k0
  · subst e; simp [Array.getD, h]
  · rw [getD_set_ne _ e]
    have : (i == k0) = false := by simpa using e
    rw [this, Bool.or_false]
section
variable {P : Program} {ops : Array Oper} {Q : Exit → Act → World → Prop}
/-- What is to be shown of operation j. -/
def ObK (P : Program) (ops : Array Oper) (k0 : Nat) (S : Bool → World → Prop) (R C : List (List Nat)) (Rel : World → World → Prop) (m : Nat) (V : (Nat → Value) → List VP) (x : Nat → Value) (a0 : Act) (j : Nat) : Prop :=
  ∀ b w, (j = k0 → b = false) → S b w → (∀ i ∈ availR R C m j, ((V x).getD i VAny).p (x i) w) →
    wpOp P ops NoWay j (fun a' w' => ∃ v, (∀ d, dstOf ops j = some d → a'.tmps[d]? = some v) ∧ a'.defers = a0.defers ∧ ((V x).getD j VAny).p v w' ∧ StepR C Rel j w w') (putS ops x a0 j) w
theorem tasks_goK {m : Nat} {Rel : World → World → Prop} {R C : List (List Nat)} {V : (Nat → Value) → List VP} {k0 : Nat} {S : Bool → World → Prop} {a0 : Act} (hok : tasksOk ops m a0.tmps.size R = true)
    (hdep : ∀ x x' j, (∀ i ∈ R.getD j [], x i = x' i) → (V x).getD j VAny = (V x').getD j VAny) (hweak : ∀ i, i < m → (C.getD i []).isEmpty = false → ∀ k, k < m → k ≠ i → i ∉ R.getD k [] → k ∉ C.getD i [] → ∀ x v w w', ((V x).getD k VAny).p v w → Rel w w' → ((V x).getD k VAny).p v w') (hSt : ∀ j b w w', S b w → StepR C Rel j w w' → S (b || j == k0) w') (hob : ∀ x j, j < m → ObK P ops k0 S R C Rel m V x a0 j)
    (hend : ∀ x w' b, S b w' → (∀ i ∈ endR C m, ((V x).getD i VAny).p (x i) w') → wpAny P .any ops Q (ops.size - m) (listedTo ops.size m) (putS ops x a0 m) w') :
    ∀ (c : Nat) (U : List Nat) (listed : Array Bool) (w : World) (x : Nat → Value), U.length = c → U.Nodup → (∀ i, i ∈ U ↔ i < m ∧ listed.getD i false = false) → listed.size = ops.size →
      (∀ i, m ≤ i → i < ops.size → listed.getD i false = false) → (∀ (j : Nat) (o : Oper), ops[j]? = some o → listed.getD j false = true → ∀ e ∈ o.after, Region.binds .any e = true → listed.getD e.on false = true) →
      S (listed.getD k0 false) w → (∀ i, i < m → listed.getD i false = true → (∀ j, j < m → i ∈ C.getD j [] → listed.getD j false = false) → ((V x).getD i VAny).p (x i) w) → wpAny P .any ops Q (ops.size - m + c) listed (putD ops (fun i => listed.getD i false) x a0 m) w := by
  obtain ⟨hmn, hspec, htail⟩ := tasks_spec hok
  have hsel : Region.noSelect ops = true := by unfold tasksOk at hok; simp only [Bool.and_eq_true] at hok; exact hok.1.1
  intro c
  induction c with
  | zero =>
    intro U listed w x hU hnd hmem hsz hun hcl hS hV
    obtain rfl : U = [] := List.eq_nil_of_length_eq_zero hU
    have hall : ∀ i, i < m → listed.getD i false = true := fun i hi => by
      cases h : listed.getD i false
      · exact absurd ((hmem i).2 ⟨hi, h⟩) (by simp)
      · rfl
    have hl : listed = listedTo ops.size m := by
      apply Array.ext
      · simp [listedTo, hsz]
      · intro i h1 h2
        have e : listed.getD i false = listed[i] := by simp [Array.getD, h1]
        by_cases hi : i < m
        · have := hall i hi
          rw [e] at this
          simp [listedTo, this, hi]
        · have := hun i (by omega) (by omega)
          rw [e] at this
          simp [listedTo, this, hi]
    rw [Nat.add_zero, putD_congr (ops := ops) _ (fun _ => true) x x a0 m (fun i hi => ⟨hall i hi, fun _ => rfl⟩), hl]
    exact hend x w _ hS (fun i hi => hV i (endR_spec.1 hi).1 (hall i (endR_spec.1 hi).1) (fun j hj hc => absurd hc ((endR_spec.1 hi).2 j hj)))
  | succ c ih =>
    intro U listed w x hU hnd hmem hsz hun hcl hS hV
    have hne : U ≠ [] := fun e => by rw [e] at hU; simp at hU
    show (_ → _) ∧ _
    refine ⟨fun hr => ?_, fun i hi => ?_⟩
    · exfalso
      obtain ⟨i, hiU, hmin⟩ := min_mem U hne
      obtain ⟨him, hil⟩ := (hmem i).1 hiU
      have hlt : i < ops.size := by omega
      have : i ∈ Region.ready .any ops listed := mem_ready.2 ⟨by simpa [Array.getD, hsz, hlt] using hil, _, Array.getElem?_eq_getElem hlt, fun e he hb => by
        have hlti := (hspec i _ (Array.getElem?_eq_getElem hlt) him).1 e he hb
        cases h : listed.getD e.on false
        · have := hmin e.on ((hmem _).2 ⟨by omega, h⟩); omega
        · rfl⟩
      rw [hr] at this
      cases this
    · obtain ⟨hil, o, ho, hdeps⟩ := mem_ready.1 hi
      have hlt : i < ops.size := (Array.getElem?_eq_some_iff.1 ho).1
      have hil' : listed.getD i false = false := by simpa [Array.getD, hsz, hlt] using hil
      have hreach := listed_reach hok (fun i => listed.getD i false) hcl i o ho hdeps
      have him : i < m := by
        rcases Nat.lt_or_ge i m with h | h
        · exact h
        · exfalso
          obtain ⟨k, hk⟩ := List.exists_mem_of_ne_nil U hne
          obtain ⟨hkm, hkl⟩ := (hmem k).1 hk
          have := hreach k (htail i hlt h k hkm)
          rw [hkl] at this; cases this
      obtain ⟨_, ⟨d, hd, hdsz, hduniq⟩, hlook⟩ := hspec i o ho him
      have hdst : dstOf ops i = some d := by simp [dstOf, ho, hd]
      have hso : ∀ cs b, o.op ≠ .select cs b := fun cs b => Region.noSelect_spec hsel i o cs b ho
      -- the two frames agree on what o looks at
      have hagree : ∀ t ∈ o.looksAt ops, (putD ops (fun i => listed.getD i false) x a0 m).tmps[t]? = (putS ops x a0 i).tmps[t]? := fun t ht => by
        by_cases hex : ∃ k, k < m ∧ dstOf ops k = some t
        · obtain ⟨k, hkm, hkd⟩ := hex
          have hkR := hlook t ht k hkm hkd
          have hki := reach_lt hok i hlt k hkR
          have hkl := hreach k hkR
          have hks : k < ops.size := by omega
          obtain ⟨_, ⟨d', hd', hdsz', hu'⟩, _⟩ := hspec k _ (Array.getElem?_eq_getElem hks) hkm
          have htd : d' = t := by
            have : dstOf ops k = some d' := by simp [dstOf, Array.getElem?_eq_getElem hks, hd']
            rw [hkd] at this; injection this with this; exact this.symm
          rw [putD_at _ _ _ _ k hkd hkl (htd ▸ hdsz') m hkm (fun l hl hlk => htd ▸ hu' l hl hlk)]
          unfold putS
          rw [putD_at _ _ _ _ k hkd rfl (htd ▸ hdsz') i hki (fun l hl hlk => htd ▸ hu' l (by omega) hlk)]
        · rw [putD_other _ _ _ _ m (fun k hk hkd => absurd ⟨k, hk, hkd⟩ hex)]
          unfold putS
          rw [putD_other _ _ _ _ i (fun k hk hkd => absurd ⟨k, by omega, hkd⟩ hex)]
      have hob' := hob x i him (listed.getD k0 false) w (fun e => by rw [← e]; exact hil') hS (fun k hk => by
        obtain ⟨hkR, hkC⟩ := availR_spec.1 hk
        refine hV k (by have := reach_lt hok i hlt k hkR; omega) (hreach k hkR) (fun j hj hc => ?_)
        rcases hkC j hj hc with rfl | hij
        · exact hil'
        · cases hjl : listed.getD j false
          · rfl
          · have hjs : j < ops.size := by omega
            have := listed_reach hok (fun i => listed.getD i false) hcl j _ (Array.getElem?_eq_getElem hjs) (hcl j _ (Array.getElem?_eq_getElem hjs) hjl) i hij
            rw [hil'] at this; cases this)
      have hsz1 := putD_size (ops := ops) (fun _ => true) x a0 i
      -- what comes behind
      have next : ∀ v w', ((V x).getD i VAny).p v w' → StepR C Rel i w w' → wpAny P .any ops Q (ops.size - m + c) (listed.setIfInBounds i true) ((putD ops (fun i => listed.getD i false) x a0 m).put (some d) v) w' := fun v w' hv hb => by
        have hput := putD_put (ops := ops) (fun k => listed.getD k false) (fun k => (listed.setIfInBounds i true).getD k false) x (fun k => if k = i then v else x k) a0 i hil'
          (by simp [hsz, hlt]) (fun k hk => ⟨by rw [getD_set_ne _ (Ne.symm hk)], by simp [hk]⟩) m him
          (fun d' k hk hki hd' => by rw [hdst] at hd'; injection hd' with hd'; exact hd' ▸ hduniq k hk hki)
        simp only [if_true] at hput
        rw [← hdst, hput]
        refine ih (U.erase i) _ _ _ ?_ (hnd.erase _) (fun k => ?_) (by simpa using hsz) (fun k h1 h2 => ?_) (fun j oj hoj hj e he hb' => ?_) (getD_step (k0 := k0) (i := i) (l := listed) (by rw [hsz]; exact hlt) ▸ hSt i _ _ _ hS hb) (fun k hk hkl hcons => ?_)
        · rw [List.length_erase_of_mem ((hmem i).2 ⟨him, hil'⟩), hU]; rfl
        · rw [hnd.mem_erase_iff, hmem]
          by_cases hk : k = i
          · subst hk; simp [hsz, hlt]
          · rw [getD_set_ne _ (Ne.symm hk)]; simp [hk]
        · rw [getD_set_ne _ (by omega)]; exact hun k h1 h2
        · by_cases hji : j = i
          · subst hji
            rw [ho] at hoj; injection hoj with hoj; subst hoj
            exact getD_set_true (hdeps e he hb')
          · rw [getD_set_ne _ (Ne.symm hji)] at hj
            exact getD_set_true (hcl j oj hoj hj e he hb')
        · by_cases hki : k = i
          · subst hki
            rw [hdep _ x k (fun l hl => by have := reach_lt hok k hlt l hl; simp only [show l ≠ k by omega, if_false])]
            simpa using hv
          · rw [getD_set_ne _ (Ne.symm hki)] at hkl
            have hks : k < ops.size := by omega
            have hdk : (V fun l => if l = i then v else x l).getD k VAny = (V x).getD k VAny := hdep _ x k (fun l hl => by
              have hll := listed_reach hok (fun i => listed.getD i false) hcl k _ (Array.getElem?_eq_getElem hks) (hcl k _ (Array.getElem?_eq_getElem hks) hkl) l hl
              have hne : l ≠ i := fun e => by rw [e] at hll; rw [hil'] at hll; cases hll
              simp only [hne, if_false])
            simp only [hki, if_false]
            rw [hdk]
            have hb0 : ∀ j, j < m → k ∈ C.getD j [] → listed.getD j false = false := fun j hj hc => by
              have h1 := hcons j hj hc
              by_cases hji : j = i
              · rw [hji]; exact hil'
              · rwa [getD_set_ne _ (Ne.symm hji)] at h1
            have hkC : k ∉ C.getD i [] := fun hc => by
              have h1 := hcons i him hc
              simp [hsz, hlt] at h1
            have hiR : i ∉ R.getD k [] := fun hik => by
              have := listed_reach hok (fun i => listed.getD i false) hcl k _ (Array.getElem?_eq_getElem hks) (hcl k _ (Array.getElem?_eq_getElem hks) hkl) i hik
              rw [hil'] at this; cases this
            cases he : (C.getD i []).isEmpty
            · replace hb : Rel w w' := by unfold StepR at hb; rw [he] at hb; exact hb
              exact hweak i him he k hk hki hiR hkC x _ _ _ (hV k hk hkl hb0) hb
            · replace hb : Below w.heap.size w w' := by unfold StepR at hb; rw [he] at hb; exact hb
              exact ((V x).getD k VAny).st _ _ _ (hV k hk hkl hb0) hb
      unfold wpOp at hob' ⊢
      simp only [ho] at hob' ⊢
      rw [wanted_same hagree]
      split
      · rename_i hw
        rw [if_pos hw] at hob'
        rcases hob' with h | ⟨_, h⟩
        case inr => exact absurd h NoWay.lets
        refine .inl (Oper.wp_mono ?_ (wp_move (Q := Q) (d := d) (R := fun v w' => ((V x).getD i VAny).p v w' ∧ StepR C Rel i w w') (exec_same hso hagree) hd (by unfold putS; rw [hsz1.1]; exact hdsz)
          (Oper.wp_mono (fun a' w' ⟨v, h1, h2, h3, h4⟩ => ⟨v, h1 d hdst, by unfold putS; rw [hsz1.2]; exact h2, h3, h4⟩) h)))
        rintro a' w' ⟨v, rfl, hv, hb⟩
        exact next v w' hv hb
      · rename_i hw
        rw [if_neg hw] at hob'
        obtain ⟨v, h1, _, h3, h4⟩ := hob'
        have hvu : v = undef := by
          have := h1 d hdst
          rw [hd] at this
          simp [Act.put, putS, hsz1.1, hdsz] at this
          exact this.symm
        rw [hd]
        exact next undef w (hvu ▸ h3) h4
/-- **A region that draws its order**: each of its first m operations is shown once; what is left behind them goes on. -/
theorem wp_tasksK {id m : Nat} {Rel : World → World → Prop} (R C : List (List Nat)) (V : (Nat → Value) → List VP) (k0 : Nat) (S : Bool → World → Prop) {a0 : Act} {w : World} (hm : P.follows .mixedOrders = true) (hok : tasksOk ops m a0.tmps.size R = true)
    (hdep : ∀ x x' j, (∀ i ∈ R.getD j [], x i = x' i) → (V x).getD j VAny = (V x').getD j VAny) (hweak : ∀ i, i < m → (C.getD i []).isEmpty = false → ∀ k, k < m → k ≠ i → i ∉ R.getD k [] → k ∉ C.getD i [] → ∀ x v w w', ((V x).getD k VAny).p v w → Rel w w' → ((V x).getD k VAny).p v w') (hS0 : S false w.drew) (hSt : ∀ j b w w', S b w → StepR C Rel j w w' → S (b || j == k0) w') (hob : ∀ x j, j < m → ObK P ops k0 S R C Rel m V x a0 j)
    (hend : ∀ x w' b, S b w' → (∀ i ∈ endR C m, ((V x).getD i VAny).p (x i) w') → wpAny P .any ops Q (ops.size - m) (listedTo ops.size m) (putS ops x a0 m) w') : (Code.region id ops true).wp P Q a0 w := by
  have hmn := (tasks_spec hok).1
  have hf : ∀ i, (Array.replicate ops.size false).getD i false = false := fun i => by simp [Array.getD]
  have h := tasks_goK (Q := Q) hok hdep hweak hSt hob hend m (List.range m) (Array.replicate ops.size false) w.drew (fun _ => undef) (by simp) List.nodup_range (fun i => by rw [hf]; simp) (by simp) (fun i _ _ => hf i) (fun j o _ hj => by rw [hf] at hj; cases hj) (by rw [hf]; exact hS0)
    (fun i _ hi => by rw [hf] at hi; cases hi)
  refine wp_region_any hm ?_
  rw [show ops.size - m + m = ops.size by omega, putD_congr (ops := ops) _ (fun _ => false) _ (fun _ => undef) a0 m (fun i _ => ⟨hf i, fun _ => rfl⟩)] at h
  have e : ∀ n, putD ops (fun _ => false) (fun _ => undef) a0 n = a0 := fun n => by
    induction n with
    | zero => rfl
    | succ n ih => unfold putD; simpa using ih
  rw [e] at h
  exact h
/-- What is to be shown, operation by operation, in the text's order; the frame goes along. -/
def ObsK (P : Program) (ops : Array Oper) (Q : Exit → Act → World → Prop) (k0 : Nat) (S : Bool → World → Prop) (R C : List (List Nat)) (Rel : World → World → Prop) (m : Nat) (V : (Nat → Value) → List VP) (x : Nat → Value) : Nat → Nat → Act → Prop
  | 0, j, a => ∀ w b, S b w → (∀ i ∈ endR C m, ((V x).getD i VAny).p (x i) w) → wpAny P .any ops Q (ops.size - j) (listedTo ops.size j) a w
  | r + 1, j, a => (∀ b w, (j = k0 → b = false) → S b w → (∀ i ∈ availR R C m j, ((V x).getD i VAny).p (x i) w) →
      wpOp P ops NoWay j (fun a' w' => ∃ v, (∀ d, dstOf ops j = some d → a'.tmps[d]? = some v) ∧ a'.defers = a.defers ∧ ((V x).getD j VAny).p v w' ∧ StepR C Rel j w w') a w) ∧
    ObsK P ops Q k0 S R C Rel m V x r (j + 1) (a.put (dstOf ops j) (x j))
theorem obs_allK {k0 : Nat} {S : Bool → World → Prop} {R C : List (List Nat)} {Rel : World → World → Prop} {m : Nat} {V : (Nat → Value) → List VP} {x : Nat → Value} {a0 : Act} : ∀ (r j : Nat), ObsK P ops Q k0 S R C Rel m V x r j (putS ops x a0 j) →
    (∀ k, j ≤ k → k < j + r → ObK P ops k0 S R C Rel m V x a0 k) ∧ ∀ w b, S b w → (∀ i ∈ endR C m, ((V x).getD i VAny).p (x i) w) → wpAny P .any ops Q (ops.size - (j + r)) (listedTo ops.size (j + r)) (putS ops x a0 (j + r)) w := by
  intro r
  induction r with
  | zero => intro j h; exact ⟨fun k h1 h2 => by omega, h⟩
  | succ r ih =>
    intro j h
    obtain ⟨h1, h2⟩ := h
    have h2' : ObsK P ops Q k0 S R C Rel m V x r (j + 1) (putS ops x a0 (j + 1)) := h2
    obtain ⟨h3, h4⟩ := ih (j + 1) h2'
    refine ⟨fun k hk1 hk2 => ?_, by rw [show j + (r + 1) = j + 1 + r by omega]; exact h4⟩
    by_cases hk : k = j
    · subst hk
      intro b w hb0 hS hV
      have h := h1 b w hb0 hS hV
      rw [show (putS ops x a0 k).defers = a0.defers from (putD_size _ _ _ _).2] at h
      exact h
    · exact h3 k (by omega) (by omega)
theorem wp_obsK {id : Nat} (m : Nat) (Rel : World → World → Prop) (R C : List (List Nat)) (V : (Nat → Value) → List VP) (k0 : Nat) (S : Bool → World → Prop) {a0 : Act} {w : World} (hm : P.follows .mixedOrders = true) (hok : tasksOk ops m a0.tmps.size R = true)
    (hdep : ∀ x x' j, (∀ i ∈ R.getD j [], x i = x' i) → (V x).getD j VAny = (V x').getD j VAny) (hweak : ∀ i, i < m → (C.getD i []).isEmpty = false → ∀ k, k < m → k ≠ i → i ∉ R.getD k [] → k ∉ C.getD i [] → ∀ x v w w', ((V x).getD k VAny).p v w → Rel w w' → ((V x).getD k VAny).p v w') (hSt : ∀ j b w w', S b w → StepR C Rel j w w' → S (b || j == k0) w') (hS0 : S false w.drew) (h : ∀ x, ObsK P ops Q k0 S R C Rel m V x m 0 a0) : (Code.region id ops true).wp P Q a0 w :=
  wp_tasksK (m := m) (Rel := Rel) R C V k0 S hm hok hdep hweak hS0 hSt (fun x j hj => (obs_allK m 0 (h x)).1 j (by omega) (by omega)) (fun x w' b hS hV => by
    have := (obs_allK m 0 (h x)).2 w' b hS (hV)
    rwa [Nat.zero_add] at this)
theorem obs_stepK {k0 : Nat} {S : Bool → World → Prop} {R C : List (List Nat)} {Rel : World → World → Prop} {m : Nat} {V : (Nat → Value) → List VP} {x : Nat → Value} {r j : Nat} {a : Act} {o : Oper} {d : Tmp} (ho : ops[j]? = some o) (hd : o.dst = some d)
    (h : ∀ b w, (j = k0 → b = false) → S b w → (∀ i ∈ availR R C m j, ((V x).getD i VAny).p (x i) w) → ∀ K : Act → World → Prop, Shut (∀ a' w' v, a'.tmps[d]? = some v → a'.defers = a.defers → ((V x).getD j VAny).p v w' → StepR C Rel j w w' → K a' w') →
      if Region.wanted o (yielded ops a.tmps) = true then Oper.wp P o a w K NoWay else K (a.put o.dst undef) w)
    (hr : ObsK P ops Q k0 S R C Rel m V x r (j + 1) { a with tmps := a.tmps.setIfInBounds d (x j) }) : ObsK P ops Q k0 S R C Rel m V x (r + 1) j a := by
  have hdst : dstOf ops j = some d := by simp [dstOf, ho, hd]
  refine ⟨fun b w hb0 hS hV => wpOp_step ho (fun K hK => ?_), by rw [hdst]; exact hr⟩
  exact h b w hb0 hS hV K (fun a' w' v h1 h2 h3 h4 => hK a' w' ⟨v, fun d' hd' => by rw [hdst] at hd'; injection hd' with hd'; exact hd' ▸ h1, h2, h3, h4⟩)
end
end Go.Proofs.YticofgmmjecleaaGreatDoor
