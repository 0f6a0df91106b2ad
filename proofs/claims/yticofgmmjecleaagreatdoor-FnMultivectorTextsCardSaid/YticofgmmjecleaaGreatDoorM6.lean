/-
  LawFnMultivectorTexts: part 6 of the texts that the proof needs. No condition.
-/
import Derived.Test.YticofgmmjecleaaGreatDoorM5
namespace Go.Proofs.YticofgmmjecleaaGreatDoor
open Go Go.RowKit
theorem split_strings (s : By) : (Lib.splitB ⟨#[43]⟩ 0 (Lib.countB ⟨s.toArray⟩ ⟨#[43]⟩) ⟨s.toArray⟩).map Value.string = txts (splitP 43 s) := by
  have h := Lib.splitB_data ⟨#[43]⟩ 0 (Lib.countB ⟨s.toArray⟩ ⟨#[43]⟩) ⟨s.toArray⟩
  have e : Lib.splitK (ByteArray.mk #[43]).data.toList 0 (Lib.countB ⟨s.toArray⟩ ⟨#[43]⟩) (ByteArray.mk s.toArray).data.toList = splitP 43 s := split_eq 43 s
  rw [e] at h
  unfold txts
  rw [← h, List.map_map]
  rfl
theorem split_len (s : By) : Lib.countB ⟨s.toArray⟩ ⟨#[43]⟩ + 1 = (splitP 43 s).length := by
  have h := congrArg List.length (split_strings s)
  rw [List.length_map, Lib.splitB_all _ (by decide) _ _ _ rfl, txts_length] at h
  exact h
theorem repP_len (s : By) : (repP s).length ≤ 2 * s.length := by
  induction s with
  | nil => exact Nat.le_refl _
  | cons b r ih =>
    have e : repP (b :: r) = (if b = 45 then [43, 45] else [b]) ++ repP r := rfl
    rw [e, List.length_append, List.length_cons]
    split <;> simp only [List.length_cons, List.length_nil] <;> omega
theorem splitP_mem_len (c : UInt8) : ∀ (s : By) (u : By), u ∈ splitP c s → u.length ≤ s.length
  | [], u, h => by
    have : u = [] := by simpa [splitP] using h
    rw [this]; exact Nat.le_refl _
  | b :: r, u, h => by
    have ih := splitP_mem_len c r
    unfold splitP at h
    split at h
    · rcases List.mem_cons.1 h with e | h
      · rw [e]; exact Nat.zero_le _
      · have := ih u h; rw [List.length_cons]; omega
    · cases hs : splitP c r with
      | nil => exact absurd hs (splitP_ne c r)
      | cons v vs =>
        rw [hs] at h ih
        rcases List.mem_cons.1 h with e | h
        · have := ih v (List.mem_cons_self ..)
          rw [e, List.length_cons, List.length_cons]; omega
        · have := ih u (List.mem_cons_of_mem _ h); rw [List.length_cons]; omega
theorem cut_len (u : By) (c : UInt8) : (Lib.cut u [c]).1.length ≤ u.length ∧ (Lib.cut u [c]).2.1.length ≤ u.length := by
  unfold Lib.cut
  split
  · exact ⟨by show (List.take _ u).length ≤ _; rw [List.length_take]; omega, by show (List.drop _ u).length ≤ _; rw [List.length_drop]; omega⟩
  · exact ⟨Nat.le_refl _, Nat.zero_le _⟩
theorem foldl_step {α β : Type} (f : β → α → β) (b : β) (l : List α) (k : Nat) (hk : k < l.length) : (l.take (k + 1)).foldl f b = f ((l.take k).foldl f b) l[k] := by
  rw [List.take_add_one, List.getElem?_eq_getElem hk, List.foldl_append]; rfl
theorem markI_getD (o : Option Nat) : markI o = ((o.getD 0 : Nat) : Int) := by cases o <;> rfl
theorem parR_len (P : Int) (sq : List Int) (t : By) : (parR P sq t).1.length ≤ 1048576 := by
  unfold parR
  split
  · rename_i h
    obtain ⟨hP, hd1, hd2, hnum⟩ := isSp_dim h
    have hge := isP_ge hP
    split
    · have := (parI_mu (p := P) (n := sq.length) (by omega) t).1
      have h64 : pw sq.length ≤ 64 := pw_le hd2
      show (parI P sq.length t).length ≤ _
      omega
    · exact Nat.zero_le _
  · exact Nat.zero_le _
theorem mask_getD_lt (n : Nat) (t : By) : (maskOf n t).getD 0 < pw n := by
  cases h : maskOf n t with
  | none => exact pw_pos n
  | some m => have := maskF_lt h; show m < pw n; omega
set_option maxHeartbeats 3200000 in
set_option maxRecDepth 100000 in
theorem ParseMultivector_any (P : Int) (A : Option Addr) (n c : Nat) (sq : List Int) (t : By) (w : World) (hn : n ≤ 1048576) (ht : t.length ≤ 1000000000) (ha : Rd w A n (ints sq)) (he : Env w) :
    Calls Tryz.prog 29 #[.agg #[.int .i64 P, .slice A n c], .string ⟨t.toArray⟩] w fun e w' => ∃ (A' : Option Addr) (k c' : Nat), e = .returned (.tuple #[.slice A' k c', .int .i64 (parR P sq t).2]) ∧ MkI w w' A' k c' (parR P sq t).1 := by
  have hB0 : Below w.heap.size w (w.alloc (.cells #[.int .i64 P, .slice A n c] 28)) := (Below.refl _ _).alloc (Nat.le_refl _) _
  have k0 : Blk (w.alloc (.cells #[.int .i64 P, .slice A n c] 28)) w.heap.size 28 #[.int .i64 P, .slice A n c] := Blk.new _ _ _
  have his := IsSpace_any P A n c sq (w.alloc (.cells #[.int .i64 P, .slice A n c] 28)) (by omega) (ha.below hB0)
  cases hsp : isSp P sq
  · have hR : parR P sq t = ([], 1) := by unfold parR; rw [hsp]; rfl
    rw [hR]
    rw [hsp] at his
    clear hsp hR
    go_enter Tryz.func29, Tryz.ntmps29
    go_wp2_with fail
    refine his.mono ?_
    rintro e w1 ⟨rfl, hb1⟩
    go_wp2
    go_ret2
    exact ⟨_, _, _, rfl, Mk.nil (hB0.trans (hb1.mono hB0.size))⟩
  · obtain ⟨hP, hd1, hd2, hnum⟩ := isSp_dim hsp
    rw [hsp] at his
    have hln : sq.length = n := ha.lenI
    have hge := isP_ge hP
    obtain ⟨R, hR⟩ : ∃ R, R = parR P sq t := ⟨_, rfl⟩
    have HR : Hid (R = if textL P n (parI P n t) = t then (parI P n t, 0) else ([], 6)) := Lib.hid (by rw [hR]; unfold parR; rw [if_pos hsp, hln])
    rw [← hR]
    rw [hln] at hd1 hd2
    have HP := Lib.hid hP
    clear hR hsp hP hnum hln
    have hpw : pw n ≤ 64 := pw_le hd2
    obtain ⟨ts, hts⟩ : ∃ ts, ts = splitP 43 (repP t) := ⟨_, rfl⟩
    have hrl := repP_len t
    have hul : ∀ u ∈ ts, u.length ≤ 2000000000 := fun u hu => by rw [hts] at hu; have := splitP_mem_len 43 _ u hu; omega
    have HTS := Lib.hid hts
    have HUL := Lib.hid hul
    clear hul
    have hsplit := fun wx (hx : Below w.heap.size w wx) => Split_any (repP t) [43] wx (by omega) (Nat.le_refl _) (he.below hx (Nat.le_refl _))
    have hrep := fun wx (hx : Below w.heap.size w wx) => ReplaceAll_any t [45] [43, 45] wx (by omega) rfl (by decide) (he.below hx (Nat.le_refl _))
    rw [rep_eq] at hrep
    have es : (Lib.splitB ⟨[43].toArray⟩ 0 (Lib.countB ⟨(repP t).toArray⟩ ⟨[43].toArray⟩) ⟨(repP t).toArray⟩).map Value.string = txts ts := by rw [hts]; exact split_strings (repP t)
    have el : Lib.countB ⟨(repP t).toArray⟩ ⟨[43].toArray⟩ + 1 = ts.length := by rw [hts]; exact split_len (repP t)
    rw [es, el] at hsplit
    have hN : ts.length ≤ 2000000001 := by rw [← el]; have := Lib.countB_le ⟨[43].toArray⟩ (by decide) (ByteArray.mk (repP t).toArray).size ⟨(repP t).toArray⟩ (Nat.le_refl _); rw [bs_len] at this; omega
    obtain ⟨rt, hrt⟩ : ∃ r, r = repP t := ⟨_, rfl⟩
    rw [← hrt] at hsplit hrep
    have HSP := Lib.hid hsplit
    have HRE := Lib.hid hrep
    clear hts hrl es el hrt hsplit hrep
    go_enter Tryz.func29, Tryz.ntmps29
    go_wp2_with fail
    refine his.mono ?_
    rintro e w1 ⟨rfl, hb1⟩
    have hB1 := hB0.trans (hb1.mono hB0.size)
    have k1 := k0.below hb1 k0.lt
    clear his hb1 k0 hB0
    obtain ⟨q0, q1⟩ := k1.two
    go_wp2_with fail
    refine (nothing_any P A n c w1 (by omega)).mono ?_
    rintro e w2 ⟨A2, c2, rfl, hM2⟩
    have k2 := k1.below hM2.b k1.lt
    have hpos := pw_pos n
    have hw1 : w.heap.size < w1.heap.size := k1.lt
    rcases hM2.2.form with ⟨_, h0⟩ | ⟨g, rfl, hg0, hgl⟩
    · omega
    have hg : w.heap.size < g := Nat.lt_of_lt_of_le hw1 hg0
    have m2 := hM2.after hB1
    have hB2 := m2.b
    clear hM2 k1 q0 q1 hg0 hw1
    go_wp2_with fail
    refine (HRE.out w2 hB2).mono ?_
    rintro e w3 ⟨rfl, hb3⟩
    have k3 := k2.below hb3 k2.lt
    have m3 := m2.below hb3
    have hgl3 : g < w3.heap.size := Nat.lt_of_lt_of_le hgl hb3.size
    have hsp3 := HSP.out w3 m3.b
    clear hb3 k2 m2 hB2 hgl HRE HSP
    go_wp2_with fail
    refine hsp3.mono ?_
    rintro e w4 ⟨rfl, hw4⟩
    have hb4 : Below w3.heap.size w3 w4 := by rw [hw4]; exact (Below.refl _ _).alloc (Nat.le_refl _) _
    have s4 : Blk w4 w3.heap.size 9 (txts ts).toArray := by rw [hw4]; exact Blk.new _ _ _
    have k4 := k3.below hb4 k3.lt
    have m4 := m3.below hb4
    obtain ⟨sb, hsb⟩ : ∃ sb, sb = w3.heap.size := ⟨_, rfl⟩
    rw [← hsb] at s4 hgl3 ⊢
    have hsg : sb ≠ g := Nat.ne_of_gt hgl3
    clear hw4 hb4 hsp3 k3 m3 hgl3 hsb
    obtain ⟨z0, hz0⟩ : ∃ z, z = List.replicate (pw n) (0 : Int) := ⟨_, rfl⟩
    rw [← hz0] at m4
    have HZ0 := Lib.hid hz0
    clear hz0
    go_wp2
    go_loopw [24] (fun iv wr => ∃ (k : Nat) (xs : List Int), k ≤ ts.length ∧ iv = .int .i64 (k : Int) ∧ Hid ((ts.take k).foldl (stepI P n) z0 = xs) ∧ Blk wr w.heap.size 28 #[.int .i64 P, .slice A n c] ∧ Blk wr sb 9 (txts ts).toArray ∧ MkI w wr (some ⟨g, 0, none⟩) (pw n) c2 xs) (fun iv _ => ts.length - (intOf iv).toNat)
    case atStart => exact ⟨0, z0, Nat.zero_le _, rfl, Lib.hid rfl, k4, s4, m4⟩
    case round =>
      clear k4 s4 m4
      obtain ⟨k, xs, hk, rfl, HF, k4, s4, m4⟩ := hrel
      obtain ⟨q0, q1⟩ := k4.two
      by_cases hk2 : k < ts.length
      · obtain ⟨u, hu⟩ : ∃ u, u = ts[k] := ⟨_, rfl⟩
        have HU := Lib.hid hu
        have hcu : wr.cell? ⟨sb, k, none⟩ = some (.string ⟨u.toArray⟩) := by
          rw [s4.cell, List.getElem?_toArray, txts_get ts k hk2, hu]
        have hul := HUL.out u (by rw [hu]; exact List.getElem_mem hk2)
        have hcut := Cut_any u [101] wr (by omega) (he.below m4.b (Nat.le_refl _))
        obtain ⟨h1, h2⟩ := cut_len u 101
        obtain ⟨a, ha1⟩ : ∃ a, a = (Lib.cut u [101]).1 := ⟨_, rfl⟩
        obtain ⟨b, hb1⟩ : ∃ b, b = (Lib.cut u [101]).2.1 := ⟨_, rfl⟩
        obtain ⟨f, hf1⟩ : ∃ f, f = (Lib.cut u [101]).2.2 := ⟨_, rfl⟩
        have hst : ∀ x, stepI P n x u = match parN P (if f = true ∧ (a = [] ∨ a = [45]) then a ++ [49] else a) with
          | some v => x.set (if f = true then (maskOf n (101 :: b)).getD 0 else 0) v
          | none => x := fun x => by rw [ha1, hb1, hf1]; rfl
        rw [← ha1, ← hb1, ← hf1] at hcut
        rw [← ha1] at h1
        rw [← hb1] at h2
        have HS := Lib.hid hst
        have h3 : a.length ≤ 2000000000 := by omega
        have h4 : b.length ≤ 2000000000 := by omega
        clear ha1 hb1 hf1 hu hul h1 h2 hst
        go_wp2_with fail
        refine hcut.mono ?_
        rintro e w5 ⟨rfl, hb5⟩
        have k5 := k4.below hb5 k4.lt
        have s5 := s4.below hb5 s4.lt
        have m5 := m4.below hb5
        clear hcut hb5 k4 s4 m4 q0 q1 hcu
        cases f
        · have HST : Hid (∀ x, stepI P n x u = match parN P a with
            | some v => x.set 0 v
            | none => x) := Lib.hid (fun x => by rw [HS.out x]; simp)
          have hml : 0 < pw n := pw_pos n
          obtain ⟨w4, hw4⟩ : ∃ w, w = w5 := ⟨_, rfl⟩
          rw [← hw4] at k5 s5 m5 ⊢
          have k4 := k5
          have s4 := s5
          have m4 := m5
          clear hw4 k5 s5 m5 h4
          obtain ⟨q0, q1⟩ := k4.two
          go_wp2_with fail
          refine (field_any P A n c w4).mono ?_
          rintro e w5 ⟨rfl, hb5⟩
          have k5 := k4.below hb5 k4.lt
          have s5 := s4.below hb5 s4.lt
          have m5 := m4.below hb5
          have hB5 : Below w.heap.size w w5 := m5.b
          clear q0 q1 hb5 k4 s4 m4
          cases hpn : parN P a with
          | none =>
            have hparse := parse_any P a w5 (by omega) (by omega) (he.below hB5 (Nat.le_refl _))
            rw [hpn] at hparse
            have HF2 : Hid ((ts.take (k + 1)).foldl (stepI P n) z0 = xs) := Lib.hid (by rw [foldl_step _ _ _ _ hk2, ← HU.out, HF.out, HST.out, hpn])
            clear hpn
            go_wp2_with fail
            refine hparse.mono ?_
            rintro e w6 ⟨rfl, hb6⟩
            have k6 := k5.below hb6 k5.lt
            have s6 := s5.below hb6 s5.lt
            have m6 := m5.below hb6
            clear hparse hb6 k5 s5 m5
            go_wp2
            go_roundw
            case rel =>
              go_light
              exact ⟨k + 1, xs, by omega, by go_num, HF2, k6, s6, m6⟩
            case measure =>
              go_light
              simp [intOf]; omega
          | some v =>
            have hparse := parse_any P a w5 (by omega) (by omega) (he.below hB5 (Nat.le_refl _))
            rw [hpn] at hparse
            have HF2 : Hid ((ts.take (k + 1)).foldl (stepI P n) z0 = xs.set 0 v) := Lib.hid (by rw [foldl_step _ _ _ _ hk2, ← HU.out, HF.out, HST.out, hpn])
            clear hpn
            go_wp2_with fail
            refine hparse.mono ?_
            rintro e w6 ⟨rfl, hb6⟩
            have k6 := k5.below hb6 k5.lt
            have s6 := s5.below hb6 s5.lt
            have m6 := m5.below hb6
            clear hparse hb6 k5 s5 m5
            obtain ⟨hoc, hof⟩ := mkI_at m6 hml
            have m7 := (m6.set 0 (.int .i64 v)).1
            rw [ints_set] at m7
            have k7 := k6.far (p := ⟨g, 0, none⟩) (Nat.ne_of_lt hg) (.int .i64 v)
            have s7 := s6.far (p := ⟨g, 0, none⟩) hsg (.int .i64 v)
            have M7 := Lib.hid m7
            have K7 := Lib.hid k7
            have S7 := Lib.hid s7
            clear m7 k7 s7 m6 k6 s6
            go_wp2
            go_roundw
            case rel =>
              go_light
              exact ⟨k + 1, xs.set 0 v, by omega, by go_num, HF2, K7.out, S7.out, M7.out⟩
            case measure =>
              go_light
              simp [intOf]; omega
        · obtain ⟨e1, he1⟩ : ∃ e1, e1 = [101] ++ b := ⟨_, rfl⟩
          have hc1 := fun wx => cat_big (P := Tryz.prog) wx [101] b (by simp only [List.length_cons, List.length_nil]; omega)
          obtain ⟨mk, hmk⟩ : ∃ mk, mk = (maskOf n e1).getD 0 := ⟨_, rfl⟩
          have hml : mk < pw n := by rw [hmk]; exact mask_getD_lt n e1
          have hs1 : ∀ x, stepI P n x u = match parN P (if a = [] ∨ a = [45] then a ++ [49] else a) with
            | some v => x.set mk v
            | none => x := fun x => by rw [HS.out x, hmk, he1]; simp
          have HS1 := Lib.hid hs1
          have hnam := fun wx => named_any P A n c e1 wx hd2
          rw [markI_getD, ← hmk] at hnam
          rw [← he1] at hc1
          clear hmk he1 hs1 h4
          obtain ⟨q0, q1⟩ := k5.two
          go_wp2_with fail
          refine (hnam w5).mono ?_
          rintro e w6 ⟨rfl, hb6⟩
          obtain ⟨w4, hw4⟩ : ∃ w, w = w6 := ⟨_, rfl⟩
          rw [← hw4] at hb6 ⊢
          have k4 := k5.below hb6 k5.lt
          have s4 := s5.below hb6 s5.lt
          have m4 := m5.below hb6
          clear hw4 hnam hc1 hb6 k5 s5 m5 q0 q1
          by_cases a1 : a = []
          · subst a1
            have HST : Hid (∀ x, stepI P n x u = match parN P [49] with
              | some v => x.set mk v
              | none => x) := Lib.hid (fun x => by rw [HS1.out x]; simp)
            obtain ⟨q0, q1⟩ := k4.two
            go_wp2_with fail
            refine (field_any P A n c w4).mono ?_
            rintro e w5 ⟨rfl, hb5⟩
            have k5 := k4.below hb5 k4.lt
            have s5 := s4.below hb5 s4.lt
            have m5 := m4.below hb5
            have hB5 : Below w.heap.size w w5 := m5.b
            clear q0 q1 hb5 k4 s4 m4
            cases hpn : parN P [49] with
            | none =>
              have hparse := parse_any P [49] w5 (by omega) (by omega) (he.below hB5 (Nat.le_refl _))
              rw [hpn] at hparse
              have HF2 : Hid ((ts.take (k + 1)).foldl (stepI P n) z0 = xs) := Lib.hid (by rw [foldl_step _ _ _ _ hk2, ← HU.out, HF.out, HST.out, hpn])
              clear hpn
              go_wp2_with fail
              refine hparse.mono ?_
              rintro e w6 ⟨rfl, hb6⟩
              have k6 := k5.below hb6 k5.lt
              have s6 := s5.below hb6 s5.lt
              have m6 := m5.below hb6
              clear hparse hb6 k5 s5 m5
              go_wp2
              go_roundw
              case rel =>
                go_light
                exact ⟨k + 1, xs, by omega, by go_num, HF2, k6, s6, m6⟩
              case measure =>
                go_light
                simp [intOf]; omega
            | some v =>
              have hparse := parse_any P [49] w5 (by omega) (by omega) (he.below hB5 (Nat.le_refl _))
              rw [hpn] at hparse
              have HF2 : Hid ((ts.take (k + 1)).foldl (stepI P n) z0 = xs.set mk v) := Lib.hid (by rw [foldl_step _ _ _ _ hk2, ← HU.out, HF.out, HST.out, hpn])
              clear hpn
              go_wp2_with fail
              refine hparse.mono ?_
              rintro e w6 ⟨rfl, hb6⟩
              have k6 := k5.below hb6 k5.lt
              have s6 := s5.below hb6 s5.lt
              have m6 := m5.below hb6
              clear hparse hb6 k5 s5 m5
              obtain ⟨hoc, hof⟩ := mkI_at m6 hml
              have m7 := (m6.set mk (.int .i64 v)).1
              rw [ints_set] at m7
              have k7 := k6.far (p := ⟨g, mk, none⟩) (Nat.ne_of_lt hg) (.int .i64 v)
              have s7 := s6.far (p := ⟨g, mk, none⟩) hsg (.int .i64 v)
              have M7 := Lib.hid m7
              have K7 := Lib.hid k7
              have S7 := Lib.hid s7
              clear m7 k7 s7 m6 k6 s6
              go_wp2
              go_roundw
              case rel =>
                go_light
                exact ⟨k + 1, xs.set mk v, by omega, by go_num, HF2, K7.out, S7.out, M7.out⟩
              case measure =>
                go_light
                simp [intOf]; omega
          by_cases a2 : a = [45]
          · subst a2
            have HST : Hid (∀ x, stepI P n x u = match parN P [45, 49] with
              | some v => x.set mk v
              | none => x) := Lib.hid (fun x => by rw [HS1.out x]; simp)
            obtain ⟨q0, q1⟩ := k4.two
            go_wp2_with fail
            refine (field_any P A n c w4).mono ?_
            rintro e w5 ⟨rfl, hb5⟩
            have k5 := k4.below hb5 k4.lt
            have s5 := s4.below hb5 s4.lt
            have m5 := m4.below hb5
            have hB5 : Below w.heap.size w w5 := m5.b
            clear q0 q1 hb5 k4 s4 m4
            cases hpn : parN P [45, 49] with
            | none =>
              have hparse := parse_any P [45, 49] w5 (by omega) (by omega) (he.below hB5 (Nat.le_refl _))
              rw [hpn] at hparse
              have HF2 : Hid ((ts.take (k + 1)).foldl (stepI P n) z0 = xs) := Lib.hid (by rw [foldl_step _ _ _ _ hk2, ← HU.out, HF.out, HST.out, hpn])
              clear hpn
              go_wp2_with fail
              refine hparse.mono ?_
              rintro e w6 ⟨rfl, hb6⟩
              have k6 := k5.below hb6 k5.lt
              have s6 := s5.below hb6 s5.lt
              have m6 := m5.below hb6
              clear hparse hb6 k5 s5 m5
              go_wp2
              go_roundw
              case rel =>
                go_light
                exact ⟨k + 1, xs, by omega, by go_num, HF2, k6, s6, m6⟩
              case measure =>
                go_light
                simp [intOf]; omega
            | some v =>
              have hparse := parse_any P [45, 49] w5 (by omega) (by omega) (he.below hB5 (Nat.le_refl _))
              rw [hpn] at hparse
              have HF2 : Hid ((ts.take (k + 1)).foldl (stepI P n) z0 = xs.set mk v) := Lib.hid (by rw [foldl_step _ _ _ _ hk2, ← HU.out, HF.out, HST.out, hpn])
              clear hpn
              go_wp2_with fail
              refine hparse.mono ?_
              rintro e w6 ⟨rfl, hb6⟩
              have k6 := k5.below hb6 k5.lt
              have s6 := s5.below hb6 s5.lt
              have m6 := m5.below hb6
              clear hparse hb6 k5 s5 m5
              obtain ⟨hoc, hof⟩ := mkI_at m6 hml
              have m7 := (m6.set mk (.int .i64 v)).1
              rw [ints_set] at m7
              have k7 := k6.far (p := ⟨g, mk, none⟩) (Nat.ne_of_lt hg) (.int .i64 v)
              have s7 := s6.far (p := ⟨g, mk, none⟩) hsg (.int .i64 v)
              have M7 := Lib.hid m7
              have K7 := Lib.hid k7
              have S7 := Lib.hid s7
              clear m7 k7 s7 m6 k6 s6
              go_wp2
              go_roundw
              case rel =>
                go_light
                exact ⟨k + 1, xs.set mk v, by omega, by go_num, HF2, K7.out, S7.out, M7.out⟩
              case measure =>
                go_light
                simp [intOf]; omega
          have HST : Hid (∀ x, stepI P n x u = match parN P a with
            | some v => x.set mk v
            | none => x) := Lib.hid (fun x => by rw [HS1.out x, if_neg (by simp [a1, a2])])
          have d1 : (a == []) = false := by simpa using a1
          have d2 : (a == [45]) = false := by simpa using a2
          clear a1 a2
          obtain ⟨q0, q1⟩ := k4.two
          go_wp2_with fail
          refine (field_any P A n c w4).mono ?_
          rintro e w5 ⟨rfl, hb5⟩
          have k5 := k4.below hb5 k4.lt
          have s5 := s4.below hb5 s4.lt
          have m5 := m4.below hb5
          have hB5 : Below w.heap.size w w5 := m5.b
          clear q0 q1 hb5 k4 s4 m4
          cases hpn : parN P a with
          | none =>
            have hparse := parse_any P a w5 (by omega) (by omega) (he.below hB5 (Nat.le_refl _))
            rw [hpn] at hparse
            have HF2 : Hid ((ts.take (k + 1)).foldl (stepI P n) z0 = xs) := Lib.hid (by rw [foldl_step _ _ _ _ hk2, ← HU.out, HF.out, HST.out, hpn])
            clear hpn
            go_wp2_with fail
            refine hparse.mono ?_
            rintro e w6 ⟨rfl, hb6⟩
            have k6 := k5.below hb6 k5.lt
            have s6 := s5.below hb6 s5.lt
            have m6 := m5.below hb6
            clear hparse hb6 k5 s5 m5
            go_wp2
            go_roundw
            case rel =>
              go_light
              exact ⟨k + 1, xs, by omega, by go_num, HF2, k6, s6, m6⟩
            case measure =>
              go_light
              simp [intOf]; omega
          | some v =>
            have hparse := parse_any P a w5 (by omega) (by omega) (he.below hB5 (Nat.le_refl _))
            rw [hpn] at hparse
            have HF2 : Hid ((ts.take (k + 1)).foldl (stepI P n) z0 = xs.set mk v) := Lib.hid (by rw [foldl_step _ _ _ _ hk2, ← HU.out, HF.out, HST.out, hpn])
            clear hpn
            go_wp2_with fail
            refine hparse.mono ?_
            rintro e w6 ⟨rfl, hb6⟩
            have k6 := k5.below hb6 k5.lt
            have s6 := s5.below hb6 s5.lt
            have m6 := m5.below hb6
            clear hparse hb6 k5 s5 m5
            obtain ⟨hoc, hof⟩ := mkI_at m6 hml
            have m7 := (m6.set mk (.int .i64 v)).1
            rw [ints_set] at m7
            have k7 := k6.far (p := ⟨g, mk, none⟩) (Nat.ne_of_lt hg) (.int .i64 v)
            have s7 := s6.far (p := ⟨g, mk, none⟩) hsg (.int .i64 v)
            have M7 := Lib.hid m7
            have K7 := Lib.hid k7
            have S7 := Lib.hid s7
            clear m7 k7 s7 m6 k6 s6
            go_wp2
            go_roundw
            case rel =>
              go_light
              exact ⟨k + 1, xs.set mk v, by omega, by go_num, HF2, K7.out, S7.out, M7.out⟩
            case measure =>
              go_light
              simp [intOf]; omega
      · obtain rfl : k = ts.length := by omega
        have hxs : xs = parI P n t := by rw [← HF.out, List.take_length, HZ0.out, HTS.out]; rfl
        have hmu := parI_mu (p := P) (n := n) (by omega) t
        rw [← hxs] at hmu
        have hmt := multiText_any P A (some ⟨g, 0, none⟩) n c c2 xs wr HP.out hd2 hmu.2 hmu.1 m4.rd (he.below m4.b (Nat.le_refl _))
        have hr2 := HR.out
        rw [← hxs] at hr2
        clear hxs HF hmu
        obtain ⟨z, hz⟩ : ∃ z, z = textL P n xs := ⟨_, rfl⟩
        rw [← hz] at hmt hr2
        clear hz
        by_cases hzt : z = t
        · subst hzt
          rw [if_pos rfl] at hr2
          have HR2 := Lib.hid hr2
          clear hr2
          go_wp2_with fail
          refine hmt.mono ?_
          rintro e w5 ⟨rfl, hb5⟩
          have m5 := m4.below hb5
          clear hmt hb5 k4 s4 m4 q0 q1
          go_wp2
          go_ret2
          rw [HR2.out]
          exact ⟨_, _, _, rfl, m5⟩
        · rw [if_neg hzt] at hr2
          have hne : (z == t) = false := by simpa using hzt
          have HR2 := Lib.hid hr2
          clear hr2 hzt
          go_wp2_with fail
          refine hmt.mono ?_
          rintro e w5 ⟨rfl, hb5⟩
          have m5 := m4.below hb5
          clear hmt hb5 k4 s4 m4 q0 q1
          go_wp2
          go_ret2
          rw [HR2.out]
          exact ⟨_, _, _, rfl, Mk.nil m5.b⟩
end Go.Proofs.YticofgmmjecleaaGreatDoor
namespace Go.Proofs.YticofgmmjecleaaGreatDoor
open Go Go.RowKit
theorem textTo_le {p : Int} (hP : isP p = true) {n : Nat} (hn : n ≤ 6) {y : List Int} (hy : NumsL p y) : ∀ k, k ≤ y.length → (textTo p n y k).length ≤ 20 * k
  | 0, _ => Nat.le_refl _
  | k + 1, hk => by
    have ih := textTo_le hP hn hy k (by omega)
    obtain ⟨a0, a1⟩ := hy y[k] (List.getElem_mem (by omega))
    by_cases h : y[k] = 0
    · rw [textTo_step0 (by omega) h]; omega
    · rw [textTo_step1 (by omega) h]
      have ht := termL_le hP (m := k) a0 a1 hn
      unfold stepO
      rw [List.length_append, List.length_append]
      split <;> simp only [List.length_cons, List.length_nil] <;> omega
theorem textL_le {p : Int} (hP : isP p = true) {n : Nat} (hn : n ≤ 6) {y : List Int} (hl : y.length = pw n) (hy : NumsL p y) : (textL p n y).length ≤ 1281 := by
  have h := textTo_le hP hn hy y.length (Nat.le_refl _)
  have h64 : pw n ≤ 64 := pw_le hn
  unfold textL
  split
  · simp
  · omega
theorem Lng.nextq {q : Int} {M : Int → Nat} (hM : ∀ h, M h ≤ 144115188075855872) (hM2 : ∀ h h', (eqM h' (itI 2 h) ∨ eqM h' (itI 4 h)) → xI (gI h) % q = 0 → M h' < M h) {nb pl pl1 pl2 : Nat} {h h1 h2 : Int} {l l' : Nat} (x : Lng M nb pl h l) (hl : l' ≤ l + 2) (hn : nb ≤ 4096) (hp1 : pl1 = (if pl < nb then pl + 1 else pl)) (hp2 : pl1 ≤ pl2) (hp3 : pl2 ≤ nb)
    (e1 : eqM h1 (gI h)) (e2 : eqM h2 (gI h1) ∨ eqM h2 (itI 3 h1)) (hr : pl = nb → 0 = xI (gI h) % q) :
    Lng M nb pl2 h2 l' ∧ (nb - pl2) * 288230376151711744 + M h2 < (nb - pl) * 288230376151711744 + M h := by
  have m2 := hM h2
  rcases x with ⟨hlt, hb⟩ | ⟨he, hb⟩
  · rw [if_pos hlt] at hp1
    refine ⟨?_, by omega⟩
    by_cases hq : pl2 < nb
    · exact .inl ⟨hq, by omega⟩
    · exact .inr ⟨by omega, by omega⟩
  · rw [if_neg (by omega)] at hp1
    have e3 : eqM h2 (itI 2 h) ∨ eqM h2 (itI 4 h) := e2.elim (fun e => .inl (eqM_trans e (eqM_step e1))) (fun e => .inr (eqM_trans e (it_mod 3 e1)))
    have m3 := hM2 h h2 e3 (hr he).symm
    exact ⟨.inr ⟨by omega, by omega⟩, by omega⟩
/-- How long a text may have become, where what ends the damages is rarer. -/
def Lng3 (M3 : Int → Nat) (nb pl : Nat) (h : Int) (l : Nat) : Prop := (pl < nb ∧ l ≤ 1300 + 2 * pl) ∨ (pl = nb ∧ l + 2 * M3 h ≤ 536890000)
theorem Lng3.big {M3 : Int → Nat} {nb pl : Nat} {h : Int} {l : Nat} (x : Lng3 M3 nb pl h l) (hn : nb ≤ 4096) : l ≤ 536890000 := by
  rcases x with ⟨h1, h2⟩ | ⟨h1, h2⟩ <;> omega
theorem Lng3.next {M M3 : Int → Nat} (hM : ∀ h, M h ≤ 144115188075855872) (hM2 : ∀ h h', (eqM h' (itI 2 h) ∨ eqM h' (itI 4 h)) → xI (gI h) % 3 = 0 → M h' < M h)
    (hN : ∀ h, M3 h ≤ 268435456) (hN2 : ∀ h h', eqM h' (itI 4 h) → xI (gI h) % 3 = 0 → M3 h' + 1 = M3 h) {nb pl pl1 pl2 : Nat} {h h1 h2 : Int} {l l' : Nat} (x : Lng3 M3 nb pl h l) (hl : l' ≤ l + 2) (hn : nb ≤ 4096) (hp1 : pl1 = (if pl < nb then pl + 1 else pl)) (hp2 : pl1 ≤ pl2) (hp3 : pl2 ≤ nb)
    (e1 : eqM h1 (gI h)) (e2 : (l = 0 ∧ eqM h2 (gI h1)) ∨ eqM h2 (itI 3 h1)) (hr : pl = nb → 0 = xI (gI h) % 3) :
    Lng3 M3 nb pl2 h2 l' ∧ (nb - pl2) * 288230376151711744 + M h2 < (nb - pl) * 288230376151711744 + M h := by
  have m2 := hM h2
  have n2 := hN h2
  rcases x with ⟨hlt, hb⟩ | ⟨he, hb⟩
  · rw [if_pos hlt] at hp1
    refine ⟨?_, by omega⟩
    by_cases hq : pl2 < nb
    · exact .inl ⟨hq, by omega⟩
    · exact .inr ⟨by omega, by omega⟩
  · rw [if_neg (by omega)] at hp1
    have e3 : eqM h2 (itI 2 h) ∨ eqM h2 (itI 4 h) := e2.elim (fun e => .inl (eqM_trans e.2 (eqM_step e1))) (fun e => .inr (eqM_trans e (it_mod 3 e1)))
    have m3 := hM2 h h2 e3 (hr he).symm
    refine ⟨.inr ⟨by omega, ?_⟩, by omega⟩
    rcases e2 with ⟨e0, -⟩ | e
    · omega
    · have := hN2 h h2 (eqM_trans e (it_mod 3 e1)) (hr he).symm
      omega
/-- A text of at most L bytes. -/
def VTn (L : Nat) : VP := ⟨fun v _ => ∃ t : By, v = .string ⟨t.toArray⟩ ∧ t.length ≤ L, fun _ _ _ h _ => h⟩
def DrewN (w : World) (e : Ending) (w' : World) : Prop := ∃ (P : Int) (A : Option Addr) (n c : Nat) (sq : List Int) (t : By), e = .returned (.tuple #[.agg #[.int .i64 P, .slice A n c], .string ⟨t.toArray⟩]) ∧ P ≤ 17 ∧ n ≤ 7 ∧ t.length ≤ 1000000000 ∧ Own w' w.heap.size 2 A n c (ints sq) ∧ Below w.heap.size w w'
set_option maxHeartbeats 6400000 in
set_option maxRecDepth 8000 in
theorem DrawParseMultivector_any (B : Option Addr) (nb cb : Nat) (bs : List Int) (w : World) (hnb : nb ≤ 4096) (r : Rd w B nb (bs.map (Value.int .u8))) (hbs : ∀ b ∈ bs, 0 ≤ b ∧ b < 256) (hbg : ∀ a, B = some a → a.block < w.heap.size) :
    Calls Tryz.prog 32 #[.slice B nb cb] w (DrewN w) := by
  have hB0 : Below w.heap.size w (w.alloc (.cells #[.int .i64 0, .slice none 0 0] 28)) := (Below.refl _ _).alloc (Nat.le_refl _) _
  have k0 : Blk (w.alloc (.cells #[.int .i64 0, .slice none 0 0] 28)) w.heap.size 28 #[.int .i64 0, .slice none 0 0] := Blk.new _ _ _
  have hfr := from__any B nb cb bs (w.alloc (.cells #[.int .i64 0, .slice none 0 0] 28)) hnb (r.below hB0) hbs (fun a e => by have := hbg a e; simp; omega)
  go_enter Tryz.func32, Tryz.ntmps32
  go_wp2_with fail
  refine hfr.mono ?_
  rintro e w2 ⟨g, rfl, hg, hs2, hb2⟩
  have k2 := k0.below hb2 k0.lt
  have hB2 := hB0.trans (hb2.mono hB0.size)
  have hw := hB2.size
  have hgw : w.heap.size ≤ g := Nat.le_trans hB0.size hg
  have hsp := l03Spoil_any g w2 hs2
  clear hfr hb2 k0 hB0 hg
  go_wp2_with fail
  refine hsp.mono ?_
  rintro e w3 ⟨P, A, n, c, sq, rfl, hP, hn, hO, hd3⟩
  have d4 := hd3.alloc (.cells #[.int .i64 P, .slice A n c] 28)
  have k4 := (k2.dr hd3 (by decide)).alloc (.cells #[.int .i64 P, .slice A n c] 28)
  have kb4 : Blk (w3.alloc (.cells #[.int .i64 P, .slice A n c] 28)) w3.heap.size 28 #[.int .i64 P, .slice A n c] := Blk.new _ _ _
  have o4 := (hO.base (B' := w.heap.size) hw).below ((Below.refl _ _).alloc (Nat.le_refl _) (.cells #[.int .i64 P, .slice A n c] 28))
  clear hsp k2 hO hd3
  have his := fun b (hb : isSp P sq = b) => l03Is_b P A n c sq (w3.alloc (.cells #[.int .i64 P, .slice A n c] 28)) (by omega) o4.rd hb
  cases hsp : isSp P sq
  · have his0 := his false hsp
    have HD4 := Lib.hid d4
    clear his hsp d4
    obtain ⟨q0, q1⟩ := kb4.two
    go_wp2_with fail
    refine his0.mono ?_
    rintro e w5 ⟨rfl, hb5⟩
    have k5 := k4.below hb5 k4.lt
    have kb5 := kb4.below hb5 kb4.lt
    have o5 := o4.below hb5
    have d5 := HD4.out.then hb5
    clear his0 hb5 k4 kb4 o4 q0 q1 HD4
    obtain ⟨q0, q1⟩ := kb5.two
    obtain ⟨p0, p1⟩ := k5.two
    have f0 := k5.frozen 0
    have f1 := k5.frozen 1
    have hf : ∀ {m d : Nat} {A2 : Option Addr} {xs : List Int}, Own w5 w.heap.size 2 A2 m d (ints xs) → Own ((w5.setCell ⟨w.heap.size, 0, none⟩ (.int .i64 P)).setCell ⟨w.heap.size, 1, none⟩ (.slice A n c)) w.heap.size 2 A2 m d (ints xs) := by
      intro m c' A' xs ho
      exact (ho.far k5 (by decide) 0 _).far (k5.set_ 0 (.int .i64 P)) (by decide) 1 _
    have HO6 := Lib.hid (hf o5)
    have HB6 := Lib.hid (hB2.trans (((d5.b.mono hgw).setCell (p := ⟨w.heap.size, 0, none⟩) (Nat.le_refl _) (.int .i64 P)).setCell (p := ⟨w.heap.size, 1, none⟩) (Nat.le_refl _) (.slice A n c)))
    clear hf o5 d5
    go_wp2
    exact bodyPost_ret (v := .tuple #[.agg #[.int .i64 P, .slice A n c], .string ⟨#[49]⟩]) (by simp [results, Tryz.results32, go_sem, p0, p1]) rfl ⟨P, A, n, c, sq, _, rfl, hP, hn, (by decide), HO6.out, HB6.out⟩
  have his0 := his true hsp
  obtain ⟨hPP, hn1, hn6, hnum⟩ := isSp_dim hsp
  have hln : sq.length = n := o4.rd.lenI
  rw [hln] at hn1 hn6
  have hge := isP_ge hPP
  have HPP := Lib.hid hPP
  have HNU := Lib.hid (nums_numsL hnum)
  have hpw : pw n ≤ 64 := pw_le hn6
  have hpos := pw_pos n
  have HD4 := Lib.hid d4
  clear his hsp hPP hnum hln d4
  obtain ⟨q0, q1⟩ := kb4.two
  go_wp2_with fail
  refine his0.mono ?_
  rintro e w5 ⟨rfl, hb5⟩
  have k5 := k4.below hb5 k4.lt
  have kb5 := kb4.below hb5 kb4.lt
  have o5 := o4.below hb5
  have d5 := HD4.out.then hb5
  clear his0 hb5 k4 kb4 o4 q0 q1 HD4
  obtain ⟨q0, q1⟩ := kb5.two
  go_wp2
  refine wp_obsR 6 (Dr g 121) [[], [], [], [1, 2], [0, 1, 2, 3], [0, 1, 2, 3, 4]] [[], [], [], [99], [], []] (fun x => [VIs (.agg #[.int .i64 P, .slice A n c]), VIs (.pointer (some ⟨g, 0, none⟩)), VIs (.agg #[.int .i64 P, .slice A n c]), VLs w.heap.size (pw n) P, VTn 1281, VTn 1281]) (fun w' => Blk w' w.heap.size 28 #[.int .i64 0, .slice none 0 0] ∧ Blk w' w3.heap.size 28 #[.int .i64 P, .slice A n c] ∧ Own w' w.heap.size 2 A n c (ints sq) ∧ Dr g 121 w2 w') (by kernel_rfl) (by kernel_rfl) (fun x x' j hx => by
      rcases j with _ | _ | _ | _ | _ | _ | j
      · rfl
      · rfl
      · rfl
      · rfl
      · rfl
      · rfl
      · rfl)
    (weak_ofR [0, 1, 2, 3] (by decide) (fun k hk x v w w' hp hr => by
      simp only [List.mem_cons, List.not_mem_nil, or_false] at hk
      rcases hk with rfl | rfl | rfl | rfl
      · exact hp
      · exact hp
      · exact hp
      · exact VLs.dr hp hr (by decide))) (fun j _ _ h hb => hb.either (fun hb => ⟨h.1.below hb h.1.lt, h.2.1.below hb h.2.1.lt, h.2.2.1.below hb, h.2.2.2.then hb⟩) (fun hr => ⟨h.1.dr hr (by decide), h.2.1.dr hr (by decide), h.2.2.1.dr hr (by decide), h.2.2.2.trans hr⟩)) (⟨k5.drew, kb5.drew, o5.below (Below.refl _ _).drew, d5.then (Below.refl _ _).drew⟩) (fun x => ?_)
  refine obs_stepR (Eq.trans (by simp only [List.getElem?_toArray, List.getElem?_cons_zero]; exact rfl) rfl) rfl (fun w' hS hV K hK => ?_) ?_
  · obtain ⟨q0, q1⟩ := hS.2.1.two
    go_simp
    exact hK.out _ _ _ rfl rfl rfl (Below.refl _ _)
  simp only [List.setIfInBounds_toArray, List.set_cons_zero, List.set_cons_succ]
  refine obs_stepR (Eq.trans (by simp only [List.getElem?_toArray, List.getElem?_cons_succ, List.getElem?_cons_zero]; exact rfl) rfl) rfl (fun w' hS hV K hK => ?_) ?_
  · obtain ⟨q0, q1⟩ := hS.2.1.two
    go_simp
    exact hK.out _ _ _ rfl rfl rfl (Below.refl _ _)
  simp only [List.setIfInBounds_toArray, List.set_cons_zero, List.set_cons_succ]
  refine obs_stepR (Eq.trans (by simp only [List.getElem?_toArray, List.getElem?_cons_succ, List.getElem?_cons_zero]; exact rfl) rfl) rfl (fun w' hS hV K hK => ?_) ?_
  · obtain ⟨q0, q1⟩ := hS.2.1.two
    go_simp
    exact hK.out _ _ _ rfl rfl rfl (Below.refl _ _)
  simp only [List.setIfInBounds_toArray, List.set_cons_zero, List.set_cons_succ]
  refine obs_stepR (Eq.trans (by simp only [List.getElem?_toArray, List.getElem?_cons_succ, List.getElem?_cons_zero]; exact rfl) rfl) rfl (fun w' hS hV K hK => ?_) ?_
  · have e1 : x 1 = (.pointer (some ⟨g, 0, none⟩)) := hV 1 (by decide)
    have e2 : x 2 = (.agg #[.int .i64 P, .slice A n c]) := hV 2 (by decide)
    obtain ⟨q0, q1⟩ := hS.2.1.two
    go_simp
    refine (l04Draw_mu g P A n c sq w' hS.2.2.2.s' (by omega) (by omega) hn6 (by omega) (hS.2.2.1.base (Nat.zero_le _)) HNU.out).mono ?_
    rintro e v1 ⟨A9, c9, rfl, ⟨xs9, ho9, hn9⟩, hd9⟩
    exact hK.out _ _ _ rfl rfl ⟨A9, c9, xs9, rfl, ho9.rd.lenI, hn9, ho9.base (Nat.le_trans hw (hS.2.2.2.size))⟩ hd9
  simp only [List.setIfInBounds_toArray, List.set_cons_zero, List.set_cons_succ]
  refine obs_stepR (Eq.trans (by simp only [List.getElem?_toArray, List.getElem?_cons_succ, List.getElem?_cons_zero]; exact rfl) rfl) rfl (fun w' hS hV K hK => ?_) ?_
  · have e0 : x 0 = (.agg #[.int .i64 P, .slice A n c]) := hV 0 (by decide)
    have e1 : x 1 = (.pointer (some ⟨g, 0, none⟩)) := hV 1 (by decide)
    have e2 : x 2 = (.agg #[.int .i64 P, .slice A n c]) := hV 2 (by decide)
    obtain ⟨A3, c3, X3, e3, l3, n3, h3⟩ := hV 3 (by decide)
    obtain ⟨q0, q1⟩ := hS.2.1.two
    go_simp
    refine (l19Text_any P A A3 n c c3 X3 w' HPP.out hn6 n3 l3 h3.rd).mono ?_
    rintro e v1 ⟨rfl, hb⟩
    exact hK.out _ _ _ rfl rfl ⟨_, rfl, textL_le HPP.out hn6 l3 n3⟩ hb
  simp only [List.setIfInBounds_toArray, List.set_cons_zero, List.set_cons_succ]
  refine obs_stepR (Eq.trans (by simp only [List.getElem?_toArray, List.getElem?_cons_succ, List.getElem?_cons_zero]; exact rfl) rfl) rfl (fun w' hS hV K hK => ?_) ?_
  · have e0 : x 0 = (.agg #[.int .i64 P, .slice A n c]) := hV 0 (by decide)
    have e1 : x 1 = (.pointer (some ⟨g, 0, none⟩)) := hV 1 (by decide)
    have e2 : x 2 = (.agg #[.int .i64 P, .slice A n c]) := hV 2 (by decide)
    obtain ⟨A3, c3, X3, e3, l3, n3, h3⟩ := hV 3 (by decide)
    obtain ⟨t4, e4, l4⟩ := hV 4 (by decide)
    obtain ⟨q0, q1⟩ := hS.2.1.two
    go_simp
    exact hK.out _ _ _ rfl rfl ⟨_, rfl, l4⟩ (Below.refl _ _)
  simp only [List.setIfInBounds_toArray, List.set_cons_zero, List.set_cons_succ]
  refine fun w' hS hV => ?_
  have e0 : x 0 = (.agg #[.int .i64 P, .slice A n c]) := hV 0 (by decide)
  have e1 : x 1 = (.pointer (some ⟨g, 0, none⟩)) := hV 1 (by decide)
  have e2 : x 2 = (.agg #[.int .i64 P, .slice A n c]) := hV 2 (by decide)
  obtain ⟨A3, c3, X3, e3, l3, n3, h3⟩ := hV 3 (by decide)
  obtain ⟨t4, e4, l4⟩ := hV 4 (by decide)
  obtain ⟨t5, e5, l5⟩ := hV 5 (by decide)
  simp only [e0, e1, e2, e3, e4, e5]
  clear e0 e1 e2 e3 e4 e5
  refine wpAny_done (by kernel_rfl) ?_ _
  obtain ⟨w6, rfl⟩ : ∃ W, W = w' := ⟨_, rfl⟩
  obtain ⟨k6, kb6, o6, d6⟩ := hS
  obtain ⟨t0, rfl⟩ : ∃ t, t = t5 := ⟨_, rfl⟩
  have ht0 := l5
  clear k5 kb5 o5 d5 hV l5 l4 h3 l3 n3
  obtain ⟨nb, pl0, h0, hs2⟩ := d6.s'.at_
  obtain ⟨M, hM1, hM2⟩ := clock3
  obtain ⟨M3, hN1, hN2⟩ := len3
  have HN1 := Lib.hid hN1
  have HN2 := Lib.hid hN2
  have hle := hs2.le
  have HM1 := Lib.hid hM1
  have HM2 := Lib.hid hM2
  have HNB := Lib.hid hle.2
  have HL0 : Hid (Lng3 M3 nb pl0 h0 t0.length) := Lib.hid (by
    have := hN1 h0
    by_cases hq : pl0 < nb
    · exact .inl ⟨hq, by omega⟩
    · exact .inr ⟨by omega, by omega⟩)
  clear q0 q1 hM1 hM2 hle ht0 hN1 hN2
  go_wp2
  go_loopw [6] (fun tv wr => ∃ (pl : Nat) (h : Int) (t : By), tv = .string ⟨t.toArray⟩ ∧ SrcA wr g 121 nb pl h ∧ Dr g 121 w2 wr ∧ Blk wr w.heap.size 28 #[.int .i64 0, .slice none 0 0] ∧ Blk wr w3.heap.size 28 #[.int .i64 P, .slice A n c] ∧ Own wr w.heap.size 2 A n c (ints sq) ∧ Hid (Lng3 M3 nb pl h t.length)) (fun _ wr => dme g nb M wr)
  case atStart => exact ⟨pl0, h0, t0, rfl, hs2, d6, k6, kb6, o6, HL0⟩
  case round =>
    obtain ⟨pl, h, t, rfl, hs3, hd3, k3, kb3, o3, hl3⟩ := hrel
    clear hs2 d6 HL0 k6 kb6 o6
    have hdm := hs3.dme M
    have hnx := next_at g 3 nb pl h wr hs3 (by omega) (by omega)
    have HDM := Lib.hid hdm
    have HD3 := Lib.hid hd3
    clear hs3 hd3 hdm
    go_wp2_with fail
    refine hnx.mono ?_
    rintro e w4 ⟨r, rfl, hr0, hr1, hd4, pl4, h4, hs4, hp4, he4, hx4⟩
    have HD4 := Lib.hid (HD3.out.trans hd4)
    have k4 := k3.dr hd4 (by decide)
    have kb4 := kb3.dr hd4 (by decide)
    have o4 := o3.dr hd4 (by decide)
    clear hnx HD3 k3 kb3 o3
    by_cases hr : r = 0
    · subst hr
      have hdg := damage_at g nb pl4 h4 t w4 hs4 (by have := hl3.out.big HNB.out; omega)
      have HP4 := Lib.hid hp4
      have HE4 := Lib.hid he4
      have HX4 := Lib.hid hx4
      clear hs4 hd4 hp4 he4 hx4 hr1
      go_wp2_with fail
      refine hdg.mono ?_
      rintro e w5 ⟨t5, rfl, ht5, hd5, pl5, h5, hs5, hp5, he5⟩
      have HN : Hid (Lng3 M3 nb pl5 h5 t5.length ∧ (nb - pl5) * 288230376151711744 + M h5 < (nb - pl) * 288230376151711744 + M h) := Lib.hid (hl3.out.next HM1.out HM2.out HN1.out HN2.out ht5 HNB.out HP4.out hp5 hs5.le.1 HE4.out he5 HX4.out)
      have HDM5 := Lib.hid (hs5.dme M)
      have HD5 := Lib.hid (HD4.out.trans hd5)
      have HS5 := Lib.hid hs5
      have k5 := k4.dr hd5 (by decide)
      have kb5 := kb4.dr hd5 (by decide)
      have o5 := o4.dr hd5 (by decide)
      clear hdg hd5 hs5 hp5 he5 ht5 k4 kb4 o4
      go_wp2
      go_roundw
      case rel => exact ⟨pl5, h5, t5, rfl, HS5.out, HD5.out, k5, kb5, o5, Lib.hid HN.out.1⟩
      case measure => rw [HDM.out, HDM5.out]; exact HN.out.2
    · have hr' : (r == 0) = false := by simpa using hr
      have hbig := hl3.out.big HNB.out
      have d4 := HD4.out
      clear hs4 hd4 hp4 he4 hx4 hr1 hl3 hr
      obtain ⟨q0, q1⟩ := kb4.two
      obtain ⟨p0, p1⟩ := k4.two
      have f0 := k4.frozen 0
      have f1 := k4.frozen 1
      have hf : ∀ {m d : Nat} {A2 : Option Addr} {xs : List Int}, Own w4 w.heap.size 2 A2 m d (ints xs) → Own ((w4.setCell ⟨w.heap.size, 0, none⟩ (.int .i64 P)).setCell ⟨w.heap.size, 1, none⟩ (.slice A n c)) w.heap.size 2 A2 m d (ints xs) := by
        intro m c' A' xs ho
        exact (ho.far k4 (by decide) 0 _).far (k4.set_ 0 (.int .i64 P)) (by decide) 1 _
      have HO6 := Lib.hid (hf o4)
      have HB6 := Lib.hid (hB2.trans (((d4.b.mono hgw).setCell (p := ⟨w.heap.size, 0, none⟩) (Nat.le_refl _) (.int .i64 P)).setCell (p := ⟨w.heap.size, 1, none⟩) (Nat.le_refl _) (.slice A n c)))
      clear hf o4 d4
      go_wp2
      exact bodyPost_ret (v := .tuple #[.agg #[.int .i64 P, .slice A n c], .string ⟨t.toArray⟩]) (by simp [results, Tryz.results32, go_sem, p0, p1]) rfl ⟨P, A, n, c, sq, _, rfl, hP, hn, (by omega), HO6.out, HB6.out⟩
set_option maxHeartbeats 6400000 in
set_option maxRecDepth 8000 in
theorem DrawMaskOfName_any (B : Option Addr) (nb cb : Nat) (bs : List Int) (w : World) (hnb : nb ≤ 4096) (r : Rd w B nb (bs.map (Value.int .u8))) (hbs : ∀ b ∈ bs, 0 ≤ b ∧ b < 256) (hbg : ∀ a, B = some a → a.block < w.heap.size) :
    Calls Tryz.prog 34 #[.slice B nb cb] w (DrewT w) := by
  have hB0 : Below w.heap.size w (w.alloc (.cells #[.int .i64 0, .slice none 0 0] 28)) := (Below.refl _ _).alloc (Nat.le_refl _) _
  have k0 : Blk (w.alloc (.cells #[.int .i64 0, .slice none 0 0] 28)) w.heap.size 28 #[.int .i64 0, .slice none 0 0] := Blk.new _ _ _
  have hfr := from__any B nb cb bs (w.alloc (.cells #[.int .i64 0, .slice none 0 0] 28)) hnb (r.below hB0) hbs (fun a e => by have := hbg a e; simp; omega)
  go_enter Tryz.func34, Tryz.ntmps34
  go_wp2_with fail
  refine hfr.mono ?_
  rintro e w2 ⟨g, rfl, hg, hs2, hb2⟩
  have k2 := k0.below hb2 k0.lt
  have hB2 := hB0.trans (hb2.mono hB0.size)
  have hw := hB2.size
  have hgw : w.heap.size ≤ g := Nat.le_trans hB0.size hg
  have hsp := l03Spoil_any g w2 hs2
  clear hfr hb2 k0 hB0 hg
  go_wp2_with fail
  refine hsp.mono ?_
  rintro e w3 ⟨P, A, n, c, sq, rfl, hP, hn, hO, hd3⟩
  have d4 := hd3.alloc (.cells #[.int .i64 P, .slice A n c] 28)
  have k4 := (k2.dr hd3 (by decide)).alloc (.cells #[.int .i64 P, .slice A n c] 28)
  have kb4 : Blk (w3.alloc (.cells #[.int .i64 P, .slice A n c] 28)) w3.heap.size 28 #[.int .i64 P, .slice A n c] := Blk.new _ _ _
  have o4 := (hO.base (B' := w.heap.size) hw).below ((Below.refl _ _).alloc (Nat.le_refl _) (.cells #[.int .i64 P, .slice A n c] 28))
  clear hsp k2 hO hd3
  have his := fun b (hb : isSp P sq = b) => l03Is_b P A n c sq (w3.alloc (.cells #[.int .i64 P, .slice A n c] 28)) (by omega) o4.rd hb
  cases hsp : isSp P sq
  · have his0 := his false hsp
    have HD4 := Lib.hid d4
    clear his hsp d4
    obtain ⟨q0, q1⟩ := kb4.two
    go_wp2_with fail
    refine his0.mono ?_
    rintro e w5 ⟨rfl, hb5⟩
    have k5 := k4.below hb5 k4.lt
    have kb5 := kb4.below hb5 kb4.lt
    have o5 := o4.below hb5
    have d5 := HD4.out.then hb5
    clear his0 hb5 k4 kb4 o4 q0 q1 HD4
    obtain ⟨q0, q1⟩ := kb5.two
    obtain ⟨p0, p1⟩ := k5.two
    have f0 := k5.frozen 0
    have f1 := k5.frozen 1
    have hf : ∀ {m d : Nat} {A2 : Option Addr} {xs : List Int}, Own w5 w.heap.size 2 A2 m d (ints xs) → Own ((w5.setCell ⟨w.heap.size, 0, none⟩ (.int .i64 P)).setCell ⟨w.heap.size, 1, none⟩ (.slice A n c)) w.heap.size 2 A2 m d (ints xs) := by
      intro m c' A' xs ho
      exact (ho.far k5 (by decide) 0 _).far (k5.set_ 0 (.int .i64 P)) (by decide) 1 _
    have HO6 := Lib.hid (hf o5)
    have HB6 := Lib.hid (hB2.trans (((d5.b.mono hgw).setCell (p := ⟨w.heap.size, 0, none⟩) (Nat.le_refl _) (.int .i64 P)).setCell (p := ⟨w.heap.size, 1, none⟩) (Nat.le_refl _) (.slice A n c)))
    clear hf o5 d5
    go_wp2
    exact bodyPost_ret (v := .tuple #[.agg #[.int .i64 P, .slice A n c], .string ⟨#[49]⟩]) (by simp [results, Tryz.results34, go_sem, p0, p1]) rfl ⟨P, A, n, c, sq, _, rfl, hP, hn, (by decide), HO6.out, HB6.out⟩
  have his0 := his true hsp
  obtain ⟨hPP, hn1, hn6, hnum⟩ := isSp_dim hsp
  have hln : sq.length = n := o4.rd.lenI
  rw [hln] at hn1 hn6
  have hge := isP_ge hPP
  have HPP := Lib.hid hPP
  have HNU := Lib.hid (nums_numsL hnum)
  have hpw : pw n ≤ 64 := pw_le hn6
  have hpos := pw_pos n
  have HD4 := Lib.hid d4
  clear his hsp hPP hnum hln d4
  obtain ⟨q0, q1⟩ := kb4.two
  go_wp2_with fail
  refine his0.mono ?_
  rintro e w5 ⟨rfl, hb5⟩
  have k5 := k4.below hb5 k4.lt
  have kb5 := kb4.below hb5 kb4.lt
  have o5 := o4.below hb5
  have d5 := HD4.out.then hb5
  clear his0 hb5 k4 kb4 o4 q0 q1 HD4
  obtain ⟨q0, q1⟩ := kb5.two
  have hszc := l04Size_any P A n c w5 (show n ≤ 30 by omega)
  go_wp2_with fail
  refine hszc.mono ?_
  rintro e w6 ⟨rfl, hb6⟩
  have k6 := k5.below hb6 k5.lt
  have kb6 := kb5.below hb6 kb5.lt
  have o6 := o5.below hb6
  have d6 := d5.then hb6
  clear hszc hb6 k5 kb5 o5 d5 q0 q1
  have hnx := next_any g ((pw n : Nat) : Int) w6 d6.s' (by omega)
  go_wp2_with fail
  refine hnx.mono ?_
  rintro e w7 ⟨rr, rfl, hr0, hr1, hd7⟩
  have k7 := k6.dr hd7 (by decide)
  have kb7 := kb6.dr hd7 (by decide)
  have o7 := o6.dr hd7 (by decide)
  have d7 := d6.trans hd7
  clear hnx hd7 k6 kb6 o6 d6
  obtain ⟨rn, rfl⟩ : ∃ rn : Nat, rr = rn := ⟨rr.toNat, by omega⟩
  have hrn : rn < pw n := by have := hr1 (by omega); omega
  have hnm := l19Name_any rn w7 (by omega)
  rw [nameL_six hn6 hrn] at hnm
  have ht0 : (nameL n rn).length ≤ 7 := by unfold nameL; split <;> first | (have := nameTo_len rn n; omega) | simp
  obtain ⟨t0, hT0⟩ : ∃ t, t = nameL n rn := ⟨_, rfl⟩
  rw [← hT0] at hnm ht0
  clear hT0 hr1
  go_wp2_with fail
  refine hnm.mono ?_
  rintro e w8 ⟨rfl, hb8⟩
  have k6 := k7.below hb8 k7.lt
  have kb6 := kb7.below hb8 kb7.lt
  have o6 := o7.below hb8
  have d6 := d7.then hb8
  clear hnm hb8 k7 kb7 o7 d7
  obtain ⟨q0, q1⟩ := kb6.two
  obtain ⟨nb, pl0, h0, hs2⟩ := d6.s'.at_
  obtain ⟨M, hM1, hM2⟩ := clock4
  have hle := hs2.le
  have HM1 := Lib.hid hM1
  have HM2 := Lib.hid hM2
  have HNB := Lib.hid hle.2
  have HL0 : Hid (Lng M nb pl0 h0 t0.length) := Lib.hid (by
    have := hM1 h0
    by_cases hq : pl0 < nb
    · exact .inl ⟨hq, by omega⟩
    · exact .inr ⟨by omega, by omega⟩)
  clear q0 q1 hM1 hM2 hle ht0
  go_wp2
  go_loopw [6] (fun tv wr => ∃ (pl : Nat) (h : Int) (t : By), tv = .string ⟨t.toArray⟩ ∧ SrcA wr g 121 nb pl h ∧ Dr g 121 w2 wr ∧ Blk wr w.heap.size 28 #[.int .i64 0, .slice none 0 0] ∧ Blk wr w3.heap.size 28 #[.int .i64 P, .slice A n c] ∧ Own wr w.heap.size 2 A n c (ints sq) ∧ Hid (Lng M nb pl h t.length)) (fun _ wr => dme g nb M wr)
  case atStart => exact ⟨pl0, h0, t0, rfl, hs2, d6, k6, kb6, o6, HL0⟩
  case round =>
    obtain ⟨pl, h, t, rfl, hs3, hd3, k3, kb3, o3, hl3⟩ := hrel
    clear hs2 d6 HL0 k6 kb6 o6
    have hdm := hs3.dme M
    have hnx := next_at g 4 nb pl h wr hs3 (by omega) (by omega)
    have HDM := Lib.hid hdm
    have HD3 := Lib.hid hd3
    clear hs3 hd3 hdm
    go_wp2_with fail
    refine hnx.mono ?_
    rintro e w4 ⟨r, rfl, hr0, hr1, hd4, pl4, h4, hs4, hp4, he4, hx4⟩
    have HD4 := Lib.hid (HD3.out.trans hd4)
    have k4 := k3.dr hd4 (by decide)
    have kb4 := kb3.dr hd4 (by decide)
    have o4 := o3.dr hd4 (by decide)
    clear hnx HD3 k3 kb3 o3
    by_cases hr : r = 0
    · subst hr
      have hdg := damage_at g nb pl4 h4 t w4 hs4 (by have := hl3.out.big HNB.out; omega)
      have HP4 := Lib.hid hp4
      have HE4 := Lib.hid he4
      have HX4 := Lib.hid hx4
      clear hs4 hd4 hp4 he4 hx4 hr1
      go_wp2_with fail
      refine hdg.mono ?_
      rintro e w5 ⟨t5, rfl, ht5, hd5, pl5, h5, hs5, hp5, he5⟩
      have HN : Hid (Lng M nb pl5 h5 t5.length ∧ (nb - pl5) * 288230376151711744 + M h5 < (nb - pl) * 288230376151711744 + M h) := Lib.hid (hl3.out.nextq HM1.out HM2.out ht5 HNB.out HP4.out hp5 hs5.le.1 HE4.out (he5.imp And.right id) HX4.out)
      have HDM5 := Lib.hid (hs5.dme M)
      have HD5 := Lib.hid (HD4.out.trans hd5)
      have HS5 := Lib.hid hs5
      have k5 := k4.dr hd5 (by decide)
      have kb5 := kb4.dr hd5 (by decide)
      have o5 := o4.dr hd5 (by decide)
      clear hdg hd5 hs5 hp5 he5 ht5 k4 kb4 o4
      go_wp2
      go_roundw
      case rel => exact ⟨pl5, h5, t5, rfl, HS5.out, HD5.out, k5, kb5, o5, Lib.hid HN.out.1⟩
      case measure => rw [HDM.out, HDM5.out]; exact HN.out.2
    · have hr' : (r == 0) = false := by simpa using hr
      have hbig := hl3.out.big HNB.out
      have d4 := HD4.out
      clear hs4 hd4 hp4 he4 hx4 hr1 hl3 hr
      obtain ⟨q0, q1⟩ := kb4.two
      obtain ⟨p0, p1⟩ := k4.two
      have f0 := k4.frozen 0
      have f1 := k4.frozen 1
      have hf : ∀ {m d : Nat} {A2 : Option Addr} {xs : List Int}, Own w4 w.heap.size 2 A2 m d (ints xs) → Own ((w4.setCell ⟨w.heap.size, 0, none⟩ (.int .i64 P)).setCell ⟨w.heap.size, 1, none⟩ (.slice A n c)) w.heap.size 2 A2 m d (ints xs) := by
        intro m c' A' xs ho
        exact (ho.far k4 (by decide) 0 _).far (k4.set_ 0 (.int .i64 P)) (by decide) 1 _
      have HO6 := Lib.hid (hf o4)
      have HB6 := Lib.hid (hB2.trans (((d4.b.mono hgw).setCell (p := ⟨w.heap.size, 0, none⟩) (Nat.le_refl _) (.int .i64 P)).setCell (p := ⟨w.heap.size, 1, none⟩) (Nat.le_refl _) (.slice A n c)))
      clear hf o4 d4
      go_wp2
      exact bodyPost_ret (v := .tuple #[.agg #[.int .i64 P, .slice A n c], .string ⟨t.toArray⟩]) (by simp [results, Tryz.results34, go_sem, p0, p1]) rfl ⟨P, A, n, c, sq, _, rfl, hP, hn, (by omega), HO6.out, HB6.out⟩
end Go.Proofs.YticofgmmjecleaaGreatDoor
namespace Go.Proofs.YticofgmmjecleaaGreatDoor
open Go Go.RowKit
def mtxR (P : Int) (sq xs : List Int) : By × Int := if codeM P sq [xs] = 0 then (textL P sq.length xs, 0) else ([], codeM P sq [xs])
set_option maxHeartbeats 1600000 in
set_option maxRecDepth 8000 in
theorem MultivectorText_bad (P : Int) (A : Option Addr) (n c : Nat) (sq : List Int) (X : Option Addr) (m cx : Nat) (xs : List Int) (w : World) (hn : n ≤ 1048576) (hm : m ≤ 1048576) (ha : Rd w A n (ints sq)) (hx : Rd w X m (ints xs)) (hcx : m ≤ cx) (h0 : codeM P sq [xs] ≠ 0) :
    Calls Tryz.prog 27 #[.agg #[.int .i64 P, .slice A n c], .slice X m cx] w fun e w' => e = .returned (.tuple #[.string ⟨#[]⟩, .int .i64 (codeM P sq [xs])]) ∧ Below w.heap.size w w' := by
  have hB0 : Below w.heap.size w (w.alloc (.cells #[.int .i64 P, .slice A n c] 28)) := (Below.refl _ _).alloc (Nat.le_refl _) _
  have hB1 : Below w.heap.size w ((w.alloc (.cells #[.int .i64 P, .slice A n c] 28)).alloc (.cells #[.slice X m cx] 22)) := hB0.alloc (by simp) _
  have hreg := checkMultis_any P A (some ⟨w.heap.size + 1, 0, none⟩) n c 1 1 sq [xs] ((w.alloc (.cells #[.int .i64 P, .slice A n c] 28)).alloc (.cells #[.slice X m cx] 22)) hn (by omega) (ha.below hB1) (rdII_one' (Blk.newAt (by simp)) (hx.below hB1) hcx) (all_one (by rw [hx.lenI]; exact hm))
  obtain ⟨C, hC⟩ : ∃ C, C = codeM P sq [xs] := ⟨_, rfl⟩
  rw [← hC] at hreg h0 ⊢
  have d0 : (C == 0) = false := by simpa using h0
  clear hC h0
  go_enter Tryz.func27, Tryz.ntmps27
  go_wp2_with fail
  refine hreg.mono ?_
  rintro e w2 ⟨rfl, hb2⟩
  have hB2 := hB1.trans (hb2.mono hB1.size)
  go_wp2
  go_ret2
  exact ⟨rfl, hB2⟩
theorem MultivectorText_any (P : Int) (A : Option Addr) (n c : Nat) (sq : List Int) (X : Option Addr) (m cx : Nat) (xs : List Int) (w : World) (hn : n ≤ 1048576) (hm : m ≤ 1048576) (ha : Rd w A n (ints sq)) (hx : Rd w X m (ints xs)) (hcx : m ≤ cx) (he : Env w) :
    Calls Tryz.prog 27 #[.agg #[.int .i64 P, .slice A n c], .slice X m cx] w fun e w' => e = .returned (.tuple #[.string ⟨(mtxR P sq xs).1.toArray⟩, .int .i64 (mtxR P sq xs).2]) ∧ Below w.heap.size w w' := by
  unfold mtxR
  by_cases h0 : codeM P sq [xs] = 0
  · rw [if_pos h0]
    have h := MultivectorText_ok P A n c sq X m cx xs w hn hm ha hx hcx h0 ((codeM_spec2 h0).2.2.2.2.2.2 xs (by simp)).2 he
    rw [← ha.lenI] at h
    rw [ha.lenI] at h ⊢
    exact h
  · rw [if_neg h0]
    exact MultivectorText_bad P A n c sq X m cx xs w hn hm ha hx hcx h0
set_option maxHeartbeats 1600000 in
set_option maxRecDepth 8000 in
theorem specMultivectorText_any (P : Int) (A : Option Addr) (n c : Nat) (sq : List Int) (X : Option Addr) (m cx : Nat) (xs : List Int) (w : World) (hn : n ≤ 1048576) (hm : m ≤ 1048576) (ha : Rd w A n (ints sq)) (hx : Rd w X m (ints xs)) (hcx : m ≤ cx) :
    Calls Tryz.prog 28 #[.agg #[.int .i64 P, .slice A n c], .slice X m cx] w fun e w' => e = .returned (.tuple #[.string ⟨(mtxR P sq xs).1.toArray⟩, .int .i64 (mtxR P sq xs).2]) ∧ Below w.heap.size w w' := by
  have hB0 : Below w.heap.size w (w.alloc (.cells #[.int .i64 P, .slice A n c] 28)) := (Below.refl _ _).alloc (Nat.le_refl _) _
  have k0 : Blk (w.alloc (.cells #[.int .i64 P, .slice A n c] 28)) w.heap.size 28 #[.int .i64 P, .slice A n c] := Blk.new _ _ _
  have hB1 : Below w.heap.size w ((w.alloc (.cells #[.int .i64 P, .slice A n c] 28)).alloc (.cells #[.slice X m cx] 22)) := hB0.alloc (by simp) _
  have k1 : Blk ((w.alloc (.cells #[.int .i64 P, .slice A n c] 28)).alloc (.cells #[.slice X m cx] 22)) w.heap.size 28 #[.int .i64 P, .slice A n c] := k0.alloc _
  have hreg := l04Code_any P A (some ⟨w.heap.size + 1, 0, none⟩) n c 1 1 sq [xs] ((w.alloc (.cells #[.int .i64 P, .slice A n c] 28)).alloc (.cells #[.slice X m cx] 22)) hn (by omega) (ha.below hB1) (rdII_one' (Blk.newAt (by simp)) (hx.below hB1) hcx) (all_one (by rw [hx.lenI]; exact hm))
  by_cases h0 : codeM P sq [xs] = 0
  · have e0 : mtxR P sq xs = (textL P n xs, 0) := by unfold mtxR; rw [if_pos h0, ha.lenI]
    rw [h0] at hreg
    rw [e0]
    obtain ⟨HP, hp, hp2, hd1, hd2, hs0, hms⟩ := codeM_spec2 h0
    obtain ⟨hx1, hxs0⟩ := hms xs (by simp)
    have hln : sq.length = n := ha.lenI
    have hxm : xs.length = m := hx.lenI
    have hmn : m = pw n := by rw [← hxm, hx1, hln]
    have hcall := fun w' (hb : Below w.heap.size w w') => l19Text_any P A X n c cx xs w' HP (by omega) hxs0 (by rw [hx1, hln]) (by rw [← hmn]; exact hx.below hb)
    rw [← hmn] at hcall
    obtain ⟨T, hT⟩ : ∃ T, T = textL P n xs := ⟨_, rfl⟩
    rw [← hT] at hcall ⊢
    clear hms hx1 hs0 hxs0 h0 hln hxm hmn hT e0
    go_enter Tryz.func28, Tryz.ntmps28
    go_wp2_with fail
    refine hreg.mono ?_
    rintro e w2 ⟨rfl, hb2⟩
    have hB2 := hB1.trans (hb2.mono hB1.size)
    have k2 := k1.below hb2 k1.lt
    obtain ⟨q0, q1⟩ := k2.two
    clear k0 hB0 k1 hB1 hb2 hreg
    go_wp2_with fail
    refine (hcall _ hB2).mono ?_
    rintro e w3 ⟨rfl, hb3⟩
    have hB3 := hB2.trans (hb3.mono hB2.size)
    go_wp2
    go_ret2
    exact ⟨rfl, hB3⟩
  · have e0 : mtxR P sq xs = ([], codeM P sq [xs]) := by unfold mtxR; rw [if_neg h0]
    rw [e0]
    obtain ⟨C, hC⟩ : ∃ C, C = codeM P sq [xs] := ⟨_, rfl⟩
    rw [← hC] at hreg h0 ⊢
    have d0 : (C == 0) = false := by simpa using h0
    clear hC h0 e0
    go_enter Tryz.func28, Tryz.ntmps28
    go_wp2_with fail
    refine hreg.mono ?_
    rintro e w2 ⟨rfl, hb2⟩
    have hB2 := hB1.trans (hb2.mono hB1.size)
    go_wp2
    go_ret2
    exact ⟨rfl, hB2⟩
def nzTo (x : List Int) : Nat → Nat
  | 0 => 0
  | k + 1 => nzTo x k + if x.getD k 0 = 0 then 0 else 1
theorem nzTo_same {x : List Int} {k : Nat} (hk : k < x.length) (h : x[k] = 0) : nzTo x (k + 1) = nzTo x k := by
  show nzTo x k + _ = _
  rw [getD_of_lt 0 hk, if_pos h]; rfl
theorem nzTo_more {x : List Int} {k : Nat} (hk : k < x.length) (h : x[k] ≠ 0) : nzTo x (k + 1) = nzTo x k + 1 := by
  show nzTo x k + _ = _
  rw [getD_of_lt 0 hk, if_neg h]
set_option maxHeartbeats 1600000 in
set_option maxRecDepth 8000 in
theorem CountTerms_ok (P : Int) (A : Option Addr) (n c : Nat) (sq : List Int) (X : Option Addr) (m cx : Nat) (xs : List Int) (w : World) (hn : n ≤ 1048576) (hm : m ≤ 1048576) (ha : Rd w A n (ints sq)) (hx : Rd w X m (ints xs)) (hcx : m ≤ cx) (h0 : codeM P sq [xs] = 0) :
    Calls Tryz.prog 30 #[.agg #[.int .i64 P, .slice A n c], .slice X m cx] w fun e w' => e = .returned (.tuple #[.int .i64 (nzTo xs m : Nat), .int .i64 0]) ∧ Below w.heap.size w w' := by
  have hB0 : Below w.heap.size w (w.alloc (.cells #[.int .i64 P, .slice A n c] 28)) := (Below.refl _ _).alloc (Nat.le_refl _) _
  have hB1 : Below w.heap.size w ((w.alloc (.cells #[.int .i64 P, .slice A n c] 28)).alloc (.cells #[.slice X m cx] 22)) := hB0.alloc (by simp) _
  have hreg := checkMultis_any P A (some ⟨w.heap.size + 1, 0, none⟩) n c 1 1 sq [xs] ((w.alloc (.cells #[.int .i64 P, .slice A n c] 28)).alloc (.cells #[.slice X m cx] 22)) hn (by omega) (ha.below hB1) (rdII_one' (Blk.newAt (by simp)) (hx.below hB1) hcx) (all_one (by rw [hx.lenI]; exact hm))
  rw [h0] at hreg
  obtain ⟨R, hR⟩ : ∃ R, R = nzTo xs m := ⟨_, rfl⟩
  have HR := Lib.hid hR
  rw [← hR]
  clear hR h0
  go_enter Tryz.func30, Tryz.ntmps30
  go_wp2_with fail
  refine hreg.mono ?_
  rintro e w2 ⟨rfl, hb2⟩
  have hB2 := hB1.trans (hb2.mono hB1.size)
  have hX := hx.below hB2
  clear hreg hb2 hB1 hB0 hx
  go_wp2
  go_loopw [7, 19] (fun nv iv wr => ∃ k : Nat, k ≤ m ∧ iv = .int .i64 (k : Int) ∧ (∃ z : Nat, z ≤ k ∧ nv = .int .i64 (z : Int) ∧ Hid (nzTo xs k = z)) ∧ Below w2.heap.size w2 wr) (fun _ iv _ => m - (intOf iv).toNat)
  case atStart => exact ⟨0, Nat.zero_le _, rfl, ⟨0, Nat.le_refl _, rfl, Lib.hid rfl⟩, Below.refl _ _⟩
  case round =>
    obtain ⟨k, hk, rfl, ⟨z, hz, rfl, HZ⟩, hbl⟩ := hrel
    by_cases hlt : k < m
    · obtain ⟨gx, ox, rfl, hxk, hcx2⟩ := (hX.below hbl).int hlt
      by_cases hz0 : xs[k] = 0
      · have HZ2 : Hid (nzTo xs (k + 1) = z) := Lib.hid (by rw [nzTo_same hxk hz0, HZ.out])
        rw [hz0] at hcx2
        clear hz0
        go_wp2
        go_roundw
        case rel => exact ⟨k + 1, by omega, by go_num, ⟨z, by omega, rfl, HZ2⟩, hbl⟩
        case measure => simp [intOf]; omega
      · have HZ2 : Hid (nzTo xs (k + 1) = z + 1) := Lib.hid (by rw [nzTo_more hxk hz0, HZ.out])
        obtain ⟨a, ha1⟩ : ∃ a, a = xs[k] := ⟨_, rfl⟩
        rw [← ha1] at hcx2 hz0
        have d0 : (a == 0) = false := by simpa using hz0
        clear hz0 ha1
        go_wp2
        go_roundw
        case rel => exact ⟨k + 1, by omega, by go_num, ⟨z + 1, by omega, by go_num, HZ2⟩, hbl⟩
        case measure => simp [intOf]; omega
    · obtain rfl : k = m := by omega
      have e : z = R := by rw [HR.out, HZ.out]
      go_wp2
      go_ret2
      exact ⟨by rw [e]; rfl, hB2.trans (hbl.mono hB2.size)⟩
set_option maxHeartbeats 1600000 in
set_option maxRecDepth 8000 in
theorem BladeName_ok (P : Int) (A : Option Addr) (n c m : Nat) (sq : List Int) (w : World) (hn : n ≤ 1048576) (ha : Rd w A n (ints sq)) (hsp : isSp P sq = true) (hm : m < pw n) :
    Calls Tryz.prog 37 #[.agg #[.int .i64 P, .slice A n c], .int .i64 m] w fun e w' => e = .returned (.tuple #[.string ⟨(nameL n m).toArray⟩, .int .i64 0]) ∧ Below w.heap.size w w' := by
  have hB0 : Below w.heap.size w (w.alloc (.cells #[.int .i64 P, .slice A n c] 28)) := (Below.refl _ _).alloc (Nat.le_refl _) _
  have k0 : Blk (w.alloc (.cells #[.int .i64 P, .slice A n c] 28)) w.heap.size 28 #[.int .i64 P, .slice A n c] := Blk.new _ _ _
  have his := IsSpace_any P A n c sq (w.alloc (.cells #[.int .i64 P, .slice A n c] 28)) (by omega) (ha.below hB0)
  rw [hsp] at his
  obtain ⟨hP, hd1, hd2, hnum⟩ := isSp_dim hsp
  rw [ha.lenI] at hd2
  have hpw : pw n ≤ 64 := pw_le hd2
  have hnm := fun wx => nameOf_any P A n c m wx hd2 (by omega)
  have hdim := fun w => dim_any P A n c w
  clear hsp hP hnum hd1
  obtain ⟨T, hT⟩ : ∃ T, T = nameL n m := ⟨_, rfl⟩
  rw [← hT] at hnm ⊢
  clear hT
  go_enter Tryz.func37, Tryz.ntmps37
  go_wp2_with fail
  refine his.mono ?_
  rintro e w1 ⟨rfl, hb1⟩
  have hB1 := hB0.trans (hb1.mono hB0.size)
  have k1 := k0.below hb1 k0.lt
  obtain ⟨q0, q1⟩ := k1.two
  clear his hb1
  go_wp2_with fail
  refine (hdim w1).mono ?_
  rintro e w2 ⟨rfl, hb2⟩
  have hB2 := hB1.trans (hb2.mono hB1.size)
  have k2 := k1.below hb2 k1.lt
  clear hb2 hdim q0 q1 k1
  have W := wrap_pw n (show n ≤ 30 by omega)
  have hpos := pw_pos n
  obtain ⟨N, hN⟩ : ∃ N, N = pw n := ⟨_, rfl⟩
  rw [← hN] at hm hpw hpos W
  have hin : inR (m : Int) 0 ((N : Int) - 1) = true := by unfold inR; simp only [Bool.and_eq_true, decide_eq_true_eq]; omega
  clear hN
  obtain ⟨q0, q1⟩ := k2.two
  go_wp2_with fail
  refine (inRange_any _ _ _ w2).mono ?_
  rintro e w3 ⟨rfl, rfl⟩
  rw [hin]
  clear hin W
  go_wp2_with fail
  refine (hnm _).mono ?_
  rintro e w4 ⟨rfl, hb4⟩
  go_wp2
  go_ret2
  exact ⟨rfl, hB2.trans (hb4.mono hB2.size)⟩
set_option maxHeartbeats 1600000 in
set_option maxRecDepth 8000 in
theorem MaskOfName_any (P : Int) (A : Option Addr) (n c : Nat) (sq : List Int) (t : By) (w : World) (hn : n ≤ 1048576) (ha : Rd w A n (ints sq)) :
    Calls Tryz.prog 35 #[.agg #[.int .i64 P, .slice A n c], .string ⟨t.toArray⟩] w fun e w' => e = .returned (.tuple #[.int .i64 (monR P sq t).1, .int .i64 (monR P sq t).2]) ∧ Below w.heap.size w w' := by
  have hB0 : Below w.heap.size w (w.alloc (.cells #[.int .i64 P, .slice A n c] 28)) := (Below.refl _ _).alloc (Nat.le_refl _) _
  have k0 : Blk (w.alloc (.cells #[.int .i64 P, .slice A n c] 28)) w.heap.size 28 #[.int .i64 P, .slice A n c] := Blk.new _ _ _
  have his := IsSpace_any P A n c sq (w.alloc (.cells #[.int .i64 P, .slice A n c] 28)) (by omega) (ha.below hB0)
  cases hsp : isSp P sq
  · have hR : monR P sq t = (0, 1) := by unfold monR; rw [hsp]; rfl
    rw [hR]
    rw [hsp] at his
    clear hsp hR
    go_enter Tryz.func35, Tryz.ntmps35
    go_wp2_with fail
    refine his.mono ?_
    rintro e w1 ⟨rfl, hb1⟩
    go_wp2
    go_ret2
    exact ⟨rfl, hB0.trans (hb1.mono hB0.size)⟩
  · obtain ⟨hP, hd1, hd2, hnum⟩ := isSp_dim hsp
    have hln : sq.length = n := ha.lenI
    rw [hln] at hd2
    have hnm := fun wx => named_any P A n c t wx hd2
    have hR : monR P sq t = match maskOf n t with
      | some m => ((m : Int), 0)
      | none => (0, 6) := by unfold monR; rw [hsp, hln, if_pos rfl]; cases maskOf n t <;> rfl
    rw [hsp] at his
    cases hm : maskOf n t with
    | none =>
      rw [hm] at hnm hR
      rw [hR]
      clear hsp hP hnum hln hR hm
      go_enter Tryz.func35, Tryz.ntmps35
      go_wp2_with fail
      refine his.mono ?_
      rintro e w1 ⟨rfl, hb1⟩
      have hB1 := hB0.trans (hb1.mono hB0.size)
      have k1 := k0.below hb1 k0.lt
      obtain ⟨q0, q1⟩ := k1.two
      go_wp2_with fail
      refine (hnm w1).mono ?_
      rintro e w2 ⟨rfl, hb2⟩
      go_wp2
      go_ret2
      exact ⟨rfl, hB1.trans (hb2.mono hB1.size)⟩
    | some m =>
      rw [hm] at hnm hR
      rw [hR]
      clear hsp hP hnum hln hR hm
      go_enter Tryz.func35, Tryz.ntmps35
      go_wp2_with fail
      refine his.mono ?_
      rintro e w1 ⟨rfl, hb1⟩
      have hB1 := hB0.trans (hb1.mono hB0.size)
      have k1 := k0.below hb1 k0.lt
      obtain ⟨q0, q1⟩ := k1.two
      go_wp2_with fail
      refine (hnm w1).mono ?_
      rintro e w2 ⟨rfl, hb2⟩
      go_wp2
      go_ret2
      exact ⟨rfl, hB1.trans (hb2.mono hB1.size)⟩
end Go.Proofs.YticofgmmjecleaaGreatDoor
namespace Go.Proofs.YticofgmmjecleaaGreatDoor
open Go Go.RowKit
def eqLen (rest u : By) (b : Bool) : Prop := ((rest.length : Int) == (u.length : Int)) = b ∧ (rest.length == u.length) = b
/-- Whether a text begins with a term, as the reference asks it. -/
theorem matFacts (rest u : By) :
    (¬ u.length ≤ rest.length ∧ matT rest u = false) ∨
    (u.length ≤ rest.length ∧ (∃ p : By, (∀ wx, (Instr.slice 9 (.string ⟨rest.toArray⟩) none (some (.int .i64 (u.length : Int))) none).run Tryz.prog wx = .ok (.string ⟨p.toArray⟩) wx) ∧ (p == u) = false) ∧ matT rest u = false) ∨
    (u.length ≤ rest.length ∧ (∃ p : By, (∀ wx, (Instr.slice 9 (.string ⟨rest.toArray⟩) none (some (.int .i64 (u.length : Int))) none).run Tryz.prog wx = .ok (.string ⟨p.toArray⟩) wx) ∧ (p == u) = true) ∧ eqLen rest u true ∧ (∀ wx, (Instr.slice 9 (.string ⟨rest.toArray⟩) (some (.int .i64 (u.length : Int))) none none).run Tryz.prog wx = .ok (.string ⟨(rest.drop u.length).toArray⟩) wx) ∧ matT rest u = true) ∨
    (u.length ≤ rest.length ∧ (∃ p : By, (∀ wx, (Instr.slice 9 (.string ⟨rest.toArray⟩) none (some (.int .i64 (u.length : Int))) none).run Tryz.prog wx = .ok (.string ⟨p.toArray⟩) wx) ∧ (p == u) = true) ∧ eqLen rest u false ∧ (∃ e : UInt8, (∀ wx, (Instr.index 9 (.string ⟨rest.toArray⟩) (.int .i64 (u.length : Int))).run Tryz.prog wx = .ok (.int .u8 (e.toNat : Int)) wx) ∧ ((e.toNat : Int) == 43) = true) ∧ (∀ wx, (Instr.slice 9 (.string ⟨rest.toArray⟩) (some (.int .i64 (u.length : Int))) none none).run Tryz.prog wx = .ok (.string ⟨(rest.drop u.length).toArray⟩) wx) ∧ matT rest u = true) ∨
    (u.length ≤ rest.length ∧ (∃ p : By, (∀ wx, (Instr.slice 9 (.string ⟨rest.toArray⟩) none (some (.int .i64 (u.length : Int))) none).run Tryz.prog wx = .ok (.string ⟨p.toArray⟩) wx) ∧ (p == u) = true) ∧ eqLen rest u false ∧ (∃ e : UInt8, (∀ wx, (Instr.index 9 (.string ⟨rest.toArray⟩) (.int .i64 (u.length : Int))).run Tryz.prog wx = .ok (.int .u8 (e.toNat : Int)) wx) ∧ ((e.toNat : Int) == 43) = false ∧ ((e.toNat : Int) == 45) = true) ∧ (∀ wx, (Instr.slice 9 (.string ⟨rest.toArray⟩) (some (.int .i64 (u.length : Int))) none none).run Tryz.prog wx = .ok (.string ⟨(rest.drop u.length).toArray⟩) wx) ∧ matT rest u = true) ∨
    (u.length ≤ rest.length ∧ (∃ p : By, (∀ wx, (Instr.slice 9 (.string ⟨rest.toArray⟩) none (some (.int .i64 (u.length : Int))) none).run Tryz.prog wx = .ok (.string ⟨p.toArray⟩) wx) ∧ (p == u) = true) ∧ eqLen rest u false ∧ (∃ e : UInt8, (∀ wx, (Instr.index 9 (.string ⟨rest.toArray⟩) (.int .i64 (u.length : Int))).run Tryz.prog wx = .ok (.int .u8 (e.toNat : Int)) wx) ∧ ((e.toNat : Int) == 43) = false ∧ ((e.toNat : Int) == 45) = false) ∧ matT rest u = false) := by
  by_cases hl : u.length ≤ rest.length
  · have hsl : ∀ wx, (Instr.slice 9 (.string ⟨rest.toArray⟩) none (some (.int .i64 (u.length : Int))) none).run Tryz.prog wx = .ok (.string ⟨(rest.take u.length).toArray⟩) wx := fun wx => str_to wx rest u.length hl
    have hsf : ∀ wx, (Instr.slice 9 (.string ⟨rest.toArray⟩) (some (.int .i64 (u.length : Int))) none none).run Tryz.prog wx = .ok (.string ⟨(rest.drop u.length).toArray⟩) wx := fun wx => str_from wx rest u.length hl
    have hpre : u.isPrefixOf rest = (rest.take u.length == u) := by
      rw [Bool.eq_iff_iff, List.isPrefixOf_iff_prefix, beq_iff_eq, List.prefix_iff_eq_take]
      exact eq_comm
    by_cases hp : (rest.take u.length == u) = true
    · by_cases he : rest.length = u.length
      · refine .inr (.inr (.inl ⟨hl, ⟨_, hsl, hp⟩, ⟨by rw [he]; simp, by rw [he]; simp⟩, hsf, ?_⟩))
        unfold matT
        rw [hpre, hp, List.drop_eq_nil_of_le (by omega)]; rfl
      · have hlt : u.length < rest.length := by omega
        have hel : eqLen rest u false := ⟨by rw [beq_eq_false_iff_ne]; omega, by rw [beq_eq_false_iff_ne]; exact he⟩
        have hix : ∀ wx, (Instr.index 9 (.string ⟨rest.toArray⟩) (.int .i64 (u.length : Int))).run Tryz.prog wx = .ok (.int .u8 ((rest[u.length]).toNat : Int)) wx := fun wx => str_at wx rest u.length hlt
        have hm : matT rest u = isSg rest[u.length] := by
          unfold matT
          rw [hpre, hp, List.drop_eq_getElem_cons hlt]; rfl
        have hc : ∀ (e : UInt8) (v : Nat) (hv : v < 256), ((e.toNat : Int) == (v : Int)) = (e == UInt8.ofNat v) := fun e v hv => by
          rw [Bool.eq_iff_iff, beq_iff_eq, beq_iff_eq]
          constructor
          · intro h
            apply UInt8.toNat_inj.1
            rw [UInt8.toNat_ofNat', Nat.mod_eq_of_lt hv]; omega
          · intro h
            rw [h, UInt8.toNat_ofNat', Nat.mod_eq_of_lt hv]
        have h43 : ((rest[u.length].toNat : Int) == 43) = (rest[u.length] == 43) := hc _ 43 (by decide)
        have h45 : ((rest[u.length].toNat : Int) == 45) = (rest[u.length] == 45) := hc _ 45 (by decide)
        unfold isSg at hm
        cases e1 : (rest[u.length] == 43)
        · cases e2 : (rest[u.length] == 45)
          · exact .inr (.inr (.inr (.inr (.inr ⟨hl, ⟨_, hsl, hp⟩, hel, ⟨_, hix, h43.trans e1, h45.trans e2⟩, by rw [hm, e1, e2]; rfl⟩))))
          · exact .inr (.inr (.inr (.inr (.inl ⟨hl, ⟨_, hsl, hp⟩, hel, ⟨_, hix, h43.trans e1, h45.trans e2⟩, hsf, by rw [hm, e1, e2]; rfl⟩))))
        · exact .inr (.inr (.inr (.inl ⟨hl, ⟨_, hsl, hp⟩, hel, ⟨_, hix, h43.trans e1⟩, hsf, by rw [hm, e1]; rfl⟩)))
    · have hp2 : (rest.take u.length == u) = false := by simpa using hp
      refine .inr (.inl ⟨hl, ⟨_, hsl, hp2⟩, ?_⟩)
      unfold matT
      rw [hpre, hp2]; rfl
  · refine .inl ⟨hl, ?_⟩
    unfold matT
    have : u.isPrefixOf rest = false := by
      rw [Bool.eq_false_iff, ne_eq, List.isPrefixOf_iff_prefix]
      exact fun h => hl h.length_le
    rw [this]; rfl
theorem findS_step (p : Int) (n : Nat) (text rest : By) (m f i : Nat) : findS p n text rest m (f + 1) i = if matT rest (candS (decide (rest = text)) (termL p n m i)) = true then some i else findS p n text rest m f (i + 1) := rfl
theorem scan_nil {p : Int} {n : Nat} {text : By} {k : Nat} {xs : List Int} (h : scanS p n text k = (xs, [])) : ∀ d, scanS p n text (k + d) = (xs, [])
  | 0 => h
  | d + 1 => by
    show stepS p n text (k + d) (scanS p n text (k + d)) = _
    rw [scan_nil h d]; unfold stepS; rw [if_pos rfl]
theorem scan_none {p : Int} {n : Nat} {text rest : By} {k : Nat} {xs : List Int} (h : scanS p n text k = (xs, rest)) (hf : findS p n text rest k (p - 1).toNat 1 = none) : scanS p n text (k + 1) = (xs, rest) := by
  show stepS p n text k (scanS p n text k) = _
  rw [h]; unfold stepS
  split
  · rfl
  · dsimp only; rw [hf]
theorem scan_some {p : Int} {n : Nat} {text rest u : By} {k a : Nat} {xs : List Int} (h : scanS p n text k = (xs, rest)) (h0 : rest ≠ []) (hf : findS p n text rest k (p - 1).toNat 1 = some a) (hu : candS (decide (rest = text)) (termL p n k a) = u) : scanS p n text (k + 1) = (xs.set k (a : Int), rest.drop u.length) := by
  show stepS p n text k (scanS p n text k) = _
  rw [h]; unfold stepS
  rw [if_neg h0]; dsimp only; rw [hf]; dsimp only; rw [hu]
set_option maxHeartbeats 6400000 in
set_option maxRecDepth 100000 in
theorem specParseMultivector_any (P : Int) (A : Option Addr) (n c : Nat) (sq : List Int) (t : By) (w : World) (hn : n ≤ 1048576) (ht : t.length ≤ 1000000000) (ha : Rd w A n (ints sq)) :
    Calls Tryz.prog 33 #[.agg #[.int .i64 P, .slice A n c], .string ⟨t.toArray⟩] w fun e w' => ∃ (A' : Option Addr) (k c' : Nat), e = .returned (.tuple #[.slice A' k c', .int .i64 (parR P sq t).2]) ∧ MkI w w' A' k c' (parR P sq t).1 := by
  have hB0 : Below w.heap.size w (w.alloc (.cells #[.int .i64 P, .slice A n c] 28)) := (Below.refl _ _).alloc (Nat.le_refl _) _
  have k0 : Blk (w.alloc (.cells #[.int .i64 P, .slice A n c] 28)) w.heap.size 28 #[.int .i64 P, .slice A n c] := Blk.new _ _ _
  have his := l03Is_any P A n c sq (w.alloc (.cells #[.int .i64 P, .slice A n c] 28)) (by omega) (ha.below hB0)
  cases hsp : isSp P sq
  · have hR : parR P sq t = ([], 1) := by unfold parR; rw [hsp]; rfl
    rw [hR]
    rw [hsp] at his
    clear hsp hR
    go_enter Tryz.func33, Tryz.ntmps33
    go_wp2_with fail
    refine his.mono ?_
    rintro e w1 ⟨rfl, hb1⟩
    go_wp2
    go_ret2
    exact ⟨_, _, _, rfl, Mk.nil (hB0.trans (hb1.mono hB0.size))⟩
  · obtain ⟨hP, hd1, hd2, hnum⟩ := isSp_dim hsp
    rw [hsp] at his
    have hln : sq.length = n := ha.lenI
    have hge := isP_ge hP
    obtain ⟨R, hR⟩ : ∃ R, R = parR P sq t := ⟨_, rfl⟩
    have HR : Hid (R = if textL P n (parS P n t) = t then (parS P n t, 0) else ([], 6)) := Lib.hid (by rw [hR, parR_spec, if_pos hsp, hln])
    rw [← hR]
    rw [hln] at hd1 hd2
    clear hR hsp hnum hln
    have hpw : pw n ≤ 64 := pw_le hd2
    obtain ⟨q, rfl⟩ : ∃ q : Nat, P = q := ⟨P.toNat, by omega⟩
    have HP := Lib.hid hP
    have hszc := fun wx => l04Size_any (q : Int) A n c wx (show n ≤ 30 by omega)
    go_enter Tryz.func33, Tryz.ntmps33
    clear hP
    go_wp2_with fail
    refine his.mono ?_
    rintro e w1 ⟨rfl, hb1⟩
    have hB1 := hB0.trans (hb1.mono hB0.size)
    have k1 := k0.below hb1 k0.lt
    clear his hb1 k0 hB0
    obtain ⟨q0, q1⟩ := k1.two
    go_wp2_with fail
    refine (l04Zero_any (q : Int) A n c w1 (by omega)).mono ?_
    rintro e w2 ⟨A2, c2, rfl, hM2⟩
    have k2 := k1.below hM2.b k1.lt
    have hpos := pw_pos n
    have hw1 : w.heap.size < w1.heap.size := k1.lt
    rcases hM2.2.form with ⟨_, h0⟩ | ⟨g, rfl, hg0, hgl⟩
    · omega
    have hg : w.heap.size < g := Nat.lt_of_lt_of_le hw1 hg0
    have m2 := hM2.after hB1
    clear hM2 k1 q0 q1 hg0 hw1 hgl
    obtain ⟨N, hN⟩ : ∃ N, N = pw n := ⟨_, rfl⟩
    have HN := Lib.hid hN
    have HM2 : Hid (scanS q n t 0 = (List.replicate N 0, t)) := Lib.hid (by rw [hN]; rfl)
    rw [← hN] at m2 hpos hpw hszc ⊢
    clear hN
    have hszc2 := hszc
    go_wp2
    go_loopw [7, 8] (fun rv mv wr => ∃ (k : Nat) (xs : List Int) (rest : By), k ≤ N ∧ mv = .int .i64 (k : Int) ∧ rv = .string ⟨rest.toArray⟩ ∧ Hid (scanS q n t k = (xs, rest)) ∧ rest.length ≤ 1000000000 ∧ Blk wr w.heap.size 28 #[.int .i64 (q : Int), .slice A n c] ∧ MkI w wr (some ⟨g, 0, none⟩) N c2 xs) (fun _ mv _ => N - (intOf mv).toNat)
    case atStart => exact ⟨0, _, t, Nat.zero_le _, rfl, rfl, HM2, ht, k2, m2⟩
    case round =>
      clear k2 m2 HM2
      obtain ⟨k, xs, rest, hk, rfl, rfl, HSC, hrl, k4, m4⟩ := hrel
      obtain ⟨q0, q1⟩ := k4.two
      go_wp2_with fail
      refine (hszc wr).mono ?_
      rintro e w5 ⟨rfl, hb5⟩
      have k5 := k4.below hb5 k4.lt
      have m5 := m4.below hb5
      clear hb5 k4 m4 q0 q1
      obtain ⟨q0, q1⟩ := k5.two
      by_cases hkN : k < N
      · cases hre : rest.isEmpty
        · have HNE : Hid (rest ≠ []) := Lib.hid (by intro e; rw [e] at hre; exact absurd hre (by decide))
          go_wp2
          go_loopw [7, 9] (fun rv av wr => ∃ (i : Nat), 1 ≤ i ∧ i ≤ q ∧ av = .int .i64 (i : Int) ∧ rv = .string ⟨rest.toArray⟩ ∧ Hid (findS q n t rest k (q - 1) 1 = findS q n t rest k (q - i) i) ∧ Blk wr w.heap.size 28 #[.int .i64 (q : Int), .slice A n c] ∧ MkI w wr (some ⟨g, 0, none⟩) N c2 xs) (fun _ av _ => q - (intOf av).toNat)
          case atStart => exact ⟨1, Nat.le_refl _, by omega, rfl, rfl, Lib.hid rfl, k5, m5⟩
          case round =>
            clear k5 m5 q0 q1
            obtain ⟨i, hi0, hi1, rfl, rfl, HF, k4, m4⟩ := hrel
            obtain ⟨q0, q1⟩ := k4.two
            by_cases hiq : i < q
            · have htm := l19Term_any (q : Int) (i : Int) n k wr HP.out (by omega) (by omega) hd2 (by rw [← HN.out]; exact hkN)
              have htne := (term_facts HP.out hd2 (show k < pw n by rw [← HN.out]; exact hkN) (show (0 : Int) ≤ (i : Int) by omega) (by omega)).1.1
              have htle := termL_le HP.out (show (0 : Int) ≤ (i : Int) by omega) (by omega) hd2 (m := k)
              obtain ⟨T, hT⟩ : ∃ T, T = termL q n k i := ⟨_, rfl⟩
              rw [← hT] at htm htne htle
              have HT := Lib.hid hT
              clear hT
              go_wp2_with fail
              refine htm.mono ?_
              rintro e w6 ⟨rfl, hb6⟩
              have k6 := k4.below hb6 k4.lt
              have m6 := m4.below hb6
              clear hb6 k4 m4 q0 q1 htm
              obtain ⟨q0, q1⟩ := k6.two
              obtain ⟨cb, tr, htc⟩ : ∃ c r, T = c :: r := by cases T with
                | nil => exact absurd rfl htne
                | cons c r => exact ⟨c, r, rfl⟩
              have hix0 : ∀ wx, (Instr.index 9 (.string ⟨T.toArray⟩) (.int .i64 0)).run Tryz.prog wx = .ok (.int .u8 (cb.toNat : Int)) wx := fun wx => by rw [htc]; exact str_at0 wx (cb :: tr) (by simp)
              have HTC := Lib.hid htc
              clear htne htc
              have hlr := fun wx ty => str_len wx ty rest
              cases hrt : (rest == t)
              · have HRT : Hid (decide (rest = t) = false) := Lib.hid (by rw [decide_eq_false_iff_not]; intro e; rw [e] at hrt; simp at hrt)
                by_cases h45 : cb.toNat = 45
                · have d45 : ((cb.toNat : Int) == 45) = true := by rw [beq_iff_eq]; omega
                  have HU : Hid (candS (decide (rest = t)) (termL q n k i) = T) := Lib.hid (by
                    have hc : cb = 45 := by apply UInt8.toNat_inj.1; rw [h45]; rfl
                    rw [HRT.out, ← HT.out]; show sgnT T = T; unfold sgnT; rw [HTC.out, hc]; rfl)
                  obtain ⟨u, rfl⟩ : ∃ u, u = T := ⟨_, rfl⟩
                  have hlu := fun wx ty => str_len wx ty u
                  clear h45
                  have hmf := matFacts rest u
                  rcases hmf with ⟨d1, hmt⟩ | ⟨d1, ⟨pf, hsl, d2⟩, hmt⟩ | ⟨d1, ⟨pf, hsl, d2⟩, ⟨d3, d4⟩, hsf, hmt⟩ | ⟨d1, ⟨pf, hsl, d2⟩, ⟨d3, d4⟩, ⟨eb, hix, d5⟩, hsf, hmt⟩ | ⟨d1, ⟨pf, hsl, d2⟩, ⟨d3, d4⟩, ⟨eb, hix, d5, d6⟩, hsf, hmt⟩ | ⟨d1, ⟨pf, hsl, d2⟩, ⟨d3, d4⟩, ⟨eb, hix, d5, d6⟩, hmt⟩
                  · have HMT := Lib.hid hmt
                    clear hmt
                    have HF2 : Hid (findS q n t rest k (q - 1) 1 = findS q n t rest k (q - (i + 1)) (i + 1)) := Lib.hid (by rw [HF.out, show q - i = (q - (i + 1)) + 1 by omega, findS_step, HU.out, if_neg (by rw [HMT.out]; decide)])
                    go_wp2
                    go_roundw
                    case rel =>
                      go_light
                      exact ⟨i + 1, by omega, by omega, by go_num, rfl, HF2, k6, m6⟩
                    case measure =>
                      go_light
                      simp [intOf]; omega
                  · have HMT := Lib.hid hmt
                    clear hmt
                    have HF2 : Hid (findS q n t rest k (q - 1) 1 = findS q n t rest k (q - (i + 1)) (i + 1)) := Lib.hid (by rw [HF.out, show q - i = (q - (i + 1)) + 1 by omega, findS_step, HU.out, if_neg (by rw [HMT.out]; decide)])
                    go_wp2
                    go_roundw
                    case rel =>
                      go_light
                      exact ⟨i + 1, by omega, by omega, by go_num, rfl, HF2, k6, m6⟩
                    case measure =>
                      go_light
                      simp [intOf]; omega
                  · have HMT := Lib.hid hmt
                    clear hmt
                    have HSC2 : Hid (scanS q n t (k + 1) = (xs.set k (i : Int), rest.drop u.length)) := Lib.hid (scan_some HSC.out HNE.out (by
                      rw [show ((q : Int) - 1).toNat = q - 1 by omega, HF.out, show q - i = (q - (i + 1)) + 1 by omega, findS_step, HU.out, if_pos HMT.out]) HU.out)
                    have hrl2 : (rest.drop u.length).length ≤ 1000000000 := by rw [List.length_drop]; omega
                    obtain ⟨r2, hr2⟩ : ∃ r, r = rest.drop u.length := ⟨_, rfl⟩
                    rw [← hr2] at HSC2 hsf hrl2
                    obtain ⟨hoc, hof⟩ := mkI_at m6 hkN
                    have m7 := (m6.set k (.int .i64 (i : Int))).1
                    rw [ints_set] at m7
                    have k7 := k6.far (p := ⟨g, k, none⟩) (Nat.ne_of_lt hg) (.int .i64 (i : Int))
                    have M7 := Lib.hid m7
                    have K7 := Lib.hid k7
                    clear m7 k7 hr2
                    go_wp2
                    go_roundw
                    case rel =>
                      go_light
                      exact ⟨k + 1, xs.set k (i : Int), r2, by omega, by go_num, rfl, HSC2, hrl2, K7.out, M7.out⟩
                    case measure =>
                      go_light
                      simp [intOf]; omega
                  · have HMT := Lib.hid hmt
                    clear hmt
                    have HSC2 : Hid (scanS q n t (k + 1) = (xs.set k (i : Int), rest.drop u.length)) := Lib.hid (scan_some HSC.out HNE.out (by
                      rw [show ((q : Int) - 1).toNat = q - 1 by omega, HF.out, show q - i = (q - (i + 1)) + 1 by omega, findS_step, HU.out, if_pos HMT.out]) HU.out)
                    have hrl2 : (rest.drop u.length).length ≤ 1000000000 := by rw [List.length_drop]; omega
                    obtain ⟨r2, hr2⟩ : ∃ r, r = rest.drop u.length := ⟨_, rfl⟩
                    rw [← hr2] at HSC2 hsf hrl2
                    obtain ⟨hoc, hof⟩ := mkI_at m6 hkN
                    have m7 := (m6.set k (.int .i64 (i : Int))).1
                    rw [ints_set] at m7
                    have k7 := k6.far (p := ⟨g, k, none⟩) (Nat.ne_of_lt hg) (.int .i64 (i : Int))
                    have M7 := Lib.hid m7
                    have K7 := Lib.hid k7
                    clear m7 k7 hr2
                    go_wp2
                    go_roundw
                    case rel =>
                      go_light
                      exact ⟨k + 1, xs.set k (i : Int), r2, by omega, by go_num, rfl, HSC2, hrl2, K7.out, M7.out⟩
                    case measure =>
                      go_light
                      simp [intOf]; omega
                  · have HMT := Lib.hid hmt
                    clear hmt
                    have HSC2 : Hid (scanS q n t (k + 1) = (xs.set k (i : Int), rest.drop u.length)) := Lib.hid (scan_some HSC.out HNE.out (by
                      rw [show ((q : Int) - 1).toNat = q - 1 by omega, HF.out, show q - i = (q - (i + 1)) + 1 by omega, findS_step, HU.out, if_pos HMT.out]) HU.out)
                    have hrl2 : (rest.drop u.length).length ≤ 1000000000 := by rw [List.length_drop]; omega
                    obtain ⟨r2, hr2⟩ : ∃ r, r = rest.drop u.length := ⟨_, rfl⟩
                    rw [← hr2] at HSC2 hsf hrl2
                    obtain ⟨hoc, hof⟩ := mkI_at m6 hkN
                    have m7 := (m6.set k (.int .i64 (i : Int))).1
                    rw [ints_set] at m7
                    have k7 := k6.far (p := ⟨g, k, none⟩) (Nat.ne_of_lt hg) (.int .i64 (i : Int))
                    have M7 := Lib.hid m7
                    have K7 := Lib.hid k7
                    clear m7 k7 hr2
                    go_wp2
                    go_roundw
                    case rel =>
                      go_light
                      exact ⟨k + 1, xs.set k (i : Int), r2, by omega, by go_num, rfl, HSC2, hrl2, K7.out, M7.out⟩
                    case measure =>
                      go_light
                      simp [intOf]; omega
                  · have HMT := Lib.hid hmt
                    clear hmt
                    have HF2 : Hid (findS q n t rest k (q - 1) 1 = findS q n t rest k (q - (i + 1)) (i + 1)) := Lib.hid (by rw [HF.out, show q - i = (q - (i + 1)) + 1 by omega, findS_step, HU.out, if_neg (by rw [HMT.out]; decide)])
                    go_wp2
                    go_roundw
                    case rel =>
                      go_light
                      exact ⟨i + 1, by omega, by omega, by go_num, rfl, HF2, k6, m6⟩
                    case measure =>
                      go_light
                      simp [intOf]; omega
                · have d45 : ((cb.toNat : Int) == 45) = false := by rw [beq_eq_false_iff_ne]; omega
                  have hcat := fun wx => cat_big (P := Tryz.prog) wx [43] T (by simp only [List.length_cons, List.length_nil]; omega)
                  have HU : Hid (candS (decide (rest = t)) (termL q n k i) = [43] ++ T) := Lib.hid (by
                    have hc : cb ≠ 45 := fun e => h45 (by rw [e]; rfl)
                    rw [HRT.out, ← HT.out]; show sgnT T = 43 :: T; unfold sgnT; rw [HTC.out, if_neg (by simp [hc])])
                  obtain ⟨u, hu⟩ : ∃ u, u = [43] ++ T := ⟨_, rfl⟩
                  rw [← hu] at HU hcat
                  have hlu := fun wx ty => str_len wx ty u
                  clear h45 hu
                  have hmf := matFacts rest u
                  rcases hmf with ⟨d1, hmt⟩ | ⟨d1, ⟨pf, hsl, d2⟩, hmt⟩ | ⟨d1, ⟨pf, hsl, d2⟩, ⟨d3, d4⟩, hsf, hmt⟩ | ⟨d1, ⟨pf, hsl, d2⟩, ⟨d3, d4⟩, ⟨eb, hix, d5⟩, hsf, hmt⟩ | ⟨d1, ⟨pf, hsl, d2⟩, ⟨d3, d4⟩, ⟨eb, hix, d5, d6⟩, hsf, hmt⟩ | ⟨d1, ⟨pf, hsl, d2⟩, ⟨d3, d4⟩, ⟨eb, hix, d5, d6⟩, hmt⟩
                  · have HMT := Lib.hid hmt
                    clear hmt
                    have HF2 : Hid (findS q n t rest k (q - 1) 1 = findS q n t rest k (q - (i + 1)) (i + 1)) := Lib.hid (by rw [HF.out, show q - i = (q - (i + 1)) + 1 by omega, findS_step, HU.out, if_neg (by rw [HMT.out]; decide)])
                    go_wp2
                    go_roundw
                    case rel =>
                      go_light
                      exact ⟨i + 1, by omega, by omega, by go_num, rfl, HF2, k6, m6⟩
                    case measure =>
                      go_light
                      simp [intOf]; omega
                  · have HMT := Lib.hid hmt
                    clear hmt
                    have HF2 : Hid (findS q n t rest k (q - 1) 1 = findS q n t rest k (q - (i + 1)) (i + 1)) := Lib.hid (by rw [HF.out, show q - i = (q - (i + 1)) + 1 by omega, findS_step, HU.out, if_neg (by rw [HMT.out]; decide)])
                    go_wp2
                    go_roundw
                    case rel =>
                      go_light
                      exact ⟨i + 1, by omega, by omega, by go_num, rfl, HF2, k6, m6⟩
                    case measure =>
                      go_light
                      simp [intOf]; omega
                  · have HMT := Lib.hid hmt
                    clear hmt
                    have HSC2 : Hid (scanS q n t (k + 1) = (xs.set k (i : Int), rest.drop u.length)) := Lib.hid (scan_some HSC.out HNE.out (by
                      rw [show ((q : Int) - 1).toNat = q - 1 by omega, HF.out, show q - i = (q - (i + 1)) + 1 by omega, findS_step, HU.out, if_pos HMT.out]) HU.out)
                    have hrl2 : (rest.drop u.length).length ≤ 1000000000 := by rw [List.length_drop]; omega
                    obtain ⟨r2, hr2⟩ : ∃ r, r = rest.drop u.length := ⟨_, rfl⟩
                    rw [← hr2] at HSC2 hsf hrl2
                    obtain ⟨hoc, hof⟩ := mkI_at m6 hkN
                    have m7 := (m6.set k (.int .i64 (i : Int))).1
                    rw [ints_set] at m7
                    have k7 := k6.far (p := ⟨g, k, none⟩) (Nat.ne_of_lt hg) (.int .i64 (i : Int))
                    have M7 := Lib.hid m7
                    have K7 := Lib.hid k7
                    clear m7 k7 hr2
                    go_wp2
                    go_roundw
                    case rel =>
                      go_light
                      exact ⟨k + 1, xs.set k (i : Int), r2, by omega, by go_num, rfl, HSC2, hrl2, K7.out, M7.out⟩
                    case measure =>
                      go_light
                      simp [intOf]; omega
                  · have HMT := Lib.hid hmt
                    clear hmt
                    have HSC2 : Hid (scanS q n t (k + 1) = (xs.set k (i : Int), rest.drop u.length)) := Lib.hid (scan_some HSC.out HNE.out (by
                      rw [show ((q : Int) - 1).toNat = q - 1 by omega, HF.out, show q - i = (q - (i + 1)) + 1 by omega, findS_step, HU.out, if_pos HMT.out]) HU.out)
                    have hrl2 : (rest.drop u.length).length ≤ 1000000000 := by rw [List.length_drop]; omega
                    obtain ⟨r2, hr2⟩ : ∃ r, r = rest.drop u.length := ⟨_, rfl⟩
                    rw [← hr2] at HSC2 hsf hrl2
                    obtain ⟨hoc, hof⟩ := mkI_at m6 hkN
                    have m7 := (m6.set k (.int .i64 (i : Int))).1
                    rw [ints_set] at m7
                    have k7 := k6.far (p := ⟨g, k, none⟩) (Nat.ne_of_lt hg) (.int .i64 (i : Int))
                    have M7 := Lib.hid m7
                    have K7 := Lib.hid k7
                    clear m7 k7 hr2
                    go_wp2
                    go_roundw
                    case rel =>
                      go_light
                      exact ⟨k + 1, xs.set k (i : Int), r2, by omega, by go_num, rfl, HSC2, hrl2, K7.out, M7.out⟩
                    case measure =>
                      go_light
                      simp [intOf]; omega
                  · have HMT := Lib.hid hmt
                    clear hmt
                    have HSC2 : Hid (scanS q n t (k + 1) = (xs.set k (i : Int), rest.drop u.length)) := Lib.hid (scan_some HSC.out HNE.out (by
                      rw [show ((q : Int) - 1).toNat = q - 1 by omega, HF.out, show q - i = (q - (i + 1)) + 1 by omega, findS_step, HU.out, if_pos HMT.out]) HU.out)
                    have hrl2 : (rest.drop u.length).length ≤ 1000000000 := by rw [List.length_drop]; omega
                    obtain ⟨r2, hr2⟩ : ∃ r, r = rest.drop u.length := ⟨_, rfl⟩
                    rw [← hr2] at HSC2 hsf hrl2
                    obtain ⟨hoc, hof⟩ := mkI_at m6 hkN
                    have m7 := (m6.set k (.int .i64 (i : Int))).1
                    rw [ints_set] at m7
                    have k7 := k6.far (p := ⟨g, k, none⟩) (Nat.ne_of_lt hg) (.int .i64 (i : Int))
                    have M7 := Lib.hid m7
                    have K7 := Lib.hid k7
                    clear m7 k7 hr2
                    go_wp2
                    go_roundw
                    case rel =>
                      go_light
                      exact ⟨k + 1, xs.set k (i : Int), r2, by omega, by go_num, rfl, HSC2, hrl2, K7.out, M7.out⟩
                    case measure =>
                      go_light
                      simp [intOf]; omega
                  · have HMT := Lib.hid hmt
                    clear hmt
                    have HF2 : Hid (findS q n t rest k (q - 1) 1 = findS q n t rest k (q - (i + 1)) (i + 1)) := Lib.hid (by rw [HF.out, show q - i = (q - (i + 1)) + 1 by omega, findS_step, HU.out, if_neg (by rw [HMT.out]; decide)])
                    go_wp2
                    go_roundw
                    case rel =>
                      go_light
                      exact ⟨i + 1, by omega, by omega, by go_num, rfl, HF2, k6, m6⟩
                    case measure =>
                      go_light
                      simp [intOf]; omega
              · have HU : Hid (candS (decide (rest = t)) (termL q n k i) = T) := Lib.hid (by rw [decide_eq_true (by simpa using hrt), ← HT.out]; rfl)
                obtain ⟨u, rfl⟩ : ∃ u, u = T := ⟨_, rfl⟩
                have hlu := fun wx ty => str_len wx ty u
                have hmf := matFacts rest u
                rcases hmf with ⟨d1, hmt⟩ | ⟨d1, ⟨pf, hsl, d2⟩, hmt⟩ | ⟨d1, ⟨pf, hsl, d2⟩, ⟨d3, d4⟩, hsf, hmt⟩ | ⟨d1, ⟨pf, hsl, d2⟩, ⟨d3, d4⟩, ⟨eb, hix, d5⟩, hsf, hmt⟩ | ⟨d1, ⟨pf, hsl, d2⟩, ⟨d3, d4⟩, ⟨eb, hix, d5, d6⟩, hsf, hmt⟩ | ⟨d1, ⟨pf, hsl, d2⟩, ⟨d3, d4⟩, ⟨eb, hix, d5, d6⟩, hmt⟩
                · have HMT := Lib.hid hmt
                  clear hmt
                  have HF2 : Hid (findS q n t rest k (q - 1) 1 = findS q n t rest k (q - (i + 1)) (i + 1)) := Lib.hid (by rw [HF.out, show q - i = (q - (i + 1)) + 1 by omega, findS_step, HU.out, if_neg (by rw [HMT.out]; decide)])
                  go_wp2
                  go_roundw
                  case rel =>
                    go_light
                    exact ⟨i + 1, by omega, by omega, by go_num, rfl, HF2, k6, m6⟩
                  case measure =>
                    go_light
                    simp [intOf]; omega
                · have HMT := Lib.hid hmt
                  clear hmt
                  have HF2 : Hid (findS q n t rest k (q - 1) 1 = findS q n t rest k (q - (i + 1)) (i + 1)) := Lib.hid (by rw [HF.out, show q - i = (q - (i + 1)) + 1 by omega, findS_step, HU.out, if_neg (by rw [HMT.out]; decide)])
                  go_wp2
                  go_roundw
                  case rel =>
                    go_light
                    exact ⟨i + 1, by omega, by omega, by go_num, rfl, HF2, k6, m6⟩
                  case measure =>
                    go_light
                    simp [intOf]; omega
                · have HMT := Lib.hid hmt
                  clear hmt
                  have HSC2 : Hid (scanS q n t (k + 1) = (xs.set k (i : Int), rest.drop u.length)) := Lib.hid (scan_some HSC.out HNE.out (by
                    rw [show ((q : Int) - 1).toNat = q - 1 by omega, HF.out, show q - i = (q - (i + 1)) + 1 by omega, findS_step, HU.out, if_pos HMT.out]) HU.out)
                  have hrl2 : (rest.drop u.length).length ≤ 1000000000 := by rw [List.length_drop]; omega
                  obtain ⟨r2, hr2⟩ : ∃ r, r = rest.drop u.length := ⟨_, rfl⟩
                  rw [← hr2] at HSC2 hsf hrl2
                  obtain ⟨hoc, hof⟩ := mkI_at m6 hkN
                  have m7 := (m6.set k (.int .i64 (i : Int))).1
                  rw [ints_set] at m7
                  have k7 := k6.far (p := ⟨g, k, none⟩) (Nat.ne_of_lt hg) (.int .i64 (i : Int))
                  have M7 := Lib.hid m7
                  have K7 := Lib.hid k7
                  clear m7 k7 hr2
                  go_wp2
                  go_roundw
                  case rel =>
                    go_light
                    exact ⟨k + 1, xs.set k (i : Int), r2, by omega, by go_num, rfl, HSC2, hrl2, K7.out, M7.out⟩
                  case measure =>
                    go_light
                    simp [intOf]; omega
                · have HMT := Lib.hid hmt
                  clear hmt
                  have HSC2 : Hid (scanS q n t (k + 1) = (xs.set k (i : Int), rest.drop u.length)) := Lib.hid (scan_some HSC.out HNE.out (by
                    rw [show ((q : Int) - 1).toNat = q - 1 by omega, HF.out, show q - i = (q - (i + 1)) + 1 by omega, findS_step, HU.out, if_pos HMT.out]) HU.out)
                  have hrl2 : (rest.drop u.length).length ≤ 1000000000 := by rw [List.length_drop]; omega
                  obtain ⟨r2, hr2⟩ : ∃ r, r = rest.drop u.length := ⟨_, rfl⟩
                  rw [← hr2] at HSC2 hsf hrl2
                  obtain ⟨hoc, hof⟩ := mkI_at m6 hkN
                  have m7 := (m6.set k (.int .i64 (i : Int))).1
                  rw [ints_set] at m7
                  have k7 := k6.far (p := ⟨g, k, none⟩) (Nat.ne_of_lt hg) (.int .i64 (i : Int))
                  have M7 := Lib.hid m7
                  have K7 := Lib.hid k7
                  clear m7 k7 hr2
                  go_wp2
                  go_roundw
                  case rel =>
                    go_light
                    exact ⟨k + 1, xs.set k (i : Int), r2, by omega, by go_num, rfl, HSC2, hrl2, K7.out, M7.out⟩
                  case measure =>
                    go_light
                    simp [intOf]; omega
                · have HMT := Lib.hid hmt
                  clear hmt
                  have HSC2 : Hid (scanS q n t (k + 1) = (xs.set k (i : Int), rest.drop u.length)) := Lib.hid (scan_some HSC.out HNE.out (by
                    rw [show ((q : Int) - 1).toNat = q - 1 by omega, HF.out, show q - i = (q - (i + 1)) + 1 by omega, findS_step, HU.out, if_pos HMT.out]) HU.out)
                  have hrl2 : (rest.drop u.length).length ≤ 1000000000 := by rw [List.length_drop]; omega
                  obtain ⟨r2, hr2⟩ : ∃ r, r = rest.drop u.length := ⟨_, rfl⟩
                  rw [← hr2] at HSC2 hsf hrl2
                  obtain ⟨hoc, hof⟩ := mkI_at m6 hkN
                  have m7 := (m6.set k (.int .i64 (i : Int))).1
                  rw [ints_set] at m7
                  have k7 := k6.far (p := ⟨g, k, none⟩) (Nat.ne_of_lt hg) (.int .i64 (i : Int))
                  have M7 := Lib.hid m7
                  have K7 := Lib.hid k7
                  clear m7 k7 hr2
                  go_wp2
                  go_roundw
                  case rel =>
                    go_light
                    exact ⟨k + 1, xs.set k (i : Int), r2, by omega, by go_num, rfl, HSC2, hrl2, K7.out, M7.out⟩
                  case measure =>
                    go_light
                    simp [intOf]; omega
                · have HMT := Lib.hid hmt
                  clear hmt
                  have HF2 : Hid (findS q n t rest k (q - 1) 1 = findS q n t rest k (q - (i + 1)) (i + 1)) := Lib.hid (by rw [HF.out, show q - i = (q - (i + 1)) + 1 by omega, findS_step, HU.out, if_neg (by rw [HMT.out]; decide)])
                  go_wp2
                  go_roundw
                  case rel =>
                    go_light
                    exact ⟨i + 1, by omega, by omega, by go_num, rfl, HF2, k6, m6⟩
                  case measure =>
                    go_light
                    simp [intOf]; omega
            · obtain rfl : i = q := by omega
              have HSC2 : Hid (scanS i n t (k + 1) = (xs, rest)) := Lib.hid (scan_none HSC.out (by rw [show ((i : Int) - 1).toNat = i - 1 by omega, HF.out, Nat.sub_self]; rfl))
              go_wp2
              go_roundw
              case rel =>
                go_light
                exact ⟨k + 1, xs, rest, by omega, by go_num, rfl, HSC2, hrl, k4, m4⟩
              case measure =>
                go_light
                simp [intOf]; omega
        · have HXS : Hid (parS q n t = xs) := Lib.hid (by
            have h := HSC.out
            rw [List.isEmpty_iff.1 hre] at h
            have h2 := scan_nil h (N - k)
            rw [show k + (N - k) = N by omega, HN.out] at h2
            unfold parS; rw [h2])
          have hmu : MuL q n xs := by rw [← HXS.out]; exact scanS_mu (by omega) t (pw n)
          have hmt := l19Text_any (q : Int) A (some ⟨g, 0, none⟩) n c c2 xs w5 HP.out hd2 hmu.2 hmu.1 (by rw [← HN.out]; exact m5.rd)
          have hr2 := HR.out
          rw [HXS.out] at hr2
          rw [← HN.out] at hmt
          clear HSC hmu HXS
          obtain ⟨z, hz⟩ : ∃ z, z = textL q n xs := ⟨_, rfl⟩
          rw [← hz] at hmt hr2
          clear hz
          by_cases hzt : z = t
          · subst hzt
            rw [if_pos rfl] at hr2
            have HR2 := Lib.hid hr2
            clear hr2
            go_wp2_with fail
            refine hmt.mono ?_
            rintro e w7 ⟨rfl, hb7⟩
            have m7 := m5.below hb7
            clear hmt hb7 k5 m5 q0 q1
            go_wp2
            go_ret2
            rw [HR2.out]
            exact ⟨_, _, _, rfl, m7⟩
          · rw [if_neg hzt] at hr2
            have hne : (z == t) = false := by simpa using hzt
            have HR2 := Lib.hid hr2
            clear hr2 hzt
            go_wp2_with fail
            refine hmt.mono ?_
            rintro e w7 ⟨rfl, hb7⟩
            have m7 := m5.below hb7
            clear hmt hb7 k5 m5 q0 q1
            go_wp2
            go_ret2
            rw [HR2.out]
            exact ⟨_, _, _, rfl, Mk.nil m7.b⟩
      · have HXS : Hid (parS q n t = xs) := Lib.hid (by
          have h := HSC.out
          rw [show k = pw n by rw [← HN.out]; omega] at h
          unfold parS; rw [h])
        have hmu : MuL q n xs := by rw [← HXS.out]; exact scanS_mu (by omega) t (pw n)
        have hmt := l19Text_any (q : Int) A (some ⟨g, 0, none⟩) n c c2 xs w5 HP.out hd2 hmu.2 hmu.1 (by rw [← HN.out]; exact m5.rd)
        have hr2 := HR.out
        rw [HXS.out] at hr2
        rw [← HN.out] at hmt
        clear HSC hmu HXS
        obtain ⟨z, hz⟩ : ∃ z, z = textL q n xs := ⟨_, rfl⟩
        rw [← hz] at hmt hr2
        clear hz
        by_cases hzt : z = t
        · subst hzt
          rw [if_pos rfl] at hr2
          have HR2 := Lib.hid hr2
          clear hr2
          go_wp2_with fail
          refine hmt.mono ?_
          rintro e w7 ⟨rfl, hb7⟩
          have m7 := m5.below hb7
          clear hmt hb7 k5 m5 q0 q1
          go_wp2
          go_ret2
          rw [HR2.out]
          exact ⟨_, _, _, rfl, m7⟩
        · rw [if_neg hzt] at hr2
          have hne : (z == t) = false := by simpa using hzt
          have HR2 := Lib.hid hr2
          clear hr2 hzt
          go_wp2_with fail
          refine hmt.mono ?_
          rintro e w7 ⟨rfl, hb7⟩
          have m7 := m5.below hb7
          clear hmt hb7 k5 m5 q0 q1
          go_wp2
          go_ret2
          rw [HR2.out]
          exact ⟨_, _, _, rfl, Mk.nil m7.b⟩
end Go.Proofs.YticofgmmjecleaaGreatDoor
namespace Go.Proofs.YticofgmmjecleaaGreatDoor
open Go.RowKit
set_option maxHeartbeats 400000 in
set_option maxRecDepth 8000 in
theorem likeInts_any (A B : Option Addr) (n m c d : Nat) (xs ys : List Int) (w : World) (hn : n ≤ 1099511627776) (hm : m ≤ 1099511627776)
    (ha : Rd w A n (ints xs)) (hb : Rd w B m (ints ys)) :
    Calls Tryz.prog 31 #[.slice A n c, .slice B m d] w fun e w' => e = .returned (.bool (decide (xs = ys))) ∧ ∃ j, w' = w.drewN j := by
  have hxl : xs.length = n := by have := ha.1; rwa [ints_length] at this
  have hyl : ys.length = m := by have := hb.1; rwa [ints_length] at this
  by_cases hnm : n = m
  · subst hnm
    have Hx := Lib.hid hxl; clear hxl
    have Hy := Lib.hid hyl; clear hyl
    go_enter Tryz.func31, Tryz.ntmps31
    go_wp2
    go_loopw [5] (fun i wr => ∃ k j : Nat, k ≤ n ∧ i = .int .i64 k ∧ xs.take k = ys.take k ∧ wr = w.drewN j) (fun i _ => n - (intOf i).toNat)
    case atStart => exact ⟨0, 0, by omega, rfl, by simp, rfl⟩
    case round =>
      obtain ⟨k, j, hk, rfl, hxy, rfl⟩ := hrel
      have H := Lib.hid hxy; clear hxy
      by_cases hlt : k < n
      · obtain ⟨g, o, rfl, hx, hcx⟩ := ha.int hlt
        obtain ⟨g', o', rfl, hy, hcy⟩ := hb.int hlt
        clear ha hb
        go_wp2
        go_quiet (fail)
        go_wp2
        · go_ret
          exact ⟨ret_bool (ne_of_get xs ys k hx hy (by assumption)).symm, _, World.drewN_drewN _ _ _⟩
        · go_roundw
          case rel => exact ⟨k + 1, _, by omega, by go_num, take_succ_eq xs ys k hx hy H.out (by simpa using (by assumption : (xs[k] != ys[k]) = false)), rfl⟩
          case measure => simp [intOf]; omega
      · go_wp2
        go_ret
        refine ⟨ret_bool ?_, _, rfl⟩
        have := H.out
        rw [List.take_of_length_le (by rw [Hx.out]; omega), List.take_of_length_le (by rw [Hy.out]; omega)] at this
        rw [this]; simp
  · have hne : decide (xs = ys) = false := by
      rw [decide_eq_false_iff_not]; rintro rfl; omega
    have Hne := Lib.hid hne; clear hne hxl hyl
    have hb0 : ((n : Int) != (m : Int)) = true := by rw [bne_iff_ne]; omega
    go_enter Tryz.func31, Tryz.ntmps31
    go_wp2
    go_ret
    exact ⟨ret_bool Hne.out.symm, 0, rfl⟩
end Go.Proofs.YticofgmmjecleaaGreatDoor
namespace Go.Proofs.YticofgmmjecleaaGreatDoor
open Go.RowKit
theorem big_any (A : Option Addr) (n c : Nat) (w : World) :
    Calls Tryz.prog 25 #[.slice A n c] w fun e w' => e = .returned (.bool (decide (4096 < n))) ∧ w = w' := by
  go_enter Tryz.func25, Tryz.ntmps25
  by_cases h : 4096 < n
  · have d1 : decide ((4096 : Int) < (n : Int)) = true := by rw [decide_eq_true_eq]; omega
    go_wp2
    go_ret
    exact ⟨ret_bool (by rw [eq_comm, decide_eq_true_eq]; exact h), rfl⟩
  · have d1 : decide ((4096 : Int) < (n : Int)) = false := by rw [decide_eq_false_iff_not]; omega
    go_wp2
    go_ret
    exact ⟨ret_bool (by rw [eq_comm, decide_eq_false_iff_not]; exact h), rfl⟩
end Go.Proofs.YticofgmmjecleaaGreatDoor
namespace Go.Proofs.YticofgmmjecleaaGreatDoor
section
variable {P : Int} {sq xs ys : List Int}
end
theorem codeM_mk {P : Int} {sq : List Int} {ms : List (List Int)} (h1 : isSp P sq = true) (h : ∀ ys ∈ ms, ys.length = pw sq.length ∧ NumsL P ys) : codeM P sq ms = 0 := by
  unfold codeM
  rw [if_pos h1, if_neg]
  intro hh
  obtain ⟨ys, hy, e⟩ := List.any_eq_true.1 hh
  obtain ⟨h2, h3⟩ := h ys hy
  have h4 : isMu P sq ys = true := by
    unfold isMu nums
    rw [h2, Bool.and_eq_true]
    refine ⟨by simp, List.all_eq_true.2 fun x hx => ?_⟩
    have := h3 x hx
    simp [inR]
    omega
  rw [h4] at e
  simp at e
end Go.Proofs.YticofgmmjecleaaGreatDoor
namespace Go.Proofs.YticofgmmjecleaaGreatDoor
open Go Go.RowKit
theorem maskF_eq {n : Nat} {t : By} : ∀ {k i m : Nat}, maskF n t k i = some m → nameL n m = t
  | 0, _, _, h => by cases h
  | k + 1, i, m, h => by
    rw [maskF_step] at h
    split at h
    · rename_i e; rw [← Option.some.inj h]; exact e
    · exact maskF_eq h
theorem parR_text {P : Int} {sq xs : List Int} (hsp : isSp P sq = true) (hl : xs.length = pw sq.length) (hx : NumsL P xs) : parR P sq (textL P sq.length xs) = (xs, 0) := by
  obtain ⟨hP, hd1, hd2, hnum⟩ := isSp_dim hsp
  unfold parR
  rw [if_pos hsp, parI_text hP hd2 ⟨hl, hx⟩, if_pos rfl]
theorem parR_zero {P : Int} {sq ys : List Int} {t : By} (h : parR P sq t = (ys, 0)) : isSp P sq = true ∧ MuL P sq.length ys ∧ textL P sq.length ys = t := by
  unfold parR at h
  split at h
  · rename_i hsp
    obtain ⟨hP, hd1, hd2, hnum⟩ := isSp_dim hsp
    have hge := isP_ge hP
    split at h
    · rename_i e
      have e1 : parI P sq.length t = ys := congrArg Prod.fst h
      rw [e1] at e
      exact ⟨hsp, by rw [← e1]; exact parI_mu (by omega) t, e⟩
    · exact absurd (congrArg Prod.snd h) (by show (6 : Int) ≠ 0; decide)
  · exact absurd (congrArg Prod.snd h) (by show (1 : Int) ≠ 0; decide)
theorem monR_zero {P : Int} {sq : List Int} {t : By} (h : (monR P sq t).2 = 0) : isSp P sq = true ∧ ∃ m : Nat, (monR P sq t).1 = (m : Int) ∧ m < pw sq.length ∧ nameL sq.length m = t := by
  unfold monR at h ⊢
  cases hsp : isSp P sq
  · rw [hsp] at h
    exact absurd h (by show (1 : Int) ≠ 0; decide)
  · rw [hsp] at h
    cases hm : maskOf sq.length t with
    | none => rw [hm] at h; exact absurd h (by show (6 : Int) ≠ 0; decide)
    | some m => exact ⟨rfl, m, rfl, by have := maskF_lt hm; omega, maskF_eq hm⟩
set_option maxHeartbeats 12800000 in
set_option maxRecDepth 8000 in
theorem FnMultivectorTexts_any (B : Option Addr) (nb cb : Nat) (bs : List Int) (w : World) (r : Rd w B nb (bs.map (Value.int .u8))) (hbs : ∀ b ∈ bs, 0 ≤ b ∧ b < 256) (hbg : ∀ a, B = some a → a.block < w.heap.size) (he : Env w) :
    Calls Tryz.prog 6 #[.slice B nb cb] w fun e w' => e = .returned (.bool true) ∧ Below w.heap.size w w' := by
  have hbig := big_any B nb cb w
  by_cases hbb : 4096 < nb
  · rw [decide_eq_true hbb] at hbig
    go_enter Tryz.func6, Tryz.ntmps6
    go_wp2_with fail
    refine hbig.mono ?_
    rintro e w1 ⟨rfl, rfl⟩
    go_wp2
    go_ret
    exact ⟨rfl, Below.refl _ _⟩
  · rw [decide_eq_false hbb] at hbig
    have hdr := DrawMultivectorText_any B nb cb bs w (by omega) r hbs hbg
    go_enter Tryz.func6, Tryz.ntmps6
    go_wp2_with fail
    refine hbig.mono ?_
    rintro e w1 ⟨rfl, rfl⟩
    clear hbig
    go_wp2_with fail
    refine hdr.mono ?_
    rintro e w2 ⟨P, A, n, c, sq, A1, m1, c1, xs, rfl, hP17, hn7, hm100, ho, hx, hb2⟩
    have r0 := r
    have hE : ∀ w', Below w.heap.size w w' → Env w' := fun w' h => he.below h (Nat.le_refl _)
    have HE := Lib.hid hE
    have hW := Below.refl w.heap.size w
    clear hE hdr r
    replace hW := hW.trans (hb2.mono hW.size)
    clear hb2
    have hA : Below w2.heap.size w2 (w2.alloc (.cells #[.int .i64 P, .slice A n c] 28)) := (Below.refl _ _).alloc (Nat.le_refl _) _
    have kk : Blk (w2.alloc (.cells #[.int .i64 P, .slice A n c] 28)) w2.heap.size 28 #[.int .i64 P, .slice A n c] := Blk.new _ _ _
    have o3 := ho.below hA
    have x3 := hx.below hA
    replace hW := hW.trans (hA.mono hW.size)
    clear hA ho hx
    obtain ⟨V, hV⟩ : ∃ V, V = mtxR P sq xs := ⟨_, rfl⟩
    have HV := Lib.hid hV
    clear hV
    have hcap := x3.cap
    obtain ⟨q0, q1⟩ := kk.two
    have hcall := MultivectorText_any P A n c sq A1 m1 c1 xs (w2.alloc (.cells #[.int .i64 P, .slice A n c] 28)) (by omega) (by omega) o3.rd x3.rd hcap (HE.out _ hW)
    rw [← HV.out] at hcall
    go_wp2_with fail
    refine hcall.mono ?_
    rintro e w4 ⟨rfl, hb7⟩
    have hbb := hb7
    replace kk := kk.below hbb kk.lt
    replace o3 := o3.below hbb
    replace x3 := x3.below hbb
    replace hW := hW.trans (hbb.mono hW.size)
    clear hb7
    clear hcall hbb q0 q1
    obtain ⟨q0, q1⟩ := kk.two
    have hcall := specMultivectorText_any P A n c sq A1 m1 c1 xs w4 (by omega) (by omega) o3.rd x3.rd hcap
    rw [← HV.out] at hcall
    go_wp2_with fail
    refine hcall.mono ?_
    rintro e w5 ⟨rfl, hb7⟩
    have hbb := hb7
    replace kk := kk.below hbb kk.lt
    replace o3 := o3.below hbb
    replace x3 := x3.below hbb
    replace hW := hW.trans (hbb.mono hW.size)
    clear hb7
    clear hcall hbb q0 q1
    by_cases hc : codeM P sq [xs] = 0
    · have hv : V = (textL P n xs, 0) := by rw [HV.out]; unfold mtxR; rw [if_pos hc, o3.rd.lenI]
      subst hv
      dsimp only
      obtain ⟨HP, hp, hp2, hd1, hd2, hs0, hms⟩ := codeM_spec2 hc
      obtain ⟨hx1, hxs0⟩ := hms xs (by simp)
      have hsp := (codeM_sp hc).1
      have hln : sq.length = n := o3.rd.lenI
      have hxm : xs.length = m1 := x3.rd.lenI
      have hpr := parR_text hsp hx1 hxs0
      rw [hln] at hpr hx1 hd2
      obtain ⟨T, hT⟩ : ∃ T, T = textL P n xs := ⟨_, rfl⟩
      have htl : T.length ≤ 1281 := by rw [hT]; exact textL_le HP hd2 hx1 hxs0
      rw [← hT] at hpr ⊢
      have HPR := Lib.hid hpr
      have HXM := Lib.hid hxm
      have HCM := Lib.hid hc
      clear hT hpr hsp hln hxm hms hs0 hx1 hxs0 HV HP hc hd1 hd2
      obtain ⟨q0, q1⟩ := kk.two
      have hcall := ParseMultivector_any P A n c sq T w5 (by omega) (by omega) o3.rd (HE.out _ hW)
      rw [HPR.out] at hcall
      dsimp only at hcall
      go_wp2_with fail
      refine hcall.mono ?_
      rintro e w6 ⟨Ay, my, cy, rfl, hM⟩
      have hbb := hM.b
      replace kk := kk.below hbb kk.lt
      replace o3 := o3.below hbb
      replace x3 := x3.below hbb
      replace hW := hW.trans (hbb.mono hW.size)
      obtain rfl : my = m1 := by rw [← hM.rd.lenI]; exact HXM.out
      have y3 := hM.2
      clear hM
      clear hcall hbb q0 q1
      obtain ⟨q0, q1⟩ := kk.two
      have hcall := CountTerms_ok P A n c sq A1 my c1 xs w6 (by omega) (by omega) o3.rd x3.rd hcap HCM.out
      go_wp2_with fail
      refine hcall.mono ?_
      rintro e w7 ⟨rfl, hb7⟩
      have hbb := hb7
      replace kk := kk.below hbb kk.lt
      replace o3 := o3.below hbb
      replace x3 := x3.below hbb
      replace y3 := y3.below hbb
      replace hW := hW.trans (hbb.mono hW.size)
      clear hb7
      clear hcall hbb q0 q1
      obtain ⟨z0, hz0⟩ : ∃ z, z = nzTo xs my := ⟨_, rfl⟩
      have HZ0 := Lib.hid hz0
      rw [← hz0]
      clear hz0
      obtain ⟨q0, q1⟩ := kk.two
      go_wp2
      go_loopw [13, 14] (fun nv iv wr => ∃ k : Nat, k ≤ my ∧ iv = .int .i64 (k : Int) ∧ (∃ z : Nat, z ≤ k ∧ nv = .int .i64 (z : Int) ∧ Hid (nzTo xs k = z)) ∧ Below w7.heap.size w7 wr) (fun _ iv _ => my - (intOf iv).toNat)
      case atStart => exact ⟨0, Nat.zero_le _, rfl, ⟨0, Nat.le_refl _, rfl, Lib.hid rfl⟩, Below.refl _ _⟩
      case round =>
        clear q0 q1
        obtain ⟨k, hk, rfl, ⟨z, hz, rfl, HZ⟩, hbl⟩ := hrel
        by_cases hlt : k < my
        · obtain ⟨gx, ox, rfl, hxk, hcx2⟩ := (x3.below hbl).rd.int hlt
          by_cases hz0 : xs[k] = 0
          · have HZ2 : Hid (nzTo xs (k + 1) = z) := Lib.hid (by rw [nzTo_same hxk hz0, HZ.out])
            rw [hz0] at hcx2
            clear hz0
            go_wp2
            go_roundw
            case rel =>
              go_light
              exact ⟨k + 1, by omega, by go_num, ⟨z, by omega, rfl, HZ2⟩, hbl⟩
            case measure =>
              go_light
              simp [intOf]; omega
          · have HZ2 : Hid (nzTo xs (k + 1) = z + 1) := Lib.hid (by rw [nzTo_more hxk hz0, HZ.out])
            obtain ⟨a, ha1⟩ : ∃ a, a = xs[k] := ⟨_, rfl⟩
            rw [← ha1] at hcx2 hz0
            have d0 : (a == 0) = false := by simpa using hz0
            clear hz0 ha1
            go_wp2
            go_roundw
            case rel =>
              go_light
              exact ⟨k + 1, by omega, by go_num, ⟨z + 1, by omega, by go_num, HZ2⟩, hbl⟩
            case measure =>
              go_light
              simp [intOf]; omega
        · obtain rfl : k = my := by omega
          obtain rfl : z = z0 := by rw [HZ0.out, HZ.out]
          replace kk := kk.below hbl kk.lt
          replace o3 := o3.below hbl
          replace x3 := x3.below hbl
          replace y3 := y3.below hbl
          replace hW := hW.trans (hbl.mono hW.size)
          have e5 : ((z : Int) != (z : Int)) = false := by simp
          clear hbl HZ HZ0 hz hlt hk
          obtain ⟨q0, q1⟩ := kk.two
          have hcall := likeInts_any Ay A1 k k cy c1 xs xs wr (by omega) (by omega) y3.rd x3.rd
          rw [decide_eq_true rfl] at hcall
          go_wp2_with fail
          refine hcall.mono ?_
          rintro e w9 ⟨rfl, jj, hw9⟩
          have hbb := below_drewN (Below.refl wr.heap.size wr) jj
          rw [← hw9] at hbb
          replace kk := kk.below hbb kk.lt
          replace o3 := o3.below hbb
          replace hW := hW.trans (hbb.mono hW.size)
          clear hcall hbb hw9 q0 q1
          clear kk o3 x3 y3 HPR HXM HCM htl hcap e5 hP17 hn7 hp hp2
          have hdr2 := DrawParseMultivector_any B nb cb bs w9 (by omega) (r0.below hW) hbs (fun a e => Nat.lt_of_lt_of_le (hbg a e) hW.size)
          go_wp2_with fail
          refine hdr2.mono ?_
          rintro e wd ⟨P, A, n, c, sq, t, rfl, hP17, hn7, htl, ho, hbd⟩
          replace hW := hW.trans (hbd.mono hW.size)
          clear hdr2 hbd
          have hA : Below wd.heap.size wd (wd.alloc (.cells #[.int .i64 P, .slice A n c] 28)) := (Below.refl _ _).alloc (Nat.le_refl _) _
          have kk : Blk (wd.alloc (.cells #[.int .i64 P, .slice A n c] 28)) wd.heap.size 28 #[.int .i64 P, .slice A n c] := Blk.new _ _ _
          have o3 := ho.below hA
          replace hW := hW.trans (hA.mono hW.size)
          clear hA ho
          obtain ⟨V, hV⟩ : ∃ V, V = parR P sq t := ⟨_, rfl⟩
          have HV := Lib.hid hV
          have hvl := parR_len P sq t
          rw [← hV] at hvl
          clear hV
          obtain ⟨q0, q1⟩ := kk.two
          have hcall := ParseMultivector_any P A n c sq t (wd.alloc (.cells #[.int .i64 P, .slice A n c] 28)) (by omega) htl o3.rd (HE.out _ hW)
          rw [← HV.out] at hcall
          go_wp2_with fail
          refine hcall.mono ?_
          rintro e w12 ⟨Ax, mx, cx, rfl, hM⟩
          have hbb := hM.b
          replace kk := kk.below hbb kk.lt
          replace o3 := o3.below hbb
          replace hW := hW.trans (hbb.mono hW.size)
          have x4 := hM.2
          clear hM
          clear hcall hbb q0 q1
          obtain ⟨q0, q1⟩ := kk.two
          have hcall := specParseMultivector_any P A n c sq t w12 (by omega) htl o3.rd
          rw [← HV.out] at hcall
          go_wp2_with fail
          refine hcall.mono ?_
          rintro e w13 ⟨Az, mz, cz, rfl, hM⟩
          have hbb := hM.b
          replace kk := kk.below hbb kk.lt
          replace o3 := o3.below hbb
          replace x4 := x4.below hbb
          replace hW := hW.trans (hbb.mono hW.size)
          have z4 := hM.2
          clear hM
          clear hcall hbb q0 q1
          obtain ⟨v1, v2⟩ := V
          dsimp only at hvl x4 z4 ⊢
          have lx := x4.rd.lenI
          have lz := z4.rd.lenI
          have HMX : Hid (mx = mz) := Lib.hid (by omega)
          have hmx1 : mx ≤ 1048576 := by omega
          have hmz1 : mz ≤ 1048576 := by omega
          have HLX := Lib.hid lx
          clear lx lz hvl
          have e0 : (v2 != v2) = false := by simp
          obtain ⟨q0, q1⟩ := kk.two
          have hcall := likeInts_any Ax Az mx mz cx cz v1 v1 w13 (by omega) (by omega) x4.rd z4.rd
          rw [decide_eq_true rfl] at hcall
          go_wp2_with fail
          refine hcall.mono ?_
          rintro e w14 ⟨rfl, jj, hw9⟩
          have hbb := below_drewN (Below.refl w13.heap.size w13) jj
          rw [← hw9] at hbb
          replace kk := kk.below hbb kk.lt
          replace o3 := o3.below hbb
          replace x4 := x4.below hbb
          replace hW := hW.trans (hbb.mono hW.size)
          clear hcall hbb hw9 q0 q1
          clear z4 HMX
          by_cases hc : v2 = 0
          · subst hc
            obtain ⟨hsp, hmu, htx⟩ := parR_zero HV.out.symm
            have hln := o3.rd.lenI
            rw [hln] at hmu htx
            have hcm : codeM P sq [v1] = 0 := by
              rw [codeM_mk hsp]
              exact all_one ⟨by rw [hln]; exact hmu.1, hmu.2⟩
            have HNU := Lib.hid hmu.2
            have hcall0 := fun wx ox xx ex => MultivectorText_ok P A n c sq Ax mx cx v1 wx (by omega) hmx1 ox xx x4.cap hcm HNU.out ex
            rw [htx] at hcall0
            clear hsp hmu htx hln hcm
            obtain ⟨q0, q1⟩ := kk.two
            have hcall := hcall0 w14 o3.rd x4.rd (HE.out _ hW)
            go_wp2_with fail
            refine hcall.mono ?_
            rintro e w15 ⟨rfl, hb7⟩
            have hbb := hb7
            replace kk := kk.below hbb kk.lt
            replace hW := hW.trans (hbb.mono hW.size)
            clear hb7
            clear hcall hbb q0 q1
            clear kk o3 x4 HV HLX HNU hcall0 hmx1 hmz1 htl hP17 hn7 e0
            have hdr3 := DrawMaskOfName_any B nb cb bs w15 (by omega) (r0.below hW) hbs (fun a e => Nat.lt_of_lt_of_le (hbg a e) hW.size)
            go_wp2_with fail
            refine hdr3.mono ?_
            rintro e wd ⟨P, A, n, c, sq, t, rfl, hP17, hn7, htl, ho, hbd⟩
            replace hW := hW.trans (hbd.mono hW.size)
            clear hdr3 hbd
            have hA : Below wd.heap.size wd (wd.alloc (.cells #[.int .i64 P, .slice A n c] 28)) := (Below.refl _ _).alloc (Nat.le_refl _) _
            have kk : Blk (wd.alloc (.cells #[.int .i64 P, .slice A n c] 28)) wd.heap.size 28 #[.int .i64 P, .slice A n c] := Blk.new _ _ _
            have o3 := ho.below hA
            replace hW := hW.trans (hA.mono hW.size)
            clear hA ho
            obtain ⟨V, hV⟩ : ∃ V, V = monR P sq t := ⟨_, rfl⟩
            have HV := Lib.hid hV
            clear hV htl
            obtain ⟨q0, q1⟩ := kk.two
            have hcall := MaskOfName_any P A n c sq t (wd.alloc (.cells #[.int .i64 P, .slice A n c] 28)) (by omega) o3.rd
            rw [← HV.out] at hcall
            go_wp2_with fail
            refine hcall.mono ?_
            rintro e w12 ⟨rfl, hb7⟩
            have hbb := hb7
            replace kk := kk.below hbb kk.lt
            replace o3 := o3.below hbb
            replace hW := hW.trans (hbb.mono hW.size)
            clear hb7
            clear hcall hbb q0 q1
            obtain ⟨q0, q1⟩ := kk.two
            have hcall := specMaskOfName_any P A n c sq t w12 (by omega) o3.rd
            rw [← HV.out] at hcall
            go_wp2_with fail
            refine hcall.mono ?_
            rintro e w13 ⟨rfl, hb7⟩
            have hbb := hb7
            replace kk := kk.below hbb kk.lt
            replace o3 := o3.below hbb
            replace hW := hW.trans (hbb.mono hW.size)
            clear hb7
            clear hcall hbb q0 q1
            obtain ⟨v1, v2⟩ := V
            dsimp only
            have e0 : (v2 != v2) = false := by simp
            have e1 : (v1 != v1) = false := by simp
            by_cases hc : v2 = 0
            · subst hc
              obtain ⟨hsp, m, hm1, hm2, hm3⟩ := monR_zero (P := P) (sq := sq) (t := t) (by rw [← HV.out])
              rw [← HV.out] at hm1
              dsimp only at hm1
              subst hm1
              have hln := o3.rd.lenI
              rw [hln] at hm2 hm3
              have hcall := BladeName_ok P A n c m sq w13 (by omega) o3.rd hsp hm2
              rw [hm3] at hcall
              clear hsp hm2 hm3 hln HV
              obtain ⟨q0, q1⟩ := kk.two
              go_wp2_with fail
              refine hcall.mono ?_
              rintro e w14 ⟨rfl, hb7⟩
              go_wp2
              go_ret
              exact ⟨rfl, hW.trans (hb7.mono hW.size)⟩
            · have e2 : (v2 == 0) = false := by simpa using hc
              clear hc HV
              go_wp2
              go_ret
              exact ⟨rfl, hW⟩
          · have e2 : (v2 == 0) = false := by simpa using hc
            clear kk o3 x4 HV HLX hmx1 hmz1 htl hP17 hn7 e0 hc
            have hdr3 := DrawMaskOfName_any B nb cb bs w14 (by omega) (r0.below hW) hbs (fun a e => Nat.lt_of_lt_of_le (hbg a e) hW.size)
            go_wp2_with fail
            refine hdr3.mono ?_
            rintro e wd ⟨P, A, n, c, sq, t, rfl, hP17, hn7, htl, ho, hbd⟩
            replace hW := hW.trans (hbd.mono hW.size)
            clear hdr3 hbd
            have hA : Below wd.heap.size wd (wd.alloc (.cells #[.int .i64 P, .slice A n c] 28)) := (Below.refl _ _).alloc (Nat.le_refl _) _
            have kk : Blk (wd.alloc (.cells #[.int .i64 P, .slice A n c] 28)) wd.heap.size 28 #[.int .i64 P, .slice A n c] := Blk.new _ _ _
            have o3 := ho.below hA
            replace hW := hW.trans (hA.mono hW.size)
            clear hA ho
            obtain ⟨V, hV⟩ : ∃ V, V = monR P sq t := ⟨_, rfl⟩
            have HV := Lib.hid hV
            clear hV htl
            obtain ⟨q0, q1⟩ := kk.two
            have hcall := MaskOfName_any P A n c sq t (wd.alloc (.cells #[.int .i64 P, .slice A n c] 28)) (by omega) o3.rd
            rw [← HV.out] at hcall
            go_wp2_with fail
            refine hcall.mono ?_
            rintro e w12 ⟨rfl, hb7⟩
            have hbb := hb7
            replace kk := kk.below hbb kk.lt
            replace o3 := o3.below hbb
            replace hW := hW.trans (hbb.mono hW.size)
            clear hb7
            clear hcall hbb q0 q1
            obtain ⟨q0, q1⟩ := kk.two
            have hcall := specMaskOfName_any P A n c sq t w12 (by omega) o3.rd
            rw [← HV.out] at hcall
            go_wp2_with fail
            refine hcall.mono ?_
            rintro e w13 ⟨rfl, hb7⟩
            have hbb := hb7
            replace kk := kk.below hbb kk.lt
            replace o3 := o3.below hbb
            replace hW := hW.trans (hbb.mono hW.size)
            clear hb7
            clear hcall hbb q0 q1
            obtain ⟨v1, v2⟩ := V
            dsimp only
            have e0 : (v2 != v2) = false := by simp
            have e1 : (v1 != v1) = false := by simp
            by_cases hc : v2 = 0
            · subst hc
              obtain ⟨hsp, m, hm1, hm2, hm3⟩ := monR_zero (P := P) (sq := sq) (t := t) (by rw [← HV.out])
              rw [← HV.out] at hm1
              dsimp only at hm1
              subst hm1
              have hln := o3.rd.lenI
              rw [hln] at hm2 hm3
              have hcall := BladeName_ok P A n c m sq w13 (by omega) o3.rd hsp hm2
              rw [hm3] at hcall
              clear hsp hm2 hm3 hln HV
              obtain ⟨q0, q1⟩ := kk.two
              go_wp2_with fail
              refine hcall.mono ?_
              rintro e w14 ⟨rfl, hb7⟩
              go_wp2
              go_ret
              exact ⟨rfl, hW.trans (hb7.mono hW.size)⟩
            · have e2 : (v2 == 0) = false := by simpa using hc
              clear hc HV
              go_wp2
              go_ret
              exact ⟨rfl, hW⟩
    · have hv : V = ([], codeM P sq [xs]) := by rw [HV.out]; unfold mtxR; rw [if_neg hc]
      subst hv
      dsimp only
      obtain ⟨C, hC⟩ : ∃ C, C = codeM P sq [xs] := ⟨_, rfl⟩
      rw [← hC] at hc ⊢
      have e2 : (C == 0) = false := by simpa using hc
      have e3 : (C != C) = false := by simp
      clear HV hC hc kk o3 x3 hcap hP17 hn7
      have hdr2 := DrawParseMultivector_any B nb cb bs w5 (by omega) (r0.below hW) hbs (fun a e => Nat.lt_of_lt_of_le (hbg a e) hW.size)
      go_wp2_with fail
      refine hdr2.mono ?_
      rintro e wd ⟨P, A, n, c, sq, t, rfl, hP17, hn7, htl, ho, hbd⟩
      replace hW := hW.trans (hbd.mono hW.size)
      clear hdr2 hbd
      have hA : Below wd.heap.size wd (wd.alloc (.cells #[.int .i64 P, .slice A n c] 28)) := (Below.refl _ _).alloc (Nat.le_refl _) _
      have kk : Blk (wd.alloc (.cells #[.int .i64 P, .slice A n c] 28)) wd.heap.size 28 #[.int .i64 P, .slice A n c] := Blk.new _ _ _
      have o3 := ho.below hA
      replace hW := hW.trans (hA.mono hW.size)
      clear hA ho
      obtain ⟨V, hV⟩ : ∃ V, V = parR P sq t := ⟨_, rfl⟩
      have HV := Lib.hid hV
      have hvl := parR_len P sq t
      rw [← hV] at hvl
      clear hV
      obtain ⟨q0, q1⟩ := kk.two
      have hcall := ParseMultivector_any P A n c sq t (wd.alloc (.cells #[.int .i64 P, .slice A n c] 28)) (by omega) htl o3.rd (HE.out _ hW)
      rw [← HV.out] at hcall
      go_wp2_with fail
      refine hcall.mono ?_
      rintro e w12 ⟨Ax, mx, cx, rfl, hM⟩
      have hbb := hM.b
      replace kk := kk.below hbb kk.lt
      replace o3 := o3.below hbb
      replace hW := hW.trans (hbb.mono hW.size)
      have x4 := hM.2
      clear hM
      clear hcall hbb q0 q1
      obtain ⟨q0, q1⟩ := kk.two
      have hcall := specParseMultivector_any P A n c sq t w12 (by omega) htl o3.rd
      rw [← HV.out] at hcall
      go_wp2_with fail
      refine hcall.mono ?_
      rintro e w13 ⟨Az, mz, cz, rfl, hM⟩
      have hbb := hM.b
      replace kk := kk.below hbb kk.lt
      replace o3 := o3.below hbb
      replace x4 := x4.below hbb
      replace hW := hW.trans (hbb.mono hW.size)
      have z4 := hM.2
      clear hM
      clear hcall hbb q0 q1
      obtain ⟨v1, v2⟩ := V
      dsimp only at hvl x4 z4 ⊢
      have lx := x4.rd.lenI
      have lz := z4.rd.lenI
      have HMX : Hid (mx = mz) := Lib.hid (by omega)
      have hmx1 : mx ≤ 1048576 := by omega
      have hmz1 : mz ≤ 1048576 := by omega
      have HLX := Lib.hid lx
      clear lx lz hvl
      have e0 : (v2 != v2) = false := by simp
      obtain ⟨q0, q1⟩ := kk.two
      have hcall := likeInts_any Ax Az mx mz cx cz v1 v1 w13 (by omega) (by omega) x4.rd z4.rd
      rw [decide_eq_true rfl] at hcall
      go_wp2_with fail
      refine hcall.mono ?_
      rintro e w14 ⟨rfl, jj, hw9⟩
      have hbb := below_drewN (Below.refl w13.heap.size w13) jj
      rw [← hw9] at hbb
      replace kk := kk.below hbb kk.lt
      replace o3 := o3.below hbb
      replace x4 := x4.below hbb
      replace hW := hW.trans (hbb.mono hW.size)
      clear hcall hbb hw9 q0 q1
      clear z4 HMX
      by_cases hc : v2 = 0
      · subst hc
        obtain ⟨hsp, hmu, htx⟩ := parR_zero HV.out.symm
        have hln := o3.rd.lenI
        rw [hln] at hmu htx
        have hcm : codeM P sq [v1] = 0 := by
          rw [codeM_mk hsp]
          exact all_one ⟨by rw [hln]; exact hmu.1, hmu.2⟩
        have HNU := Lib.hid hmu.2
        have hcall0 := fun wx ox xx ex => MultivectorText_ok P A n c sq Ax mx cx v1 wx (by omega) hmx1 ox xx x4.cap hcm HNU.out ex
        rw [htx] at hcall0
        clear hsp hmu htx hln hcm
        obtain ⟨q0, q1⟩ := kk.two
        have hcall := hcall0 w14 o3.rd x4.rd (HE.out _ hW)
        go_wp2_with fail
        refine hcall.mono ?_
        rintro e w15 ⟨rfl, hb7⟩
        have hbb := hb7
        replace kk := kk.below hbb kk.lt
        replace hW := hW.trans (hbb.mono hW.size)
        clear hb7
        clear hcall hbb q0 q1
        clear kk o3 x4 HV HLX HNU hcall0 hmx1 hmz1 htl hP17 hn7 e0
        have hdr3 := DrawMaskOfName_any B nb cb bs w15 (by omega) (r0.below hW) hbs (fun a e => Nat.lt_of_lt_of_le (hbg a e) hW.size)
        go_wp2_with fail
        refine hdr3.mono ?_
        rintro e wd ⟨P, A, n, c, sq, t, rfl, hP17, hn7, htl, ho, hbd⟩
        replace hW := hW.trans (hbd.mono hW.size)
        clear hdr3 hbd
        have hA : Below wd.heap.size wd (wd.alloc (.cells #[.int .i64 P, .slice A n c] 28)) := (Below.refl _ _).alloc (Nat.le_refl _) _
        have kk : Blk (wd.alloc (.cells #[.int .i64 P, .slice A n c] 28)) wd.heap.size 28 #[.int .i64 P, .slice A n c] := Blk.new _ _ _
        have o3 := ho.below hA
        replace hW := hW.trans (hA.mono hW.size)
        clear hA ho
        obtain ⟨V, hV⟩ : ∃ V, V = monR P sq t := ⟨_, rfl⟩
        have HV := Lib.hid hV
        clear hV htl
        obtain ⟨q0, q1⟩ := kk.two
        have hcall := MaskOfName_any P A n c sq t (wd.alloc (.cells #[.int .i64 P, .slice A n c] 28)) (by omega) o3.rd
        rw [← HV.out] at hcall
        go_wp2_with fail
        refine hcall.mono ?_
        rintro e w12 ⟨rfl, hb7⟩
        have hbb := hb7
        replace kk := kk.below hbb kk.lt
        replace o3 := o3.below hbb
        replace hW := hW.trans (hbb.mono hW.size)
        clear hb7
        clear hcall hbb q0 q1
        obtain ⟨q0, q1⟩ := kk.two
        have hcall := specMaskOfName_any P A n c sq t w12 (by omega) o3.rd
        rw [← HV.out] at hcall
        go_wp2_with fail
        refine hcall.mono ?_
        rintro e w13 ⟨rfl, hb7⟩
        have hbb := hb7
        replace kk := kk.below hbb kk.lt
        replace o3 := o3.below hbb
        replace hW := hW.trans (hbb.mono hW.size)
        clear hb7
        clear hcall hbb q0 q1
        obtain ⟨v1, v2⟩ := V
        dsimp only
        have e0 : (v2 != v2) = false := by simp
        have e1 : (v1 != v1) = false := by simp
        by_cases hc : v2 = 0
        · subst hc
          obtain ⟨hsp, m, hm1, hm2, hm3⟩ := monR_zero (P := P) (sq := sq) (t := t) (by rw [← HV.out])
          rw [← HV.out] at hm1
          dsimp only at hm1
          subst hm1
          have hln := o3.rd.lenI
          rw [hln] at hm2 hm3
          have hcall := BladeName_ok P A n c m sq w13 (by omega) o3.rd hsp hm2
          rw [hm3] at hcall
          clear hsp hm2 hm3 hln HV
          obtain ⟨q0, q1⟩ := kk.two
          go_wp2_with fail
          refine hcall.mono ?_
          rintro e w14 ⟨rfl, hb7⟩
          go_wp2
          go_ret
          exact ⟨rfl, hW.trans (hb7.mono hW.size)⟩
        · have e2 : (v2 == 0) = false := by simpa using hc
          clear hc HV
          go_wp2
          go_ret
          exact ⟨rfl, hW⟩
      · have e2 : (v2 == 0) = false := by simpa using hc
        clear kk o3 x4 HV HLX hmx1 hmz1 htl hP17 hn7 e0 hc
        have hdr3 := DrawMaskOfName_any B nb cb bs w14 (by omega) (r0.below hW) hbs (fun a e => Nat.lt_of_lt_of_le (hbg a e) hW.size)
        go_wp2_with fail
        refine hdr3.mono ?_
        rintro e wd ⟨P, A, n, c, sq, t, rfl, hP17, hn7, htl, ho, hbd⟩
        replace hW := hW.trans (hbd.mono hW.size)
        clear hdr3 hbd
        have hA : Below wd.heap.size wd (wd.alloc (.cells #[.int .i64 P, .slice A n c] 28)) := (Below.refl _ _).alloc (Nat.le_refl _) _
        have kk : Blk (wd.alloc (.cells #[.int .i64 P, .slice A n c] 28)) wd.heap.size 28 #[.int .i64 P, .slice A n c] := Blk.new _ _ _
        have o3 := ho.below hA
        replace hW := hW.trans (hA.mono hW.size)
        clear hA ho
        obtain ⟨V, hV⟩ : ∃ V, V = monR P sq t := ⟨_, rfl⟩
        have HV := Lib.hid hV
        clear hV htl
        obtain ⟨q0, q1⟩ := kk.two
        have hcall := MaskOfName_any P A n c sq t (wd.alloc (.cells #[.int .i64 P, .slice A n c] 28)) (by omega) o3.rd
        rw [← HV.out] at hcall
        go_wp2_with fail
        refine hcall.mono ?_
        rintro e w12 ⟨rfl, hb7⟩
        have hbb := hb7
        replace kk := kk.below hbb kk.lt
        replace o3 := o3.below hbb
        replace hW := hW.trans (hbb.mono hW.size)
        clear hb7
        clear hcall hbb q0 q1
        obtain ⟨q0, q1⟩ := kk.two
        have hcall := specMaskOfName_any P A n c sq t w12 (by omega) o3.rd
        rw [← HV.out] at hcall
        go_wp2_with fail
        refine hcall.mono ?_
        rintro e w13 ⟨rfl, hb7⟩
        have hbb := hb7
        replace kk := kk.below hbb kk.lt
        replace o3 := o3.below hbb
        replace hW := hW.trans (hbb.mono hW.size)
        clear hb7
        clear hcall hbb q0 q1
        obtain ⟨v1, v2⟩ := V
        dsimp only
        have e0 : (v2 != v2) = false := by simp
        have e1 : (v1 != v1) = false := by simp
        by_cases hc : v2 = 0
        · subst hc
          obtain ⟨hsp, m, hm1, hm2, hm3⟩ := monR_zero (P := P) (sq := sq) (t := t) (by rw [← HV.out])
          rw [← HV.out] at hm1
          dsimp only at hm1
          subst hm1
          have hln := o3.rd.lenI
          rw [hln] at hm2 hm3
          have hcall := BladeName_ok P A n c m sq w13 (by omega) o3.rd hsp hm2
          rw [hm3] at hcall
          clear hsp hm2 hm3 hln HV
          obtain ⟨q0, q1⟩ := kk.two
          go_wp2_with fail
          refine hcall.mono ?_
          rintro e w14 ⟨rfl, hb7⟩
          go_wp2
          go_ret
          exact ⟨rfl, hW.trans (hb7.mono hW.size)⟩
        · have e2 : (v2 == 0) = false := by simpa using hc
          clear hc HV
          go_wp2
          go_ret
          exact ⟨rfl, hW⟩
end Go.Proofs.YticofgmmjecleaaGreatDoor
