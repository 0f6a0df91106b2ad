/-
  LawParseMultivector: part 3 of the texts that the proof needs. No condition.
-/
import Derived.Test.YticofgmmjecleaaDoorP2
namespace Go.Proofs.YticofgmmjecleaaDoor
open Go Go.RowKit
theorem split_strings (s : By) : (Lib.splitB ⟨#[43]⟩ 0 (Lib.countB ⟨s.toArray⟩ ⟨#[43]⟩) ⟨s.toArray⟩).map Value.string = txts (splitP 43 s) := by
  have h := Lib.splitB_data ⟨#[43]⟩ 0 (Lib.countB ⟨s.toArray⟩ ⟨#[43]⟩) ⟨s.toArray⟩
  have e : Lib.splitK (ByteArray.mk #[43]).data.toList 0 (Lib.countB ⟨s.toArray⟩ ⟨#[43]⟩) (ByteArray.mk s.toArray).data.toList = splitP 43 s := split_eq 43 s
  rw [e] at h
  unfold txts
  rw [← h, List.map_map]
  rfl
theorem split_len (s : By) : Lib.countB ⟨s.toArray⟩ ⟨#[43]⟩ + 1 = (splitP 43 s).length := by
  have h := congrArg List.length (split_strings s)
  rw [List.length_map, Lib.splitB_all _ (by decide) _ _ _ rfl, txts_length] at h
  exact h
theorem repP_len (s : By) : (repP s).length ≤ 2 * s.length := by
  induction s with
  | nil => exact Nat.le_refl _
  | cons b r ih =>
    have e : repP (b :: r) = (if b = 45 then [43, 45] else [b]) ++ repP r := rfl
    rw [e, List.length_append, List.length_cons]
    split <;> simp only [List.length_cons, List.length_nil] <;> omega
theorem splitP_mem_len (c : UInt8) : ∀ (s : By) (u : By), u ∈ splitP c s → u.length ≤ s.length
  | [], u, h => by
    have : u = [] := by simpa [splitP] using h
    rw [this]; exact Nat.le_refl _
  | b :: r, u, h => by
    have ih := splitP_mem_len c r
    unfold splitP at h
    split at h
    · rcases List.mem_cons.1 h with e | h
      · rw [e]; exact Nat.zero_le _
      · have := ih u h; rw [List.length_cons]; omega
    · cases hs : splitP c r with
      | nil => exact absurd hs (splitP_ne c r)
      | cons v vs =>
        rw [hs] at h ih
        rcases List.mem_cons.1 h with e | h
        · have := ih v (List.mem_cons_self ..)
          rw [e, List.length_cons, List.length_cons]; omega
        · have := ih u (List.mem_cons_of_mem _ h); rw [List.length_cons]; omega
theorem cut_len (u : By) (c : UInt8) : (Lib.cut u [c]).1.length ≤ u.length ∧ (Lib.cut u [c]).2.1.length ≤ u.length := by
  unfold Lib.cut
  split
  · exact ⟨by show (List.take _ u).length ≤ _; rw [List.length_take]; omega, by show (List.drop _ u).length ≤ _; rw [List.length_drop]; omega⟩
  · exact ⟨Nat.le_refl _, Nat.zero_le _⟩
theorem foldl_step {α β : Type} (f : β → α → β) (b : β) (l : List α) (k : Nat) (hk : k < l.length) : (l.take (k + 1)).foldl f b = f ((l.take k).foldl f b) l[k] := by
  rw [List.take_add_one, List.getElem?_eq_getElem hk, List.foldl_append]; rfl
theorem markI_getD (o : Option Nat) : markI o = ((o.getD 0 : Nat) : Int) := by cases o <;> rfl
theorem parR_len (P : Int) (sq : List Int) (t : By) : (parR P sq t).1.length ≤ 1048576 := by
  unfold parR
  split
  · rename_i h
    obtain ⟨hP, hd1, hd2, hnum⟩ := isSp_dim h
    have hge := isP_ge hP
    split
    · have := (parI_mu (p := P) (n := sq.length) (by omega) t).1
      have h64 : pw sq.length ≤ 64 := pw_le hd2
      show (parI P sq.length t).length ≤ _
      omega
    · exact Nat.zero_le _
  · exact Nat.zero_le _
theorem mask_getD_lt (n : Nat) (t : By) : (maskOf n t).getD 0 < pw n := by
  cases h : maskOf n t with
  | none => exact pw_pos n
  | some m => have := maskF_lt h; show m < pw n; omega
set_option maxHeartbeats 3200000 in
set_option maxRecDepth 100000 in
theorem ParseMultivector_any (P : Int) (A : Option Addr) (n c : Nat) (sq : List Int) (t : By) (w : World) (hn : n ≤ 1048576) (ht : t.length ≤ 1000000000) (ha : Rd w A n (ints sq)) (he : Env w) :
    Calls Tryd.prog 7 #[.agg #[.int .i64 P, .slice A n c], .string ⟨t.toArray⟩] w fun e w' => ∃ (A' : Option Addr) (k c' : Nat), e = .returned (.tuple #[.slice A' k c', .int .i64 (parR P sq t).2]) ∧ MkI w w' A' k c' (parR P sq t).1 := by
  have hB0 : Below w.heap.size w (w.alloc (.cells #[.int .i64 P, .slice A n c] 28)) := (Below.refl _ _).alloc (Nat.le_refl _) _
  have k0 : Blk (w.alloc (.cells #[.int .i64 P, .slice A n c] 28)) w.heap.size 28 #[.int .i64 P, .slice A n c] := Blk.new _ _ _
  have his := IsSpace_any P A n c sq (w.alloc (.cells #[.int .i64 P, .slice A n c] 28)) (by omega) (ha.below hB0)
  cases hsp : isSp P sq
  · have hR : parR P sq t = ([], 1) := by unfold parR; rw [hsp]; rfl
    rw [hR]
    rw [hsp] at his
    clear hsp hR
    go_enter Tryd.func7, Tryd.ntmps7
    go_wp2_with fail
    refine his.mono ?_
    rintro e w1 ⟨rfl, hb1⟩
    go_wp2
    go_ret2
    exact ⟨_, _, _, rfl, Mk.nil (hB0.trans (hb1.mono hB0.size))⟩
  · obtain ⟨hP, hd1, hd2, hnum⟩ := isSp_dim hsp
    rw [hsp] at his
    have hln : sq.length = n := ha.lenI
    have hge := isP_ge hP
    obtain ⟨R, hR⟩ : ∃ R, R = parR P sq t := ⟨_, rfl⟩
    have HR : Hid (R = if textL P n (parI P n t) = t then (parI P n t, 0) else ([], 6)) := Lib.hid (by rw [hR]; unfold parR; rw [if_pos hsp, hln])
    rw [← hR]
    rw [hln] at hd1 hd2
    have HP := Lib.hid hP
    clear hR hsp hP hnum hln
    have hpw : pw n ≤ 64 := pw_le hd2
    obtain ⟨ts, hts⟩ : ∃ ts, ts = splitP 43 (repP t) := ⟨_, rfl⟩
    have hrl := repP_len t
    have hul : ∀ u ∈ ts, u.length ≤ 2000000000 := fun u hu => by rw [hts] at hu; have := splitP_mem_len 43 _ u hu; omega
    have HTS := Lib.hid hts
    have HUL := Lib.hid hul
    clear hul
    have hsplit := fun wx (hx : Below w.heap.size w wx) => Split_any (repP t) [43] wx (by omega) (Nat.le_refl _) (he.below hx (Nat.le_refl _))
    have hrep := fun wx (hx : Below w.heap.size w wx) => ReplaceAll_any t [45] [43, 45] wx (by omega) rfl (by decide) (he.below hx (Nat.le_refl _))
    rw [rep_eq] at hrep
    have es : (Lib.splitB ⟨[43].toArray⟩ 0 (Lib.countB ⟨(repP t).toArray⟩ ⟨[43].toArray⟩) ⟨(repP t).toArray⟩).map Value.string = txts ts := by rw [hts]; exact split_strings (repP t)
    have el : Lib.countB ⟨(repP t).toArray⟩ ⟨[43].toArray⟩ + 1 = ts.length := by rw [hts]; exact split_len (repP t)
    rw [es, el] at hsplit
    have hN : ts.length ≤ 2000000001 := by rw [← el]; have := Lib.countB_le ⟨[43].toArray⟩ (by decide) (ByteArray.mk (repP t).toArray).size ⟨(repP t).toArray⟩ (Nat.le_refl _); rw [bs_len] at this; omega
    obtain ⟨rt, hrt⟩ : ∃ r, r = repP t := ⟨_, rfl⟩
    rw [← hrt] at hsplit hrep
    have HSP := Lib.hid hsplit
    have HRE := Lib.hid hrep
    clear hts hrl es el hrt hsplit hrep
    go_enter Tryd.func7, Tryd.ntmps7
    go_wp2_with fail
    refine his.mono ?_
    rintro e w1 ⟨rfl, hb1⟩
    have hB1 := hB0.trans (hb1.mono hB0.size)
    have k1 := k0.below hb1 k0.lt
    clear his hb1 k0 hB0
    obtain ⟨q0, q1⟩ := k1.two
    go_wp2_with fail
    refine (nothing_any P A n c w1 (by omega)).mono ?_
    rintro e w2 ⟨A2, c2, rfl, hM2⟩
    have k2 := k1.below hM2.b k1.lt
    have hpos := pw_pos n
    have hw1 : w.heap.size < w1.heap.size := k1.lt
    rcases hM2.2.form with ⟨_, h0⟩ | ⟨g, rfl, hg0, hgl⟩
    · omega
    have hg : w.heap.size < g := Nat.lt_of_lt_of_le hw1 hg0
    have m2 := hM2.after hB1
    have hB2 := m2.b
    clear hM2 k1 q0 q1 hg0 hw1
    go_wp2_with fail
    refine (HRE.out w2 hB2).mono ?_
    rintro e w3 ⟨rfl, hb3⟩
    have k3 := k2.below hb3 k2.lt
    have m3 := m2.below hb3
    have hgl3 : g < w3.heap.size := Nat.lt_of_lt_of_le hgl hb3.size
    have hsp3 := HSP.out w3 m3.b
    clear hb3 k2 m2 hB2 hgl HRE HSP
    go_wp2_with fail
    refine hsp3.mono ?_
    rintro e w4 ⟨rfl, hw4⟩
    have hb4 : Below w3.heap.size w3 w4 := by rw [hw4]; exact (Below.refl _ _).alloc (Nat.le_refl _) _
    have s4 : Blk w4 w3.heap.size 9 (txts ts).toArray := by rw [hw4]; exact Blk.new _ _ _
    have k4 := k3.below hb4 k3.lt
    have m4 := m3.below hb4
    obtain ⟨sb, hsb⟩ : ∃ sb, sb = w3.heap.size := ⟨_, rfl⟩
    rw [← hsb] at s4 hgl3 ⊢
    have hsg : sb ≠ g := Nat.ne_of_gt hgl3
    clear hw4 hb4 hsp3 k3 m3 hgl3 hsb
    obtain ⟨z0, hz0⟩ : ∃ z, z = List.replicate (pw n) (0 : Int) := ⟨_, rfl⟩
    rw [← hz0] at m4
    have HZ0 := Lib.hid hz0
    clear hz0
    go_wp2
    go_loopw [24] (fun iv wr => ∃ (k : Nat) (xs : List Int), k ≤ ts.length ∧ iv = .int .i64 (k : Int) ∧ Hid ((ts.take k).foldl (stepI P n) z0 = xs) ∧ Blk wr w.heap.size 28 #[.int .i64 P, .slice A n c] ∧ Blk wr sb 9 (txts ts).toArray ∧ MkI w wr (some ⟨g, 0, none⟩) (pw n) c2 xs) (fun iv _ => ts.length - (intOf iv).toNat)
    case atStart => exact ⟨0, z0, Nat.zero_le _, rfl, Lib.hid rfl, k4, s4, m4⟩
    case round =>
      clear k4 s4 m4
      obtain ⟨k, xs, hk, rfl, HF, k4, s4, m4⟩ := hrel
      obtain ⟨q0, q1⟩ := k4.two
      by_cases hk2 : k < ts.length
      · obtain ⟨u, hu⟩ : ∃ u, u = ts[k] := ⟨_, rfl⟩
        have HU := Lib.hid hu
        have hcu : wr.cell? ⟨sb, k, none⟩ = some (.string ⟨u.toArray⟩) := by
          rw [s4.cell, List.getElem?_toArray, txts_get ts k hk2, hu]
        have hul := HUL.out u (by rw [hu]; exact List.getElem_mem hk2)
        have hcut := Cut_any u [101] wr (by omega) (he.below m4.b (Nat.le_refl _))
        obtain ⟨h1, h2⟩ := cut_len u 101
        obtain ⟨a, ha1⟩ : ∃ a, a = (Lib.cut u [101]).1 := ⟨_, rfl⟩
        obtain ⟨b, hb1⟩ : ∃ b, b = (Lib.cut u [101]).2.1 := ⟨_, rfl⟩
        obtain ⟨f, hf1⟩ : ∃ f, f = (Lib.cut u [101]).2.2 := ⟨_, rfl⟩
        have hst : ∀ x, stepI P n x u = match parN P (if f = true ∧ (a = [] ∨ a = [45]) then a ++ [49] else a) with
          | some v => x.set (if f = true then (maskOf n (101 :: b)).getD 0 else 0) v
          | none => x := fun x => by rw [ha1, hb1, hf1]; rfl
        rw [← ha1, ← hb1, ← hf1] at hcut
        rw [← ha1] at h1
        rw [← hb1] at h2
        have HS := Lib.hid hst
        have h3 : a.length ≤ 2000000000 := by omega
        have h4 : b.length ≤ 2000000000 := by omega
        clear ha1 hb1 hf1 hu hul h1 h2 hst
        go_wp2_with fail
        refine hcut.mono ?_
        rintro e w5 ⟨rfl, hb5⟩
        have k5 := k4.below hb5 k4.lt
        have s5 := s4.below hb5 s4.lt
        have m5 := m4.below hb5
        clear hcut hb5 k4 s4 m4 q0 q1 hcu
        cases f
        · have HST : Hid (∀ x, stepI P n x u = match parN P a with
            | some v => x.set 0 v
            | none => x) := Lib.hid (fun x => by rw [HS.out x]; simp)
          have hml : 0 < pw n := pw_pos n
          obtain ⟨w4, hw4⟩ : ∃ w, w = w5 := ⟨_, rfl⟩
          rw [← hw4] at k5 s5 m5 ⊢
          have k4 := k5
          have s4 := s5
          have m4 := m5
          clear hw4 k5 s5 m5 h4
          obtain ⟨q0, q1⟩ := k4.two
          go_wp2_with fail
          refine (field_any P A n c w4).mono ?_
          rintro e w5 ⟨rfl, hb5⟩
          have k5 := k4.below hb5 k4.lt
          have s5 := s4.below hb5 s4.lt
          have m5 := m4.below hb5
          have hB5 : Below w.heap.size w w5 := m5.b
          clear q0 q1 hb5 k4 s4 m4
          cases hpn : parN P a with
          | none =>
            have hparse := parse_any P a w5 (by omega) (by omega) (he.below hB5 (Nat.le_refl _))
            rw [hpn] at hparse
            have HF2 : Hid ((ts.take (k + 1)).foldl (stepI P n) z0 = xs) := Lib.hid (by rw [foldl_step _ _ _ _ hk2, ← HU.out, HF.out, HST.out, hpn])
            clear hpn
            go_wp2_with fail
            refine hparse.mono ?_
            rintro e w6 ⟨rfl, hb6⟩
            have k6 := k5.below hb6 k5.lt
            have s6 := s5.below hb6 s5.lt
            have m6 := m5.below hb6
            clear hparse hb6 k5 s5 m5
            go_wp2
            go_roundw
            case rel =>
              go_light
              exact ⟨k + 1, xs, by omega, by go_num, HF2, k6, s6, m6⟩
            case measure =>
              go_light
              simp [intOf]; omega
          | some v =>
            have hparse := parse_any P a w5 (by omega) (by omega) (he.below hB5 (Nat.le_refl _))
            rw [hpn] at hparse
            have HF2 : Hid ((ts.take (k + 1)).foldl (stepI P n) z0 = xs.set 0 v) := Lib.hid (by rw [foldl_step _ _ _ _ hk2, ← HU.out, HF.out, HST.out, hpn])
            clear hpn
            go_wp2_with fail
            refine hparse.mono ?_
            rintro e w6 ⟨rfl, hb6⟩
            have k6 := k5.below hb6 k5.lt
            have s6 := s5.below hb6 s5.lt
            have m6 := m5.below hb6
            clear hparse hb6 k5 s5 m5
            obtain ⟨hoc, hof⟩ := mkI_at m6 hml
            have m7 := (m6.set 0 (.int .i64 v)).1
            rw [ints_set] at m7
            have k7 := k6.far (p := ⟨g, 0, none⟩) (Nat.ne_of_lt hg) (.int .i64 v)
            have s7 := s6.far (p := ⟨g, 0, none⟩) hsg (.int .i64 v)
            have M7 := Lib.hid m7
            have K7 := Lib.hid k7
            have S7 := Lib.hid s7
            clear m7 k7 s7 m6 k6 s6
            go_wp2
            go_roundw
            case rel =>
              go_light
              exact ⟨k + 1, xs.set 0 v, by omega, by go_num, HF2, K7.out, S7.out, M7.out⟩
            case measure =>
              go_light
              simp [intOf]; omega
        · obtain ⟨e1, he1⟩ : ∃ e1, e1 = [101] ++ b := ⟨_, rfl⟩
          have hc1 := fun wx => cat_big (P := Tryd.prog) wx [101] b (by simp only [List.length_cons, List.length_nil]; omega)
          obtain ⟨mk, hmk⟩ : ∃ mk, mk = (maskOf n e1).getD 0 := ⟨_, rfl⟩
          have hml : mk < pw n := by rw [hmk]; exact mask_getD_lt n e1
          have hs1 : ∀ x, stepI P n x u = match parN P (if a = [] ∨ a = [45] then a ++ [49] else a) with
            | some v => x.set mk v
            | none => x := fun x => by rw [HS.out x, hmk, he1]; simp
          have HS1 := Lib.hid hs1
          have hnam := fun wx => named_any P A n c e1 wx hd2
          rw [markI_getD, ← hmk] at hnam
          rw [← he1] at hc1
          clear hmk he1 hs1 h4
          obtain ⟨q0, q1⟩ := k5.two
          go_wp2_with fail
          refine (hnam w5).mono ?_
          rintro e w6 ⟨rfl, hb6⟩
          obtain ⟨w4, hw4⟩ : ∃ w, w = w6 := ⟨_, rfl⟩
          rw [← hw4] at hb6 ⊢
          have k4 := k5.below hb6 k5.lt
          have s4 := s5.below hb6 s5.lt
          have m4 := m5.below hb6
          clear hw4 hnam hc1 hb6 k5 s5 m5 q0 q1
          by_cases a1 : a = []
          · subst a1
            have HST : Hid (∀ x, stepI P n x u = match parN P [49] with
              | some v => x.set mk v
              | none => x) := Lib.hid (fun x => by rw [HS1.out x]; simp)
            obtain ⟨q0, q1⟩ := k4.two
            go_wp2_with fail
            refine (field_any P A n c w4).mono ?_
            rintro e w5 ⟨rfl, hb5⟩
            have k5 := k4.below hb5 k4.lt
            have s5 := s4.below hb5 s4.lt
            have m5 := m4.below hb5
            have hB5 : Below w.heap.size w w5 := m5.b
            clear q0 q1 hb5 k4 s4 m4
            cases hpn : parN P [49] with
            | none =>
              have hparse := parse_any P [49] w5 (by omega) (by omega) (he.below hB5 (Nat.le_refl _))
              rw [hpn] at hparse
              have HF2 : Hid ((ts.take (k + 1)).foldl (stepI P n) z0 = xs) := Lib.hid (by rw [foldl_step _ _ _ _ hk2, ← HU.out, HF.out, HST.out, hpn])
              clear hpn
              go_wp2_with fail
              refine hparse.mono ?_
              rintro e w6 ⟨rfl, hb6⟩
              have k6 := k5.below hb6 k5.lt
              have s6 := s5.below hb6 s5.lt
              have m6 := m5.below hb6
              clear hparse hb6 k5 s5 m5
              go_wp2
              go_roundw
              case rel =>
                go_light
                exact ⟨k + 1, xs, by omega, by go_num, HF2, k6, s6, m6⟩
              case measure =>
                go_light
                simp [intOf]; omega
            | some v =>
              have hparse := parse_any P [49] w5 (by omega) (by omega) (he.below hB5 (Nat.le_refl _))
              rw [hpn] at hparse
              have HF2 : Hid ((ts.take (k + 1)).foldl (stepI P n) z0 = xs.set mk v) := Lib.hid (by rw [foldl_step _ _ _ _ hk2, ← HU.out, HF.out, HST.out, hpn])
              clear hpn
              go_wp2_with fail
              refine hparse.mono ?_
              rintro e w6 ⟨rfl, hb6⟩
              have k6 := k5.below hb6 k5.lt
              have s6 := s5.below hb6 s5.lt
              have m6 := m5.below hb6
              clear hparse hb6 k5 s5 m5
              obtain ⟨hoc, hof⟩ := mkI_at m6 hml
              have m7 := (m6.set mk (.int .i64 v)).1
              rw [ints_set] at m7
              have k7 := k6.far (p := ⟨g, mk, none⟩) (Nat.ne_of_lt hg) (.int .i64 v)
              have s7 := s6.far (p := ⟨g, mk, none⟩) hsg (.int .i64 v)
              have M7 := Lib.hid m7
              have K7 := Lib.hid k7
              have S7 := Lib.hid s7
              clear m7 k7 s7 m6 k6 s6
              go_wp2
              go_roundw
              case rel =>
                go_light
                exact ⟨k + 1, xs.set mk v, by omega, by go_num, HF2, K7.out, S7.out, M7.out⟩
              case measure =>
                go_light
                simp [intOf]; omega
          by_cases a2 : a = [45]
          · subst a2
            have HST : Hid (∀ x, stepI P n x u = match parN P [45, 49] with
              | some v => x.set mk v
              | none => x) := Lib.hid (fun x => by rw [HS1.out x]; simp)
            obtain ⟨q0, q1⟩ := k4.two
            go_wp2_with fail
            refine (field_any P A n c w4).mono ?_
            rintro e w5 ⟨rfl, hb5⟩
            have k5 := k4.below hb5 k4.lt
            have s5 := s4.below hb5 s4.lt
            have m5 := m4.below hb5
            have hB5 : Below w.heap.size w w5 := m5.b
            clear q0 q1 hb5 k4 s4 m4
            cases hpn : parN P [45, 49] with
            | none =>
              have hparse := parse_any P [45, 49] w5 (by omega) (by omega) (he.below hB5 (Nat.le_refl _))
              rw [hpn] at hparse
              have HF2 : Hid ((ts.take (k + 1)).foldl (stepI P n) z0 = xs) := Lib.hid (by rw [foldl_step _ _ _ _ hk2, ← HU.out, HF.out, HST.out, hpn])
              clear hpn
              go_wp2_with fail
              refine hparse.mono ?_
              rintro e w6 ⟨rfl, hb6⟩
              have k6 := k5.below hb6 k5.lt
              have s6 := s5.below hb6 s5.lt
              have m6 := m5.below hb6
              clear hparse hb6 k5 s5 m5
              go_wp2
              go_roundw
              case rel =>
                go_light
                exact ⟨k + 1, xs, by omega, by go_num, HF2, k6, s6, m6⟩
              case measure =>
                go_light
                simp [intOf]; omega
            | some v =>
              have hparse := parse_any P [45, 49] w5 (by omega) (by omega) (he.below hB5 (Nat.le_refl _))
              rw [hpn] at hparse
              have HF2 : Hid ((ts.take (k + 1)).foldl (stepI P n) z0 = xs.set mk v) := Lib.hid (by rw [foldl_step _ _ _ _ hk2, ← HU.out, HF.out, HST.out, hpn])
              clear hpn
              go_wp2_with fail
              refine hparse.mono ?_
              rintro e w6 ⟨rfl, hb6⟩
              have k6 := k5.below hb6 k5.lt
              have s6 := s5.below hb6 s5.lt
              have m6 := m5.below hb6
              clear hparse hb6 k5 s5 m5
              obtain ⟨hoc, hof⟩ := mkI_at m6 hml
              have m7 := (m6.set mk (.int .i64 v)).1
              rw [ints_set] at m7
              have k7 := k6.far (p := ⟨g, mk, none⟩) (Nat.ne_of_lt hg) (.int .i64 v)
              have s7 := s6.far (p := ⟨g, mk, none⟩) hsg (.int .i64 v)
              have M7 := Lib.hid m7
              have K7 := Lib.hid k7
              have S7 := Lib.hid s7
              clear m7 k7 s7 m6 k6 s6
              go_wp2
              go_roundw
              case rel =>
                go_light
                exact ⟨k + 1, xs.set mk v, by omega, by go_num, HF2, K7.out, S7.out, M7.out⟩
              case measure =>
                go_light
                simp [intOf]; omega
          have HST : Hid (∀ x, stepI P n x u = match parN P a with
            | some v => x.set mk v
            | none => x) := Lib.hid (fun x => by rw [HS1.out x, if_neg (by simp [a1, a2])])
          have d1 : (a == []) = false := by simpa using a1
          have d2 : (a == [45]) = false := by simpa using a2
          clear a1 a2
          obtain ⟨q0, q1⟩ := k4.two
          go_wp2_with fail
          refine (field_any P A n c w4).mono ?_
          rintro e w5 ⟨rfl, hb5⟩
          have k5 := k4.below hb5 k4.lt
          have s5 := s4.below hb5 s4.lt
          have m5 := m4.below hb5
          have hB5 : Below w.heap.size w w5 := m5.b
          clear q0 q1 hb5 k4 s4 m4
          cases hpn : parN P a with
          | none =>
            have hparse := parse_any P a w5 (by omega) (by omega) (he.below hB5 (Nat.le_refl _))
            rw [hpn] at hparse
            have HF2 : Hid ((ts.take (k + 1)).foldl (stepI P n) z0 = xs) := Lib.hid (by rw [foldl_step _ _ _ _ hk2, ← HU.out, HF.out, HST.out, hpn])
            clear hpn
            go_wp2_with fail
            refine hparse.mono ?_
            rintro e w6 ⟨rfl, hb6⟩
            have k6 := k5.below hb6 k5.lt
            have s6 := s5.below hb6 s5.lt
            have m6 := m5.below hb6
            clear hparse hb6 k5 s5 m5
            go_wp2
            go_roundw
            case rel =>
              go_light
              exact ⟨k + 1, xs, by omega, by go_num, HF2, k6, s6, m6⟩
            case measure =>
              go_light
              simp [intOf]; omega
          | some v =>
            have hparse := parse_any P a w5 (by omega) (by omega) (he.below hB5 (Nat.le_refl _))
            rw [hpn] at hparse
            have HF2 : Hid ((ts.take (k + 1)).foldl (stepI P n) z0 = xs.set mk v) := Lib.hid (by rw [foldl_step _ _ _ _ hk2, ← HU.out, HF.out, HST.out, hpn])
            clear hpn
            go_wp2_with fail
            refine hparse.mono ?_
            rintro e w6 ⟨rfl, hb6⟩
            have k6 := k5.below hb6 k5.lt
            have s6 := s5.below hb6 s5.lt
            have m6 := m5.below hb6
            clear hparse hb6 k5 s5 m5
            obtain ⟨hoc, hof⟩ := mkI_at m6 hml
            have m7 := (m6.set mk (.int .i64 v)).1
            rw [ints_set] at m7
            have k7 := k6.far (p := ⟨g, mk, none⟩) (Nat.ne_of_lt hg) (.int .i64 v)
            have s7 := s6.far (p := ⟨g, mk, none⟩) hsg (.int .i64 v)
            have M7 := Lib.hid m7
            have K7 := Lib.hid k7
            have S7 := Lib.hid s7
            clear m7 k7 s7 m6 k6 s6
            go_wp2
            go_roundw
            case rel =>
              go_light
              exact ⟨k + 1, xs.set mk v, by omega, by go_num, HF2, K7.out, S7.out, M7.out⟩
            case measure =>
              go_light
              simp [intOf]; omega
      · obtain rfl : k = ts.length := by omega
        have hxs : xs = parI P n t := by rw [← HF.out, List.take_length, HZ0.out, HTS.out]; rfl
        have hmu := parI_mu (p := P) (n := n) (by omega) t
        rw [← hxs] at hmu
        have hmt := multiText_any P A (some ⟨g, 0, none⟩) n c c2 xs wr HP.out hd2 hmu.2 hmu.1 m4.rd (he.below m4.b (Nat.le_refl _))
        have hr2 := HR.out
        rw [← hxs] at hr2
        clear hxs HF hmu
        obtain ⟨z, hz⟩ : ∃ z, z = textL P n xs := ⟨_, rfl⟩
        rw [← hz] at hmt hr2
        clear hz
        by_cases hzt : z = t
        · subst hzt
          rw [if_pos rfl] at hr2
          have HR2 := Lib.hid hr2
          clear hr2
          go_wp2_with fail
          refine hmt.mono ?_
          rintro e w5 ⟨rfl, hb5⟩
          have m5 := m4.below hb5
          clear hmt hb5 k4 s4 m4 q0 q1
          go_wp2
          go_ret2
          rw [HR2.out]
          exact ⟨_, _, _, rfl, m5⟩
        · rw [if_neg hzt] at hr2
          have hne : (z == t) = false := by simpa using hzt
          have HR2 := Lib.hid hr2
          clear hr2 hzt
          go_wp2_with fail
          refine hmt.mono ?_
          rintro e w5 ⟨rfl, hb5⟩
          have m5 := m4.below hb5
          clear hmt hb5 k4 s4 m4 q0 q1
          go_wp2
          go_ret2
          rw [HR2.out]
          exact ⟨_, _, _, rfl, Mk.nil m5.b⟩
end Go.Proofs.YticofgmmjecleaaDoor
