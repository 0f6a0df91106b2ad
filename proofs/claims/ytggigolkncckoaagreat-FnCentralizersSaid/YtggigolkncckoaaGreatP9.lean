/-
  LawFnCentralizers: part 9 of the texts that the proof needs. No condition.
-/
import Derived.Test.YtggigolkncckoaaGreatP8
namespace Go.Proofs.YtggigolkncckoaaGreat
open Go.RowKit
/-- The value is a tuple of a bivector and the code 0. -/
def VTx (B n : Nat) (P : Int) : VP := ⟨fun v w => ∃ (A : Option Addr) (c : Nat) (xs : List Int), v = .tuple #[.slice A n c, .int .i64 0] ∧ (xs.length = n ∧ NumsL P xs ∧ onlyL xs 2 = true) ∧ Own w B 2 A n c (ints xs), fun _ _ _ ⟨A, c, xs, e, hl, ho⟩ hb => ⟨A, c, xs, e, hl, ho.below hb⟩⟩
theorem VTx.dr {B n g : Nat} {P : Int} {T : TypeId} {v : Value} {w w' : World} (h : (VTx B n P).p v w) (d : Dr g T w w') (hT : 2 ≠ T) : (VTx B n P).p v w' := by
  obtain ⟨A, c, xs, e, hl, ho⟩ := h
  exact ⟨A, c, xs, e, hl, ho.dr d hT⟩
/-- The value is a bivector. -/
def VLo (B n : Nat) (P : Int) : VP := ⟨fun v w => ∃ (A : Option Addr) (c : Nat) (xs : List Int), v = .slice A n c ∧ (xs.length = n ∧ NumsL P xs ∧ onlyL xs 2 = true) ∧ Own w B 2 A n c (ints xs), fun _ _ _ ⟨A, c, xs, e, hl, ho⟩ hb => ⟨A, c, xs, e, hl, ho.below hb⟩⟩
theorem VLo.dr {B n g : Nat} {P : Int} {T : TypeId} {v : Value} {w w' : World} (h : (VLo B n P).p v w) (d : Dr g T w w') (hT : 2 ≠ T) : (VLo B n P).p v w' := by
  obtain ⟨A, c, xs, e, hl, ho⟩ := h
  exact ⟨A, c, xs, e, hl, ho.dr d hT⟩
/-- The value is a tuple of a new list and the code 0. -/
def VTs (w0 : World) (n : Nat) (L : List Int) : VP := ⟨fun v w => ∃ A c, v = .tuple #[.slice A n c, .int .i64 0] ∧ MkI w0 w A n c L, fun _ _ _ ⟨A, c, e, h⟩ hb => ⟨A, c, e, h.below hb⟩⟩
theorem cenR_64 (P : Int) (sq xs : List Int) : (cenR P sq xs).1.length ≤ 64 ∧ ∀ v ∈ (cenR P sq xs).1, v.length ≤ 64 := by
  by_cases h : codeB P sq [xs] = 0
  · by_cases hn : sq.length ≤ 4
    · rw [cenR_ok h hn]
      obtain ⟨HP, hp, -, -, h6, -, -⟩ := codeM_spec2 (codeB_all h).1
      have hpw : pw sq.length ≤ 64 := pw_le h6
      exact ⟨Nat.le_trans (cenL_len HP _ _ _) hpw, fun v hv => by rw [(cenL_tab (by omega) _ _ _ v hv).1]; exact hpw⟩
    · rw [cenR_big h hn]; exact ⟨by simp, fun v hv => by cases hv⟩
  · rw [cenR_bad h]; exact ⟨by simp, fun v hv => by cases hv⟩
theorem BB_ok (P : Int) (A : Option Addr) (n c : Nat) (sq : List Int) (X : Option Addr) (m cx : Nat) (xs : List Int) (Y : Option Addr) (l cy : Nat) (ys : List Int) (w : World) (hn : n ≤ 1048576) (hm : m ≤ 1048576) (hl : l ≤ 1048576) (ha : Rd w A n (ints sq)) (hx : Rd w X m (ints xs)) (hcx : m ≤ cx) (hy : Rd w Y l (ints ys)) (hcy : l ≤ cy) (R : List Int) (q : Nat) (hR : bbrR P sq xs ys = (R, 0)) (hq : R.length = q) :
    Calls Tryz.prog 57 #[.agg #[.int .i64 P, .slice A n c], .slice X m cx, .slice Y l cy] w fun e w' => ∃ (A' : Option Addr) (c' : Nat), e = .returned (.tuple #[.slice A' q c', .int .i64 0]) ∧ MkI w w' A' q c' R := by
  have h := BivectorBracket_any P A n c sq X m cx xs Y l cy ys w hn hm hl ha hx hcx hy hcy
  rw [hR] at h
  refine h.mono ?_
  rintro e w' ⟨A', k, c', rfl, hM⟩
  obtain rfl : q = k := by rw [← hq]; exact hM.rd.lenI
  exact ⟨A', c', rfl, hM⟩
set_option maxHeartbeats 12800000 in
set_option maxRecDepth 40000 in
theorem FnCentralizers_any (B : Option Addr) (nb cb : Nat) (bs : List Int) (w : World) (r : Rd w B nb (bs.map (Value.int .u8))) (hbs : ∀ b ∈ bs, 0 ≤ b ∧ b < 256) (hbg : ∀ a, B = some a → a.block < w.heap.size) :
    Calls Tryz.prog 8 #[.slice B nb cb] w fun e w' => e = .returned (.bool true) ∧ Below w.heap.size w w' := by
  have hbig := big_any B nb cb w
  by_cases hbb : 4096 < nb
  · rw [decide_eq_true hbb] at hbig
    go_enter Tryz.func8, Tryz.ntmps8
    go_wp2_with fail
    refine hbig.mono ?_
    rintro e w1 ⟨rfl, rfl⟩
    go_wp2
    go_ret
    exact ⟨rfl, Below.refl _ _⟩
  · rw [decide_eq_false hbb] at hbig
    have hdr := DrawCentralizerOf_any B nb cb bs w (by omega) r hbs hbg
    go_enter Tryz.func8, Tryz.ntmps8
    go_wp2_with fail
    refine hbig.mono ?_
    rintro e w1 ⟨rfl, rfl⟩
    clear hbig
    go_wp2_with fail
    refine hdr.mono ?_
    rintro e w2 ⟨P, A, n, c, sq, A1, m1, c1, xs, rfl, hP, hn, h1, ho, hx, hb2⟩
    have hcx : m1 ≤ c1 := hx.cap
    have hA : Below w2.heap.size w2 (w2.alloc (.cells #[.int .i64 P, .slice A n c] 26)) := (Below.refl _ _).alloc (Nat.le_refl _) _
    have k3 : Blk (w2.alloc (.cells #[.int .i64 P, .slice A n c] 26)) w2.heap.size 26 #[.int .i64 P, .slice A n c] := Blk.new _ _ _
    have hB3 := hb2.alloc (o := .cells #[.int .i64 P, .slice A n c] 26) hb2.size
    have o3 := (ho.below hA).rd
    have os3 := (ho.base (Nat.zero_le _)).below hA
    have x3 := (hx.base (Nat.zero_le _)).below hA
    have r3 := r.below (hb2.alloc (o := .cells #[.int .i64 P, .slice A n c] 26) hb2.size)
    obtain ⟨w3, hw3⟩ : ∃ W, W = w2.alloc (.cells #[.int .i64 P, .slice A n c] 26) := ⟨_, rfl⟩
    have hb1 := CentralizerOf_any P A n c sq A1 m1 c1 xs w3 (by omega) (by omega) (hw3 ▸ o3) (hw3 ▸ x3.rd) hcx
    obtain ⟨q0, q1⟩ := k3.two
    clear hdr ho hx hb2 r hA
    go_wp2_with fail
    rw [← hw3] at k3 hB3 o3 x3 r3 os3 ⊢
    clear hw3
    refine hb1.mono ?_
    rintro e w4 ⟨Az, mz, cz, rfl, hM4⟩
    have hW : Below w3.heap.size w3 w4 := hM4.b
    have r_x := x3.below hW
    have r_z := hM4.rd
    clear q0 q1 hb1 hM4 x3
    have kk := k3.below hW k3.lt
    obtain ⟨q0, q1⟩ := kk.two
    clear kk
    have hcall := specCentralizerOf_any P A n c sq A1 m1 c1 xs w4 (by omega) (by omega) (o3.below hW) r_x.rd hcx
    go_wp2_with fail
    refine hcall.mono ?_
    rintro e w5 ⟨A5, m5, c5, rfl, hM⟩
    replace r_x := r_x.below hM.b
    replace r_z := r_z.below hM.b
    have r_t := hM.rd
    replace hW := hW.trans (hM.b.mono hW.size)
    clear hM
    clear hcall q0 q1
    have l4 := r_z.len
    have l5 := r_t.len
    obtain ⟨hlen, hrl⟩ := cenR_64 P sq xs
    obtain rfl : mz = m5 := l4.symm.trans l5
    have kk := k3.below hW k3.lt
    obtain ⟨q0, q1⟩ := kk.two
    clear kk
    have hcall := likeRows5_same Az A5 mz cz c5 _ w5 (by omega) r_z r_t (fun v hv => Nat.le_trans (hrl v hv) (by omega))
    have e0 : ((cenR P sq xs).2 != (cenR P sq xs).2) = false := by simp
    clear l5 hlen hrl
    go_wp2_with fail
    refine hcall.mono ?_
    rintro e w8 ⟨rfl, hb7⟩
    replace r_x := r_x.below hb7
    replace r_z := r_z.below hb7
    replace r_t := r_t.below hb7
    replace hW := hW.trans (hb7.mono hW.size)
    clear hcall q0 q1 hb7 e0 r_t
    have hB8 := hB3.trans (hW.mono hB3.size)
    by_cases hc : codeB P sq [xs] = 0 ∧ sq.length ≤ 4
    · obtain ⟨hc, h4⟩ := hc
      have e1 : ((cenR P sq xs).2 != 0) = false := by rw [cenR_ok hc h4]; rfl
      obtain ⟨hM0, hreg, hon⟩ := codeB_all hc
      obtain ⟨HPr, hp, hp2, hd1, hd2, hs0, hms⟩ := codeM_spec2 hM0
      obtain ⟨hx1, hxs0⟩ := hms xs (by simp)
      have hxo := hon xs (by simp)
      have hsl := o3.lenI
      obtain ⟨hsp, -⟩ := codeM_sp hM0
      have hnn1 : 1 ≤ n := by omega
      have hnn4 : n ≤ 4 := by omega
      have hpw16 : pw n ≤ 16 := pw_le (k := 4) hnn4
      have hpw : pw n ≤ 64 := by omega
      have hpw0 := pw_pos n
      rw [cenR_ok hc h4] at r_z l4
      have HLN : Hid ((cenL P sq sq.length xs).length = mz) := Lib.hid l4
      have hml : mz ≤ 16 := by rw [← HLN.out]; exact Nat.le_trans (cenL_len HPr _ _ _) (by rw [hsl]; exact hpw16)
      have HCR : Hid (∀ i, i < mz → ((cenL P sq sq.length xs).getD i []).length = pw n ∧ NumsL P ((cenL P sq sq.length xs).getD i []) ∧ onlyL ((cenL P sq sq.length xs).getD i []) 2 = true ∧ ∀ y ∈ hbL P sq xs ((cenL P sq sq.length xs).getD i []), y = 0) := Lib.hid fun i hi => by
        have h := cen_row HPr hd2 hx1 hxs0 (i := i) (by rw [HLN.out]; exact hi)
        exact ⟨h.1.trans (by rw [hsl]), h.2.1, h.2.2.1, h.2.2.2⟩
      have HEM : Hid (mz = 0 → ∀ y ∈ xs, y = 0) := Lib.hid fun h => cen_empty HPr hd2 hx1 hxs0 hxo (List.eq_nil_of_length_eq_zero (by rw [HLN.out]; exact h))
      have HDM : Hid (0 < mz → 2 ≤ n ∧ mz ≤ 16) := Lib.hid fun h => ⟨by rw [← hsl]; exact cen_dim HPr hd1 hd2 hx1 hxs0 (by rw [HLN.out]; exact h), hml⟩
      have HSP : Hid (Sp P (pw n) (cenL P sq sq.length xs) (fun q => xs.getD q 0)) := Lib.hid (by have h := cen_own HPr hd2 hx1 hxs0 hxo; rwa [show pw sq.length = pw n by rw [hsl]] at h)
      have HLT : Hid (Tab P (pw n) (cenL P sq sq.length xs)) := Lib.hid (by have h := cenL_tab (P := P) (by omega) sq sq.length xs; rwa [show pw sq.length = pw n by rw [hsl]] at h)
      have HBB : Hid (∀ a b : List Int, (a.length = pw n ∧ NumsL P a ∧ onlyL a 2 = true) → (b.length = pw n ∧ NumsL P b ∧ onlyL b 2 = true) → bbrR P sq a b = (hbL P sq a b, 0) ∧ (hbL P sq a b).length = pw n ∧ NumsL P (hbL P sq a b) ∧ onlyL (hbL P sq a b) 2 = true) := Lib.hid fun a b ha hb => by
        have la := ha.1.trans (show pw n = pw sq.length by rw [hsl])
        have lb := hb.1.trans (show pw n = pw sq.length by rw [hsl])
        have h := hb_facts HPr hd2 la ha.2.1 lb hb.2.1 ha.2.2 hb.2.2
        exact ⟨by rw [bbrR_ok (codeB_mk hsp hreg (all_two ⟨la, ha.2.1⟩ ⟨lb, hb.2.1⟩) (all_two ha.2.2 hb.2.2))]; rfl, h.1.trans (by rw [hsl]), h.2⟩
      have HXN : Hid (xs.length = pw n ∧ NumsL P xs ∧ onlyL xs 2 = true) := Lib.hid ⟨hx1.trans (by rw [hsl]), hxs0, hxo⟩
      have HBK : Hid (∀ b : List Int, b.length = pw n → NumsL P b → onlyL b 2 = true → bbrR P sq xs b = (hbL P sq xs b, 0) ∧ (hbL P sq xs b).length = pw n ∧ NumsL P (hbL P sq xs b) ∧ onlyL (hbL P sq xs b) 2 = true) := Lib.hid fun b h1 h2 h3 => HBB.out xs b HXN.out ⟨h1, h2, h3⟩
      have HJC : Hid (∀ ys ws : List Int, ys.length = pw n → NumsL P ys → ws.length = pw n → NumsL P ws → ∀ u ∈ plusL P (plusL P (hbL P sq (hbL P sq xs ys) ws) (hbL P sq (hbL P sq ys ws) xs) 1) (hbL P sq (hbL P sq ws xs) ys) 1, u = 0) := Lib.hid fun ys ws h1 h2 h3 h4 => hb_jac HPr hx1 hxs0 (h1.trans (by rw [hsl])) h2 (h3.trans (by rw [hsl])) h4
      obtain ⟨L, hL⟩ : ∃ L, L = cenL P sq sq.length xs := ⟨_, rfl⟩
      replace r_z : RdII w8 Az mz L := by rw [hL]; exact r_z
      rw [← hL] at HCR HSP HLT HLN
      obtain rfl : m1 = pw n := by rw [← r_x.rd.lenI, hx1, hsl]
      have HP := Lib.hid HPr
      have HSL := Lib.hid hsl
      clear hms hx1 hxs0 hon hxo hsl hs0 hM0 hc HPr hB8 l4 hL h4
      go_wp2
      go_loopw [9] (fun i wr => ∃ k : Nat, k ≤ mz ∧ i = .int .i64 k ∧ Below w8.heap.size w8 wr) (fun i _ => mz - (intOf i).toNat)
      case atStart => exact ⟨0, by omega, rfl, Below.refl _ _⟩
      case round =>
        obtain ⟨i, hi, rfl, hbr⟩ := hrel
        by_cases hlt : i < mz
        · have kk := k3.below (hW.trans (hbr.mono hW.size)) k3.lt
          obtain ⟨gz, oz, rfl, hxi, B1, d1, hcell, hr1, hcap⟩ := (r_z.below hbr).at_ hlt
          obtain ⟨g1, g2, g3, g4⟩ := HCR.out i hlt
          rw [getD_of_lt [] hxi] at g1 g2 g3 g4
          rw [g1] at hcell hr1 hcap
          have hbb0 := HBK.out L[i] g1 g2 g3
          have oo := o3.below (hW.trans (hbr.mono hW.size))
          have hbb := fun (w' : World) (h : Below wr.heap.size wr w') => BB_ok P A n c sq A1 (pw n) c1 xs B1 (pw n) d1 L[i] w' (by omega) (by omega) (by omega) (oo.below h) ((r_x.below hbr).rd.below h) hcx (hr1.below h) hcap (hbL P sq xs L[i]) (pw n) hbb0.1 hbb0.2.1
          obtain ⟨ROW, hROW⟩ : ∃ R, R = hbL P sq xs L[i] := ⟨_, rfl⟩
          rw [← hROW] at hbb g4
          have HBB := Lib.hid hbb
          have H4 := Lib.hid g4
          clear hbb0 hbb g1 g2 g3 g4 hROW hr1 hcap hxi oo
          obtain ⟨q0, q1⟩ := kk.two
          go_wp2
          refine wp_obs 12 [[], [], [], [], [2, 3], [2, 3, 4], [0, 1, 2, 3, 4, 5], [0, 1, 2, 3, 4, 5, 6], [0, 1, 2, 3, 4, 5, 6, 7], [0, 1, 2, 3, 4, 5, 6, 7], [0, 1, 2, 3, 4, 5, 6, 7, 8], [0, 1, 2, 3, 4, 5, 6, 7, 9]] [VIs (.agg #[.int .i64 P, .slice A n c]), VIs (.slice A1 (pw n) c1), VIs (.slice (some ⟨gz, oz, none⟩) mz cz), VIs (.int .i64 (i)), VIs (.pointer (some ⟨gz, oz + i, none⟩)), VIs (.slice B1 (pw n) d1), VTs wr (pw n) ROW, VTs wr (pw n) ROW, VSl wr (pw n) ROW, VIs (.int .i64 (0)), VSl wr (pw n) ROW, VIs (.int .i64 (0))] (fun w' => w'.cell? ⟨gz, oz + i, none⟩ = some (.slice B1 (pw n) d1) ∧ Blk w' w2.heap.size 26 #[.int .i64 P, .slice A n c] ∧ Below wr.heap.size wr w') (by kernel_rfl) (by kernel_rfl) (fun _ _ h hb => ⟨(hb.cell (World.block_lt_of_cell? _ _ h.1)).trans h.1, h.2.1.below hb h.2.1.lt, h.2.2.trans (hb.mono h.2.2.size)⟩) (⟨hcell, kk.drew, (Below.refl _ _).drew⟩) (fun x => ?_)
          refine obs_step (Eq.trans (by simp only [List.getElem?_toArray, List.getElem?_cons_zero]; exact rfl) rfl) rfl (fun w' hS hV K hK => ?_) ?_
          · have q2 := hS.1; obtain ⟨q0, q1⟩ := hS.2.1.two
            go_simp
            exact hK.out _ _ _ rfl rfl rfl (Below.refl _ _)
          simp only [List.setIfInBounds_toArray, List.set_cons_zero, List.set_cons_succ]
          refine obs_step (Eq.trans (by simp only [List.getElem?_toArray, List.getElem?_cons_succ, List.getElem?_cons_zero]; exact rfl) rfl) rfl (fun w' hS hV K hK => ?_) ?_
          · have q2 := hS.1; obtain ⟨q0, q1⟩ := hS.2.1.two
            go_simp
            exact hK.out _ _ _ rfl rfl rfl (Below.refl _ _)
          simp only [List.setIfInBounds_toArray, List.set_cons_zero, List.set_cons_succ]
          refine obs_step (Eq.trans (by simp only [List.getElem?_toArray, List.getElem?_cons_succ, List.getElem?_cons_zero]; exact rfl) rfl) rfl (fun w' hS hV K hK => ?_) ?_
          · have q2 := hS.1; obtain ⟨q0, q1⟩ := hS.2.1.two
            go_simp
            exact hK.out _ _ _ rfl rfl rfl (Below.refl _ _)
          simp only [List.setIfInBounds_toArray, List.set_cons_zero, List.set_cons_succ]
          refine obs_step (Eq.trans (by simp only [List.getElem?_toArray, List.getElem?_cons_succ, List.getElem?_cons_zero]; exact rfl) rfl) rfl (fun w' hS hV K hK => ?_) ?_
          · have q2 := hS.1; obtain ⟨q0, q1⟩ := hS.2.1.two
            go_simp
            exact hK.out _ _ _ rfl rfl rfl (Below.refl _ _)
          simp only [List.setIfInBounds_toArray, List.set_cons_zero, List.set_cons_succ]
          refine obs_step (Eq.trans (by simp only [List.getElem?_toArray, List.getElem?_cons_succ, List.getElem?_cons_zero]; exact rfl) rfl) rfl (fun w' hS hV K hK => ?_) ?_
          · have e2 : x 2 = (.slice (some ⟨gz, oz, none⟩) mz cz) := hV 2 (by decide)
            have e3 : x 3 = (.int .i64 (i)) := hV 3 (by decide)
            have q2 := hS.1; obtain ⟨q0, q1⟩ := hS.2.1.two
            go_simp
            exact hK.out _ _ _ rfl rfl rfl (Below.refl _ _)
          simp only [List.setIfInBounds_toArray, List.set_cons_zero, List.set_cons_succ]
          refine obs_step (Eq.trans (by simp only [List.getElem?_toArray, List.getElem?_cons_succ, List.getElem?_cons_zero]; exact rfl) rfl) rfl (fun w' hS hV K hK => ?_) ?_
          · have e2 : x 2 = (.slice (some ⟨gz, oz, none⟩) mz cz) := hV 2 (by decide)
            have e3 : x 3 = (.int .i64 (i)) := hV 3 (by decide)
            have e4 : x 4 = (.pointer (some ⟨gz, oz + i, none⟩)) := hV 4 (by decide)
            have q2 := hS.1; obtain ⟨q0, q1⟩ := hS.2.1.two
            go_simp
            exact hK.out _ _ _ rfl rfl rfl (Below.refl _ _)
          simp only [List.setIfInBounds_toArray, List.set_cons_zero, List.set_cons_succ]
          refine obs_step (Eq.trans (by simp only [List.getElem?_toArray, List.getElem?_cons_succ, List.getElem?_cons_zero]; exact rfl) rfl) rfl (fun w' hS hV K hK => ?_) ?_
          · have e0 : x 0 = (.agg #[.int .i64 P, .slice A n c]) := hV 0 (by decide)
            have e1 : x 1 = (.slice A1 (pw n) c1) := hV 1 (by decide)
            have e2 : x 2 = (.slice (some ⟨gz, oz, none⟩) mz cz) := hV 2 (by decide)
            have e3 : x 3 = (.int .i64 (i)) := hV 3 (by decide)
            have e4 : x 4 = (.pointer (some ⟨gz, oz + i, none⟩)) := hV 4 (by decide)
            have e5 : x 5 = (.slice B1 (pw n) d1) := hV 5 (by decide)
            have q2 := hS.1; obtain ⟨q0, q1⟩ := hS.2.1.two
            go_simp
            refine (HBB.out _ hS.2.2).mono ?_
            rintro e v1 ⟨A9, c9, rfl, hM⟩
            exact hK.out _ _ _ rfl rfl ⟨_, _, rfl, hM.after hS.2.2⟩ hM.b
          simp only [List.setIfInBounds_toArray, List.set_cons_zero, List.set_cons_succ]
          refine obs_step (Eq.trans (by simp only [List.getElem?_toArray, List.getElem?_cons_succ, List.getElem?_cons_zero]; exact rfl) rfl) rfl (fun w' hS hV K hK => ?_) ?_
          · have e0 : x 0 = (.agg #[.int .i64 P, .slice A n c]) := hV 0 (by decide)
            have e1 : x 1 = (.slice A1 (pw n) c1) := hV 1 (by decide)
            have e2 : x 2 = (.slice (some ⟨gz, oz, none⟩) mz cz) := hV 2 (by decide)
            have e3 : x 3 = (.int .i64 (i)) := hV 3 (by decide)
            have e4 : x 4 = (.pointer (some ⟨gz, oz + i, none⟩)) := hV 4 (by decide)
            have e5 : x 5 = (.slice B1 (pw n) d1) := hV 5 (by decide)
            obtain ⟨A6, c6, e6, h6⟩ := hV 6 (by decide)
            have q2 := hS.1; obtain ⟨q0, q1⟩ := hS.2.1.two
            go_simp
            exact hK.out _ _ _ rfl rfl ⟨_, _, rfl, h6⟩ (Below.refl _ _)
          simp only [List.setIfInBounds_toArray, List.set_cons_zero, List.set_cons_succ]
          refine obs_step (Eq.trans (by simp only [List.getElem?_toArray, List.getElem?_cons_succ, List.getElem?_cons_zero]; exact rfl) rfl) rfl (fun w' hS hV K hK => ?_) ?_
          · have e0 : x 0 = (.agg #[.int .i64 P, .slice A n c]) := hV 0 (by decide)
            have e1 : x 1 = (.slice A1 (pw n) c1) := hV 1 (by decide)
            have e2 : x 2 = (.slice (some ⟨gz, oz, none⟩) mz cz) := hV 2 (by decide)
            have e3 : x 3 = (.int .i64 (i)) := hV 3 (by decide)
            have e4 : x 4 = (.pointer (some ⟨gz, oz + i, none⟩)) := hV 4 (by decide)
            have e5 : x 5 = (.slice B1 (pw n) d1) := hV 5 (by decide)
            obtain ⟨A6, c6, e6, h6⟩ := hV 6 (by decide)
            obtain ⟨A7, c7, e7, h7⟩ := hV 7 (by decide)
            have q2 := hS.1; obtain ⟨q0, q1⟩ := hS.2.1.two
            go_simp
            exact hK.out _ _ _ rfl rfl ⟨_, _, rfl, h7⟩ (Below.refl _ _)
          simp only [List.setIfInBounds_toArray, List.set_cons_zero, List.set_cons_succ]
          refine obs_step (Eq.trans (by simp only [List.getElem?_toArray, List.getElem?_cons_succ, List.getElem?_cons_zero]; exact rfl) rfl) rfl (fun w' hS hV K hK => ?_) ?_
          · have e0 : x 0 = (.agg #[.int .i64 P, .slice A n c]) := hV 0 (by decide)
            have e1 : x 1 = (.slice A1 (pw n) c1) := hV 1 (by decide)
            have e2 : x 2 = (.slice (some ⟨gz, oz, none⟩) mz cz) := hV 2 (by decide)
            have e3 : x 3 = (.int .i64 (i)) := hV 3 (by decide)
            have e4 : x 4 = (.pointer (some ⟨gz, oz + i, none⟩)) := hV 4 (by decide)
            have e5 : x 5 = (.slice B1 (pw n) d1) := hV 5 (by decide)
            obtain ⟨A6, c6, e6, h6⟩ := hV 6 (by decide)
            obtain ⟨A7, c7, e7, h7⟩ := hV 7 (by decide)
            have q2 := hS.1; obtain ⟨q0, q1⟩ := hS.2.1.two
            go_simp
            exact hK.out _ _ _ rfl rfl rfl (Below.refl _ _)
          simp only [List.setIfInBounds_toArray, List.set_cons_zero, List.set_cons_succ]
          refine obs_step (Eq.trans (by simp only [List.getElem?_toArray, List.getElem?_cons_succ, List.getElem?_cons_zero]; exact rfl) rfl) rfl (fun w' hS hV K hK => ?_) ?_
          · have e0 : x 0 = (.agg #[.int .i64 P, .slice A n c]) := hV 0 (by decide)
            have e1 : x 1 = (.slice A1 (pw n) c1) := hV 1 (by decide)
            have e2 : x 2 = (.slice (some ⟨gz, oz, none⟩) mz cz) := hV 2 (by decide)
            have e3 : x 3 = (.int .i64 (i)) := hV 3 (by decide)
            have e4 : x 4 = (.pointer (some ⟨gz, oz + i, none⟩)) := hV 4 (by decide)
            have e5 : x 5 = (.slice B1 (pw n) d1) := hV 5 (by decide)
            obtain ⟨A6, c6, e6, h6⟩ := hV 6 (by decide)
            obtain ⟨A7, c7, e7, h7⟩ := hV 7 (by decide)
            obtain ⟨A8, c8, e8, h8⟩ := hV 8 (by decide)
            have q2 := hS.1; obtain ⟨q0, q1⟩ := hS.2.1.two
            go_simp
            exact hK.out _ _ _ rfl rfl ⟨_, _, rfl, h8⟩ (Below.refl _ _)
          simp only [List.setIfInBounds_toArray, List.set_cons_zero, List.set_cons_succ]
          refine obs_step (Eq.trans (by simp only [List.getElem?_toArray, List.getElem?_cons_succ, List.getElem?_cons_zero]; exact rfl) rfl) rfl (fun w' hS hV K hK => ?_) ?_
          · have e0 : x 0 = (.agg #[.int .i64 P, .slice A n c]) := hV 0 (by decide)
            have e1 : x 1 = (.slice A1 (pw n) c1) := hV 1 (by decide)
            have e2 : x 2 = (.slice (some ⟨gz, oz, none⟩) mz cz) := hV 2 (by decide)
            have e3 : x 3 = (.int .i64 (i)) := hV 3 (by decide)
            have e4 : x 4 = (.pointer (some ⟨gz, oz + i, none⟩)) := hV 4 (by decide)
            have e5 : x 5 = (.slice B1 (pw n) d1) := hV 5 (by decide)
            obtain ⟨A6, c6, e6, h6⟩ := hV 6 (by decide)
            obtain ⟨A7, c7, e7, h7⟩ := hV 7 (by decide)
            have e9 : x 9 = (.int .i64 (0)) := hV 9 (by decide)
            have q2 := hS.1; obtain ⟨q0, q1⟩ := hS.2.1.two
            go_simp
            exact hK.out _ _ _ rfl rfl rfl (Below.refl _ _)
          simp only [List.setIfInBounds_toArray, List.set_cons_zero, List.set_cons_succ]
          refine fun w' hS hV => ?_
          have e0 : x 0 = (.agg #[.int .i64 P, .slice A n c]) := hV 0 (by decide)
          have e1 : x 1 = (.slice A1 (pw n) c1) := hV 1 (by decide)
          have e2 : x 2 = (.slice (some ⟨gz, oz, none⟩) mz cz) := hV 2 (by decide)
          have e3 : x 3 = (.int .i64 (i)) := hV 3 (by decide)
          have e4 : x 4 = (.pointer (some ⟨gz, oz + i, none⟩)) := hV 4 (by decide)
          have e5 : x 5 = (.slice B1 (pw n) d1) := hV 5 (by decide)
          obtain ⟨A6, c6, e6, h6⟩ := hV 6 (by decide)
          obtain ⟨A7, c7, e7, h7⟩ := hV 7 (by decide)
          obtain ⟨A8, c8, e8, h8⟩ := hV 8 (by decide)
          have e9 : x 9 = (.int .i64 (0)) := hV 9 (by decide)
          obtain ⟨A10, c10, e10, h10⟩ := hV 10 (by decide)
          have e11 : x 11 = (.int .i64 (0)) := hV 11 (by decide)
          simp only [e0, e1, e2, e3, e4, e5, e6, e7, e8, e9, e10, e11]
          clear e0 e1 e2 e3 e4 e5 e6 e7 e8 e9 e10 e11
          refine wpAny_done (by kernel_rfl) ?_ _
          obtain ⟨w9, rfl⟩ : ∃ W, W = w' := ⟨_, rfl⟩
          have k9 := hS.2.1
          have hb9 := hbr.trans (hS.2.2.mono hbr.size)
          have hr9 := h10.rd
          clear hS q0 q1 kk hbr hcell HBB
          obtain ⟨q0, q1⟩ := k9.two
          have hsz := size5_any P A n c w9 (by omega)
          have e3 : (((pw n : Nat) : Int) != ((pw n : Nat) : Int)) = false := by simp
          go_wp2_with fail
          refine hsz.mono ?_
          rintro e w10 ⟨rfl, hb10⟩
          have hz5 := zero5_any A10 (pw n) c10 ROW w10 (by omega) (hr9.below hb10)
          rw [decide_eq_true H4.out] at hz5
          clear hsz hr9
          go_wp2_with fail
          refine hz5.mono ?_
          rintro e w11 ⟨rfl, rfl⟩
          have hb12 := hb9.trans (hb10.mono hb9.size)
          clear hz5 hb9 hb10 q0 q1
          go_wp2
          go_roundw
          case rel => exact ⟨i + 1, by omega, by go_num, hb12⟩
          case measure => simp [intOf]; omega
        · have hb7 := hbr
          clear hbr HCR
          replace hW := hW.trans (hb7.mono hW.size)
          replace r_x := r_x.below hb7
          replace r_z := r_z.below hb7
          clear hb7
          by_cases hm0 : mz = 0
          · subst hm0
            have hz5 := zero5_any A1 (pw n) c1 xs wr (by omega) r_x.rd
            rw [decide_eq_true (HEM.out rfl)] at hz5
            clear r_x r_z
            go_wp2_with fail
            refine hz5.mono ?_
            rintro e w9 ⟨rfl, rfl⟩
            go_wp2
            go_ret
            exact ⟨rfl, hB3.trans (hW.mono hB3.size)⟩
          · have e9 : ((mz : Int) == 0) = false := by simp [hm0]
            obtain ⟨hn2, -⟩ := HDM.out (by omega)
            have kk := k3.below hW k3.lt
            obtain ⟨q0, q1⟩ := kk.two
            clear kk
            have hcall := InSpan_ok P Az mz cz L A1 (pw n) c1 xs wr HP.out (by omega) (by omega) (by omega) (by omega) r_z HLT.out r_x HXN.out.2.1 HSP.out
            go_wp2_with fail
            refine hcall.mono ?_
            rintro e w9 ⟨rfl, hb7⟩
            replace r_x := r_x.below hb7
            replace hW := hW.trans (hb7.mono hW.size)
            clear hcall q0 q1
            clear r_z
            have hroll := roll_any B nb cb bs 846 w9 (by omega) (r3.below hW) hbs (fun a e => Nat.lt_of_lt_of_le (hbg a e) (Nat.le_trans hB3.size hW.size))
            go_wp2_with fail
            refine hroll.mono ?_
            rintro e w20 ⟨g, rfl, hg, hs9, hb9⟩
            clear hroll
            have kk := k3.below (hW.trans (hb9.mono hW.size)) k3.lt
            have oo := os3.below (hW.trans (hb9.mono hW.size))
            have hd9 := Dr.refl hs9
            have HMN := Lib.hid fun w' => min5_any 2 n w'
            have hmn2 : (if (2 : Int) < (n : Int) then (2 : Int) else (n : Int)) = 2 := by split <;> omega
            rw [hmn2] at HMN
            clear hmn2
            have HGP := Lib.hid fun (w' : World) (A9 : Option Addr) (c9 : Nat) (X9 : List Int) (ha : Rd w' A n (ints sq)) (h9 : Rd w' A9 (pw n) (ints X9)) (hc : pw n ≤ c9) (hl : X9.length = pw n) (hu : NumsL P X9) => GradePart_ok P A n c sq A9 (pw n) c9 X9 2 w' (by omega) (by omega) ha h9 hc (codeM_mk hsp (all_one ⟨by rw [hl, HSL.out], hu⟩)) (by omega)
            have HGF := Lib.hid fun (X9 : List Int) (hl : X9.length = pw n) (hu : NumsL P X9) => (show (partG X9 2).length = pw n ∧ NumsL P (partG X9 2) ∧ onlyL (partG X9 2) 2 = true from ⟨by rw [partG_len, hl], partG_nums (by omega) hu 2, partG_two (by rw [hl]; exact hpw)⟩)
            obtain ⟨q0, q1⟩ := kk.two
            go_wp2
            refine wp_obsR 17 (Dr g 99) [[], [], [], [2], [], [4], [1, 2, 3, 4, 5], [], [7], [7, 8], [7, 8, 9], [0, 1, 2, 3, 4, 5, 6, 7, 8, 9, 10], [0, 1, 2, 3, 4, 5, 6, 7, 8, 9, 10, 11], [0, 1, 2, 3, 4, 5, 6, 7, 8, 9, 10, 11, 12], [0, 1, 2, 3, 4, 5, 6, 7, 8, 9, 10, 11, 12], [0, 1, 2, 3, 4, 5, 6, 7, 8, 9, 10, 11, 12, 13], [0, 1, 2, 3, 4, 5, 6, 7, 8, 9, 10, 11, 12, 14]] [[], [], [], [], [], [], [99], [], [], [], [], [], [], [], [], [], []] (fun x => [VIs (.agg #[.int .i64 P, .slice A n c]), VIs (.pointer (some ⟨g, 0, none⟩)), VIs (.agg #[.int .i64 P, .slice A n c]), VIs (.int .i64 (pw n)), VIs (.pointer (some ⟨w2.heap.size, 0, none⟩)), VIs (.int .i64 (P)), VLs w20.heap.size (pw n) P, VIs (.pointer (some ⟨w2.heap.size, 1, none⟩)), VIs (.slice A n c), VIs (.int .i64 (n)), VIs (.int .i64 (2)), VTx w20.heap.size (pw n) P, VTx w20.heap.size (pw n) P, VLo w20.heap.size (pw n) P, VIs (.int .i64 (0)), VLo w20.heap.size (pw n) P, VIs (.int .i64 (0))]) (fun w' => Blk w' w2.heap.size 26 #[.int .i64 P, .slice A n c] ∧ Own w' 0 2 A n c (ints sq) ∧ Dr g 99 w20 w') (by kernel_rfl) (by kernel_rfl) (fun x x' j hx => by
                rcases j with _ | _ | _ | _ | _ | _ | _ | _ | _ | _ | _ | _ | _ | _ | _ | _ | _ | j
                · rfl
                · rfl
                · rfl
                · rfl
                · rfl
                · rfl
                · rfl
                · rfl
                · rfl
                · rfl
                · rfl
                · rfl
                · rfl
                · rfl
                · rfl
                · rfl
                · rfl
                · rfl)
              (weak_ofR [0, 1, 2, 3, 4, 5, 6, 7, 8, 9, 10, 11, 12, 13, 14, 15, 16] (by decide) (fun k hk x v w w' hp hr => by
                simp only [List.mem_cons, List.not_mem_nil, or_false] at hk
                rcases hk with rfl | rfl | rfl | rfl | rfl | rfl | rfl | rfl | rfl | rfl | rfl | rfl | rfl | rfl | rfl | rfl | rfl
                · exact hp
                · exact hp
                · exact hp
                · exact hp
                · exact hp
                · exact hp
                · exact VLs.dr hp hr (by decide)
                · exact hp
                · exact hp
                · exact hp
                · exact hp
                · exact VTx.dr hp hr (by decide)
                · exact VTx.dr hp hr (by decide)
                · exact VLo.dr hp hr (by decide)
                · exact hp
                · exact VLo.dr hp hr (by decide)
                · exact hp)) (fun j _ _ h hb => hb.either (fun hb => ⟨h.1.below hb h.1.lt, h.2.1.below hb, h.2.2.then hb⟩) (fun hr => ⟨h.1.dr hr (by decide), h.2.1.dr hr (by decide), h.2.2.trans hr⟩)) (⟨kk.drew, oo.below (Below.refl _ _).drew, hd9.then (Below.refl _ _).drew⟩) (fun x => ?_)
            refine obs_stepR (Eq.trans (by simp only [List.getElem?_toArray, List.getElem?_cons_zero]; exact rfl) rfl) rfl (fun w' hS hV K hK => ?_) ?_
            · obtain ⟨q0, q1⟩ := hS.1.two
              go_simp
              exact hK.out _ _ _ rfl rfl rfl (Below.refl _ _)
            simp only [List.setIfInBounds_toArray, List.set_cons_zero, List.set_cons_succ]
            refine obs_stepR (Eq.trans (by simp only [List.getElem?_toArray, List.getElem?_cons_succ, List.getElem?_cons_zero]; exact rfl) rfl) rfl (fun w' hS hV K hK => ?_) ?_
            · obtain ⟨q0, q1⟩ := hS.1.two
              go_simp
              exact hK.out _ _ _ rfl rfl rfl (Below.refl _ _)
            simp only [List.setIfInBounds_toArray, List.set_cons_zero, List.set_cons_succ]
            refine obs_stepR (Eq.trans (by simp only [List.getElem?_toArray, List.getElem?_cons_succ, List.getElem?_cons_zero]; exact rfl) rfl) rfl (fun w' hS hV K hK => ?_) ?_
            · obtain ⟨q0, q1⟩ := hS.1.two
              go_simp
              exact hK.out _ _ _ rfl rfl rfl (Below.refl _ _)
            simp only [List.setIfInBounds_toArray, List.set_cons_zero, List.set_cons_succ]
            refine obs_stepR (Eq.trans (by simp only [List.getElem?_toArray, List.getElem?_cons_succ, List.getElem?_cons_zero]; exact rfl) rfl) rfl (fun w' hS hV K hK => ?_) ?_
            · have e2 : x 2 = (.agg #[.int .i64 P, .slice A n c]) := hV 2 (by decide)
              obtain ⟨q0, q1⟩ := hS.1.two
              go_simp
              refine (size5_any P A n c w' (by omega)).mono ?_
              rintro e v1 ⟨rfl, hb⟩
              exact hK.out _ _ _ rfl rfl rfl hb
            simp only [List.setIfInBounds_toArray, List.set_cons_zero, List.set_cons_succ]
            refine obs_stepR (Eq.trans (by simp only [List.getElem?_toArray, List.getElem?_cons_succ, List.getElem?_cons_zero]; exact rfl) rfl) rfl (fun w' hS hV K hK => ?_) ?_
            · obtain ⟨q0, q1⟩ := hS.1.two
              go_simp
              exact hK.out _ _ _ rfl rfl rfl (Below.refl _ _)
            simp only [List.setIfInBounds_toArray, List.set_cons_zero, List.set_cons_succ]
            refine obs_stepR (Eq.trans (by simp only [List.getElem?_toArray, List.getElem?_cons_succ, List.getElem?_cons_zero]; exact rfl) rfl) rfl (fun w' hS hV K hK => ?_) ?_
            · have e4 : x 4 = (.pointer (some ⟨w2.heap.size, 0, none⟩)) := hV 4 (by decide)
              obtain ⟨q0, q1⟩ := hS.1.two
              go_simp
              exact hK.out _ _ _ rfl rfl rfl (Below.refl _ _)
            simp only [List.setIfInBounds_toArray, List.set_cons_zero, List.set_cons_succ]
            refine obs_stepR (Eq.trans (by simp only [List.getElem?_toArray, List.getElem?_cons_succ, List.getElem?_cons_zero]; exact rfl) rfl) rfl (fun w' hS hV K hK => ?_) ?_
            · have e1 : x 1 = (.pointer (some ⟨g, 0, none⟩)) := hV 1 (by decide)
              have e2 : x 2 = (.agg #[.int .i64 P, .slice A n c]) := hV 2 (by decide)
              have e3 : x 3 = (.int .i64 (pw n)) := hV 3 (by decide)
              have e4 : x 4 = (.pointer (some ⟨w2.heap.size, 0, none⟩)) := hV 4 (by decide)
              have e5 : x 5 = (.int .i64 (P)) := hV 5 (by decide)
              obtain ⟨q0, q1⟩ := hS.1.two
              go_simp
              refine (belowList_any g P (pw n) w' hS.2.2.s' (by omega) (by omega)).mono ?_
              rintro e v1 ⟨A9, c9, xs9, rfl, hl9, hx9, ho9, hd9⟩
              exact hK.out _ _ _ rfl rfl ⟨_, _, xs9, rfl, hl9, nums_of (by omega) hx9, ho9.base hS.2.2.size⟩ hd9
            simp only [List.setIfInBounds_toArray, List.set_cons_zero, List.set_cons_succ]
            refine obs_stepR (Eq.trans (by simp only [List.getElem?_toArray, List.getElem?_cons_succ, List.getElem?_cons_zero]; exact rfl) rfl) rfl (fun w' hS hV K hK => ?_) ?_
            · obtain ⟨q0, q1⟩ := hS.1.two
              go_simp
              exact hK.out _ _ _ rfl rfl rfl (Below.refl _ _)
            simp only [List.setIfInBounds_toArray, List.set_cons_zero, List.set_cons_succ]
            refine obs_stepR (Eq.trans (by simp only [List.getElem?_toArray, List.getElem?_cons_succ, List.getElem?_cons_zero]; exact rfl) rfl) rfl (fun w' hS hV K hK => ?_) ?_
            · have e7 : x 7 = (.pointer (some ⟨w2.heap.size, 1, none⟩)) := hV 7 (by decide)
              obtain ⟨q0, q1⟩ := hS.1.two
              go_simp
              exact hK.out _ _ _ rfl rfl rfl (Below.refl _ _)
            simp only [List.setIfInBounds_toArray, List.set_cons_zero, List.set_cons_succ]
            refine obs_stepR (Eq.trans (by simp only [List.getElem?_toArray, List.getElem?_cons_succ, List.getElem?_cons_zero]; exact rfl) rfl) rfl (fun w' hS hV K hK => ?_) ?_
            · have e7 : x 7 = (.pointer (some ⟨w2.heap.size, 1, none⟩)) := hV 7 (by decide)
              have e8 : x 8 = (.slice A n c) := hV 8 (by decide)
              obtain ⟨q0, q1⟩ := hS.1.two
              go_simp
              exact hK.out _ _ _ rfl rfl rfl (Below.refl _ _)
            simp only [List.setIfInBounds_toArray, List.set_cons_zero, List.set_cons_succ]
            refine obs_stepR (Eq.trans (by simp only [List.getElem?_toArray, List.getElem?_cons_succ, List.getElem?_cons_zero]; exact rfl) rfl) rfl (fun w' hS hV K hK => ?_) ?_
            · have e7 : x 7 = (.pointer (some ⟨w2.heap.size, 1, none⟩)) := hV 7 (by decide)
              have e8 : x 8 = (.slice A n c) := hV 8 (by decide)
              have e9 : x 9 = (.int .i64 (n)) := hV 9 (by decide)
              obtain ⟨q0, q1⟩ := hS.1.two
              go_simp
              refine (HMN.out _).mono ?_
              rintro e v1 ⟨rfl, rfl⟩
              exact hK.out _ _ _ rfl rfl rfl (Below.refl _ _)
            simp only [List.setIfInBounds_toArray, List.set_cons_zero, List.set_cons_succ]
            refine obs_stepR (Eq.trans (by simp only [List.getElem?_toArray, List.getElem?_cons_succ, List.getElem?_cons_zero]; exact rfl) rfl) rfl (fun w' hS hV K hK => ?_) ?_
            · have e0 : x 0 = (.agg #[.int .i64 P, .slice A n c]) := hV 0 (by decide)
              have e1 : x 1 = (.pointer (some ⟨g, 0, none⟩)) := hV 1 (by decide)
              have e2 : x 2 = (.agg #[.int .i64 P, .slice A n c]) := hV 2 (by decide)
              have e3 : x 3 = (.int .i64 (pw n)) := hV 3 (by decide)
              have e4 : x 4 = (.pointer (some ⟨w2.heap.size, 0, none⟩)) := hV 4 (by decide)
              have e5 : x 5 = (.int .i64 (P)) := hV 5 (by decide)
              obtain ⟨A6, c6, X6, e6, l6, u6, h6⟩ := hV 6 (by decide)
              have e7 : x 7 = (.pointer (some ⟨w2.heap.size, 1, none⟩)) := hV 7 (by decide)
              have e8 : x 8 = (.slice A n c) := hV 8 (by decide)
              have e9 : x 9 = (.int .i64 (n)) := hV 9 (by decide)
              have e10 : x 10 = (.int .i64 (2)) := hV 10 (by decide)
              obtain ⟨q0, q1⟩ := hS.1.two
              go_simp
              refine (HGP.out _ _ _ _ hS.2.1.rd h6.rd h6.cap l6 u6).mono ?_
              rintro e v1 ⟨A9, c9, rfl, hM⟩
              exact hK.out _ _ _ rfl rfl ⟨_, _, _, rfl, HGF.out _ l6 u6, hM.2.base hS.2.2.size⟩ hM.b
            simp only [List.setIfInBounds_toArray, List.set_cons_zero, List.set_cons_succ]
            refine obs_stepR (Eq.trans (by simp only [List.getElem?_toArray, List.getElem?_cons_succ, List.getElem?_cons_zero]; exact rfl) rfl) rfl (fun w' hS hV K hK => ?_) ?_
            · have e0 : x 0 = (.agg #[.int .i64 P, .slice A n c]) := hV 0 (by decide)
              have e1 : x 1 = (.pointer (some ⟨g, 0, none⟩)) := hV 1 (by decide)
              have e2 : x 2 = (.agg #[.int .i64 P, .slice A n c]) := hV 2 (by decide)
              have e3 : x 3 = (.int .i64 (pw n)) := hV 3 (by decide)
              have e4 : x 4 = (.pointer (some ⟨w2.heap.size, 0, none⟩)) := hV 4 (by decide)
              have e5 : x 5 = (.int .i64 (P)) := hV 5 (by decide)
              obtain ⟨A6, c6, X6, e6, l6, u6, h6⟩ := hV 6 (by decide)
              have e7 : x 7 = (.pointer (some ⟨w2.heap.size, 1, none⟩)) := hV 7 (by decide)
              have e8 : x 8 = (.slice A n c) := hV 8 (by decide)
              have e9 : x 9 = (.int .i64 (n)) := hV 9 (by decide)
              have e10 : x 10 = (.int .i64 (2)) := hV 10 (by decide)
              obtain ⟨A11, c11, X11, e11, l11, h11⟩ := hV 11 (by decide)
              obtain ⟨q0, q1⟩ := hS.1.two
              go_simp
              exact hK.out _ _ _ rfl rfl ⟨_, _, _, rfl, l11, h11⟩ (Below.refl _ _)
            simp only [List.setIfInBounds_toArray, List.set_cons_zero, List.set_cons_succ]
            refine obs_stepR (Eq.trans (by simp only [List.getElem?_toArray, List.getElem?_cons_succ, List.getElem?_cons_zero]; exact rfl) rfl) rfl (fun w' hS hV K hK => ?_) ?_
            · have e0 : x 0 = (.agg #[.int .i64 P, .slice A n c]) := hV 0 (by decide)
              have e1 : x 1 = (.pointer (some ⟨g, 0, none⟩)) := hV 1 (by decide)
              have e2 : x 2 = (.agg #[.int .i64 P, .slice A n c]) := hV 2 (by decide)
              have e3 : x 3 = (.int .i64 (pw n)) := hV 3 (by decide)
              have e4 : x 4 = (.pointer (some ⟨w2.heap.size, 0, none⟩)) := hV 4 (by decide)
              have e5 : x 5 = (.int .i64 (P)) := hV 5 (by decide)
              obtain ⟨A6, c6, X6, e6, l6, u6, h6⟩ := hV 6 (by decide)
              have e7 : x 7 = (.pointer (some ⟨w2.heap.size, 1, none⟩)) := hV 7 (by decide)
              have e8 : x 8 = (.slice A n c) := hV 8 (by decide)
              have e9 : x 9 = (.int .i64 (n)) := hV 9 (by decide)
              have e10 : x 10 = (.int .i64 (2)) := hV 10 (by decide)
              obtain ⟨A11, c11, X11, e11, l11, h11⟩ := hV 11 (by decide)
              obtain ⟨A12, c12, X12, e12, l12, h12⟩ := hV 12 (by decide)
              obtain ⟨q0, q1⟩ := hS.1.two
              go_simp
              exact hK.out _ _ _ rfl rfl ⟨_, _, _, rfl, l12, h12⟩ (Below.refl _ _)
            simp only [List.setIfInBounds_toArray, List.set_cons_zero, List.set_cons_succ]
            refine obs_stepR (Eq.trans (by simp only [List.getElem?_toArray, List.getElem?_cons_succ, List.getElem?_cons_zero]; exact rfl) rfl) rfl (fun w' hS hV K hK => ?_) ?_
            · have e0 : x 0 = (.agg #[.int .i64 P, .slice A n c]) := hV 0 (by decide)
              have e1 : x 1 = (.pointer (some ⟨g, 0, none⟩)) := hV 1 (by decide)
              have e2 : x 2 = (.agg #[.int .i64 P, .slice A n c]) := hV 2 (by decide)
              have e3 : x 3 = (.int .i64 (pw n)) := hV 3 (by decide)
              have e4 : x 4 = (.pointer (some ⟨w2.heap.size, 0, none⟩)) := hV 4 (by decide)
              have e5 : x 5 = (.int .i64 (P)) := hV 5 (by decide)
              obtain ⟨A6, c6, X6, e6, l6, u6, h6⟩ := hV 6 (by decide)
              have e7 : x 7 = (.pointer (some ⟨w2.heap.size, 1, none⟩)) := hV 7 (by decide)
              have e8 : x 8 = (.slice A n c) := hV 8 (by decide)
              have e9 : x 9 = (.int .i64 (n)) := hV 9 (by decide)
              have e10 : x 10 = (.int .i64 (2)) := hV 10 (by decide)
              obtain ⟨A11, c11, X11, e11, l11, h11⟩ := hV 11 (by decide)
              obtain ⟨A12, c12, X12, e12, l12, h12⟩ := hV 12 (by decide)
              obtain ⟨q0, q1⟩ := hS.1.two
              go_simp
              exact hK.out _ _ _ rfl rfl rfl (Below.refl _ _)
            simp only [List.setIfInBounds_toArray, List.set_cons_zero, List.set_cons_succ]
            refine obs_stepR (Eq.trans (by simp only [List.getElem?_toArray, List.getElem?_cons_succ, List.getElem?_cons_zero]; exact rfl) rfl) rfl (fun w' hS hV K hK => ?_) ?_
            · have e0 : x 0 = (.agg #[.int .i64 P, .slice A n c]) := hV 0 (by decide)
              have e1 : x 1 = (.pointer (some ⟨g, 0, none⟩)) := hV 1 (by decide)
              have e2 : x 2 = (.agg #[.int .i64 P, .slice A n c]) := hV 2 (by decide)
              have e3 : x 3 = (.int .i64 (pw n)) := hV 3 (by decide)
              have e4 : x 4 = (.pointer (some ⟨w2.heap.size, 0, none⟩)) := hV 4 (by decide)
              have e5 : x 5 = (.int .i64 (P)) := hV 5 (by decide)
              obtain ⟨A6, c6, X6, e6, l6, u6, h6⟩ := hV 6 (by decide)
              have e7 : x 7 = (.pointer (some ⟨w2.heap.size, 1, none⟩)) := hV 7 (by decide)
              have e8 : x 8 = (.slice A n c) := hV 8 (by decide)
              have e9 : x 9 = (.int .i64 (n)) := hV 9 (by decide)
              have e10 : x 10 = (.int .i64 (2)) := hV 10 (by decide)
              obtain ⟨A11, c11, X11, e11, l11, h11⟩ := hV 11 (by decide)
              obtain ⟨A12, c12, X12, e12, l12, h12⟩ := hV 12 (by decide)
              obtain ⟨A13, c13, X13, e13, l13, h13⟩ := hV 13 (by decide)
              obtain ⟨q0, q1⟩ := hS.1.two
              go_simp
              exact hK.out _ _ _ rfl rfl ⟨_, _, _, rfl, l13, h13⟩ (Below.refl _ _)
            simp only [List.setIfInBounds_toArray, List.set_cons_zero, List.set_cons_succ]
            refine obs_stepR (Eq.trans (by simp only [List.getElem?_toArray, List.getElem?_cons_succ, List.getElem?_cons_zero]; exact rfl) rfl) rfl (fun w' hS hV K hK => ?_) ?_
            · have e0 : x 0 = (.agg #[.int .i64 P, .slice A n c]) := hV 0 (by decide)
              have e1 : x 1 = (.pointer (some ⟨g, 0, none⟩)) := hV 1 (by decide)
              have e2 : x 2 = (.agg #[.int .i64 P, .slice A n c]) := hV 2 (by decide)
              have e3 : x 3 = (.int .i64 (pw n)) := hV 3 (by decide)
              have e4 : x 4 = (.pointer (some ⟨w2.heap.size, 0, none⟩)) := hV 4 (by decide)
              have e5 : x 5 = (.int .i64 (P)) := hV 5 (by decide)
              obtain ⟨A6, c6, X6, e6, l6, u6, h6⟩ := hV 6 (by decide)
              have e7 : x 7 = (.pointer (some ⟨w2.heap.size, 1, none⟩)) := hV 7 (by decide)
              have e8 : x 8 = (.slice A n c) := hV 8 (by decide)
              have e9 : x 9 = (.int .i64 (n)) := hV 9 (by decide)
              have e10 : x 10 = (.int .i64 (2)) := hV 10 (by decide)
              obtain ⟨A11, c11, X11, e11, l11, h11⟩ := hV 11 (by decide)
              obtain ⟨A12, c12, X12, e12, l12, h12⟩ := hV 12 (by decide)
              have e14 : x 14 = (.int .i64 (0)) := hV 14 (by decide)
              obtain ⟨q0, q1⟩ := hS.1.two
              go_simp
              exact hK.out _ _ _ rfl rfl rfl (Below.refl _ _)
            simp only [List.setIfInBounds_toArray, List.set_cons_zero, List.set_cons_succ]
            refine fun w' hS hV => ?_
            have e0 : x 0 = (.agg #[.int .i64 P, .slice A n c]) := hV 0 (by decide)
            have e1 : x 1 = (.pointer (some ⟨g, 0, none⟩)) := hV 1 (by decide)
            have e2 : x 2 = (.agg #[.int .i64 P, .slice A n c]) := hV 2 (by decide)
            have e3 : x 3 = (.int .i64 (pw n)) := hV 3 (by decide)
            have e4 : x 4 = (.pointer (some ⟨w2.heap.size, 0, none⟩)) := hV 4 (by decide)
            have e5 : x 5 = (.int .i64 (P)) := hV 5 (by decide)
            obtain ⟨A6, c6, X6, e6, l6, u6, h6⟩ := hV 6 (by decide)
            have e7 : x 7 = (.pointer (some ⟨w2.heap.size, 1, none⟩)) := hV 7 (by decide)
            have e8 : x 8 = (.slice A n c) := hV 8 (by decide)
            have e9 : x 9 = (.int .i64 (n)) := hV 9 (by decide)
            have e10 : x 10 = (.int .i64 (2)) := hV 10 (by decide)
            obtain ⟨A11, c11, X11, e11, l11, h11⟩ := hV 11 (by decide)
            obtain ⟨A12, c12, X12, e12, l12, h12⟩ := hV 12 (by decide)
            obtain ⟨A13, c13, X13, e13, l13, h13⟩ := hV 13 (by decide)
            have e14 : x 14 = (.int .i64 (0)) := hV 14 (by decide)
            obtain ⟨A15, c15, X15, e15, l15, h15⟩ := hV 15 (by decide)
            have e16 : x 16 = (.int .i64 (0)) := hV 16 (by decide)
            simp only [e0, e1, e2, e3, e4, e5, e6, e7, e8, e9, e10, e11, e12, e13, e14, e15, e16]
            clear e0 e1 e2 e3 e4 e5 e6 e7 e8 e9 e10 e11 e12 e13 e14 e15 e16
            refine wpAny_done (by kernel_rfl) ?_ _
            obtain ⟨w21, rfl⟩ : ∃ W, W = w' := ⟨_, rfl⟩
            have hd10 := hS.2.2
            replace kk := hS.1
            replace oo := hS.2.1
            clear hS q0 q1 hd9
            have oY := h15
            have lY := l15
            obtain ⟨YY, hYY⟩ : ∃ V, V = X15 := ⟨_, rfl⟩
            obtain ⟨AY, hAY⟩ : ∃ V, V = A15 := ⟨_, rfl⟩
            obtain ⟨cY, hcY⟩ : ∃ V, V = c15 := ⟨_, rfl⟩
            rw [← hYY] at oY lY
            rw [← hAY] at oY ⊢
            rw [← hcY] at oY ⊢
            clear hYY hAY hcY h15 l15
            have HYN := Lib.hid lY
            have HOY := Lib.hid oY
            clear lY oY
            have hd9 := Dr.refl hd10.s'
            obtain ⟨q0, q1⟩ := kk.two
            go_wp2
            refine wp_obsR 17 (Dr g 99) [[], [], [], [2], [], [4], [1, 2, 3, 4, 5], [], [7], [7, 8], [7, 8, 9], [0, 1, 2, 3, 4, 5, 6, 7, 8, 9, 10], [0, 1, 2, 3, 4, 5, 6, 7, 8, 9, 10, 11], [0, 1, 2, 3, 4, 5, 6, 7, 8, 9, 10, 11, 12], [0, 1, 2, 3, 4, 5, 6, 7, 8, 9, 10, 11, 12], [0, 1, 2, 3, 4, 5, 6, 7, 8, 9, 10, 11, 12, 13], [0, 1, 2, 3, 4, 5, 6, 7, 8, 9, 10, 11, 12, 14]] [[], [], [], [], [], [], [99], [], [], [], [], [], [], [], [], [], []] (fun x => [VIs (.agg #[.int .i64 P, .slice A n c]), VIs (.pointer (some ⟨g, 0, none⟩)), VIs (.agg #[.int .i64 P, .slice A n c]), VIs (.int .i64 (pw n)), VIs (.pointer (some ⟨w2.heap.size, 0, none⟩)), VIs (.int .i64 (P)), VLs w21.heap.size (pw n) P, VIs (.pointer (some ⟨w2.heap.size, 1, none⟩)), VIs (.slice A n c), VIs (.int .i64 (n)), VIs (.int .i64 (2)), VTx w21.heap.size (pw n) P, VTx w21.heap.size (pw n) P, VLo w21.heap.size (pw n) P, VIs (.int .i64 (0)), VLo w21.heap.size (pw n) P, VIs (.int .i64 (0))]) (fun w' => Blk w' w2.heap.size 26 #[.int .i64 P, .slice A n c] ∧ Own w' 0 2 A n c (ints sq) ∧ Dr g 99 w21 w') (by kernel_rfl) (by kernel_rfl) (fun x x' j hx => by
                rcases j with _ | _ | _ | _ | _ | _ | _ | _ | _ | _ | _ | _ | _ | _ | _ | _ | _ | j
                · rfl
                · rfl
                · rfl
                · rfl
                · rfl
                · rfl
                · rfl
                · rfl
                · rfl
                · rfl
                · rfl
                · rfl
                · rfl
                · rfl
                · rfl
                · rfl
                · rfl
                · rfl)
              (weak_ofR [0, 1, 2, 3, 4, 5, 6, 7, 8, 9, 10, 11, 12, 13, 14, 15, 16] (by decide) (fun k hk x v w w' hp hr => by
                simp only [List.mem_cons, List.not_mem_nil, or_false] at hk
                rcases hk with rfl | rfl | rfl | rfl | rfl | rfl | rfl | rfl | rfl | rfl | rfl | rfl | rfl | rfl | rfl | rfl | rfl
                · exact hp
                · exact hp
                · exact hp
                · exact hp
                · exact hp
                · exact hp
                · exact VLs.dr hp hr (by decide)
                · exact hp
                · exact hp
                · exact hp
                · exact hp
                · exact VTx.dr hp hr (by decide)
                · exact VTx.dr hp hr (by decide)
                · exact VLo.dr hp hr (by decide)
                · exact hp
                · exact VLo.dr hp hr (by decide)
                · exact hp)) (fun j _ _ h hb => hb.either (fun hb => ⟨h.1.below hb h.1.lt, h.2.1.below hb, h.2.2.then hb⟩) (fun hr => ⟨h.1.dr hr (by decide), h.2.1.dr hr (by decide), h.2.2.trans hr⟩)) (⟨kk.drew, oo.below (Below.refl _ _).drew, hd9.then (Below.refl _ _).drew⟩) (fun x => ?_)
            refine obs_stepR (Eq.trans (by simp only [List.getElem?_toArray, List.getElem?_cons_zero]; exact rfl) rfl) rfl (fun w' hS hV K hK => ?_) ?_
            · obtain ⟨q0, q1⟩ := hS.1.two
              go_simp
              exact hK.out _ _ _ rfl rfl rfl (Below.refl _ _)
            simp only [List.setIfInBounds_toArray, List.set_cons_zero, List.set_cons_succ]
            refine obs_stepR (Eq.trans (by simp only [List.getElem?_toArray, List.getElem?_cons_succ, List.getElem?_cons_zero]; exact rfl) rfl) rfl (fun w' hS hV K hK => ?_) ?_
            · obtain ⟨q0, q1⟩ := hS.1.two
              go_simp
              exact hK.out _ _ _ rfl rfl rfl (Below.refl _ _)
            simp only [List.setIfInBounds_toArray, List.set_cons_zero, List.set_cons_succ]
            refine obs_stepR (Eq.trans (by simp only [List.getElem?_toArray, List.getElem?_cons_succ, List.getElem?_cons_zero]; exact rfl) rfl) rfl (fun w' hS hV K hK => ?_) ?_
            · obtain ⟨q0, q1⟩ := hS.1.two
              go_simp
              exact hK.out _ _ _ rfl rfl rfl (Below.refl _ _)
            simp only [List.setIfInBounds_toArray, List.set_cons_zero, List.set_cons_succ]
            refine obs_stepR (Eq.trans (by simp only [List.getElem?_toArray, List.getElem?_cons_succ, List.getElem?_cons_zero]; exact rfl) rfl) rfl (fun w' hS hV K hK => ?_) ?_
            · have e2 : x 2 = (.agg #[.int .i64 P, .slice A n c]) := hV 2 (by decide)
              obtain ⟨q0, q1⟩ := hS.1.two
              go_simp
              refine (size5_any P A n c w' (by omega)).mono ?_
              rintro e v1 ⟨rfl, hb⟩
              exact hK.out _ _ _ rfl rfl rfl hb
            simp only [List.setIfInBounds_toArray, List.set_cons_zero, List.set_cons_succ]
            refine obs_stepR (Eq.trans (by simp only [List.getElem?_toArray, List.getElem?_cons_succ, List.getElem?_cons_zero]; exact rfl) rfl) rfl (fun w' hS hV K hK => ?_) ?_
            · obtain ⟨q0, q1⟩ := hS.1.two
              go_simp
              exact hK.out _ _ _ rfl rfl rfl (Below.refl _ _)
            simp only [List.setIfInBounds_toArray, List.set_cons_zero, List.set_cons_succ]
            refine obs_stepR (Eq.trans (by simp only [List.getElem?_toArray, List.getElem?_cons_succ, List.getElem?_cons_zero]; exact rfl) rfl) rfl (fun w' hS hV K hK => ?_) ?_
            · have e4 : x 4 = (.pointer (some ⟨w2.heap.size, 0, none⟩)) := hV 4 (by decide)
              obtain ⟨q0, q1⟩ := hS.1.two
              go_simp
              exact hK.out _ _ _ rfl rfl rfl (Below.refl _ _)
            simp only [List.setIfInBounds_toArray, List.set_cons_zero, List.set_cons_succ]
            refine obs_stepR (Eq.trans (by simp only [List.getElem?_toArray, List.getElem?_cons_succ, List.getElem?_cons_zero]; exact rfl) rfl) rfl (fun w' hS hV K hK => ?_) ?_
            · have e1 : x 1 = (.pointer (some ⟨g, 0, none⟩)) := hV 1 (by decide)
              have e2 : x 2 = (.agg #[.int .i64 P, .slice A n c]) := hV 2 (by decide)
              have e3 : x 3 = (.int .i64 (pw n)) := hV 3 (by decide)
              have e4 : x 4 = (.pointer (some ⟨w2.heap.size, 0, none⟩)) := hV 4 (by decide)
              have e5 : x 5 = (.int .i64 (P)) := hV 5 (by decide)
              obtain ⟨q0, q1⟩ := hS.1.two
              go_simp
              refine (belowList_any g P (pw n) w' hS.2.2.s' (by omega) (by omega)).mono ?_
              rintro e v1 ⟨A9, c9, xs9, rfl, hl9, hx9, ho9, hd9⟩
              exact hK.out _ _ _ rfl rfl ⟨_, _, xs9, rfl, hl9, nums_of (by omega) hx9, ho9.base hS.2.2.size⟩ hd9
            simp only [List.setIfInBounds_toArray, List.set_cons_zero, List.set_cons_succ]
            refine obs_stepR (Eq.trans (by simp only [List.getElem?_toArray, List.getElem?_cons_succ, List.getElem?_cons_zero]; exact rfl) rfl) rfl (fun w' hS hV K hK => ?_) ?_
            · obtain ⟨q0, q1⟩ := hS.1.two
              go_simp
              exact hK.out _ _ _ rfl rfl rfl (Below.refl _ _)
            simp only [List.setIfInBounds_toArray, List.set_cons_zero, List.set_cons_succ]
            refine obs_stepR (Eq.trans (by simp only [List.getElem?_toArray, List.getElem?_cons_succ, List.getElem?_cons_zero]; exact rfl) rfl) rfl (fun w' hS hV K hK => ?_) ?_
            · have e7 : x 7 = (.pointer (some ⟨w2.heap.size, 1, none⟩)) := hV 7 (by decide)
              obtain ⟨q0, q1⟩ := hS.1.two
              go_simp
              exact hK.out _ _ _ rfl rfl rfl (Below.refl _ _)
            simp only [List.setIfInBounds_toArray, List.set_cons_zero, List.set_cons_succ]
            refine obs_stepR (Eq.trans (by simp only [List.getElem?_toArray, List.getElem?_cons_succ, List.getElem?_cons_zero]; exact rfl) rfl) rfl (fun w' hS hV K hK => ?_) ?_
            · have e7 : x 7 = (.pointer (some ⟨w2.heap.size, 1, none⟩)) := hV 7 (by decide)
              have e8 : x 8 = (.slice A n c) := hV 8 (by decide)
              obtain ⟨q0, q1⟩ := hS.1.two
              go_simp
              exact hK.out _ _ _ rfl rfl rfl (Below.refl _ _)
            simp only [List.setIfInBounds_toArray, List.set_cons_zero, List.set_cons_succ]
            refine obs_stepR (Eq.trans (by simp only [List.getElem?_toArray, List.getElem?_cons_succ, List.getElem?_cons_zero]; exact rfl) rfl) rfl (fun w' hS hV K hK => ?_) ?_
            · have e7 : x 7 = (.pointer (some ⟨w2.heap.size, 1, none⟩)) := hV 7 (by decide)
              have e8 : x 8 = (.slice A n c) := hV 8 (by decide)
              have e9 : x 9 = (.int .i64 (n)) := hV 9 (by decide)
              obtain ⟨q0, q1⟩ := hS.1.two
              go_simp
              refine (HMN.out _).mono ?_
              rintro e v1 ⟨rfl, rfl⟩
              exact hK.out _ _ _ rfl rfl rfl (Below.refl _ _)
            simp only [List.setIfInBounds_toArray, List.set_cons_zero, List.set_cons_succ]
            refine obs_stepR (Eq.trans (by simp only [List.getElem?_toArray, List.getElem?_cons_succ, List.getElem?_cons_zero]; exact rfl) rfl) rfl (fun w' hS hV K hK => ?_) ?_
            · have e0 : x 0 = (.agg #[.int .i64 P, .slice A n c]) := hV 0 (by decide)
              have e1 : x 1 = (.pointer (some ⟨g, 0, none⟩)) := hV 1 (by decide)
              have e2 : x 2 = (.agg #[.int .i64 P, .slice A n c]) := hV 2 (by decide)
              have e3 : x 3 = (.int .i64 (pw n)) := hV 3 (by decide)
              have e4 : x 4 = (.pointer (some ⟨w2.heap.size, 0, none⟩)) := hV 4 (by decide)
              have e5 : x 5 = (.int .i64 (P)) := hV 5 (by decide)
              obtain ⟨A6, c6, X6, e6, l6, u6, h6⟩ := hV 6 (by decide)
              have e7 : x 7 = (.pointer (some ⟨w2.heap.size, 1, none⟩)) := hV 7 (by decide)
              have e8 : x 8 = (.slice A n c) := hV 8 (by decide)
              have e9 : x 9 = (.int .i64 (n)) := hV 9 (by decide)
              have e10 : x 10 = (.int .i64 (2)) := hV 10 (by decide)
              obtain ⟨q0, q1⟩ := hS.1.two
              go_simp
              refine (HGP.out _ _ _ _ hS.2.1.rd h6.rd h6.cap l6 u6).mono ?_
              rintro e v1 ⟨A9, c9, rfl, hM⟩
              exact hK.out _ _ _ rfl rfl ⟨_, _, _, rfl, HGF.out _ l6 u6, hM.2.base hS.2.2.size⟩ hM.b
            simp only [List.setIfInBounds_toArray, List.set_cons_zero, List.set_cons_succ]
            refine obs_stepR (Eq.trans (by simp only [List.getElem?_toArray, List.getElem?_cons_succ, List.getElem?_cons_zero]; exact rfl) rfl) rfl (fun w' hS hV K hK => ?_) ?_
            · have e0 : x 0 = (.agg #[.int .i64 P, .slice A n c]) := hV 0 (by decide)
              have e1 : x 1 = (.pointer (some ⟨g, 0, none⟩)) := hV 1 (by decide)
              have e2 : x 2 = (.agg #[.int .i64 P, .slice A n c]) := hV 2 (by decide)
              have e3 : x 3 = (.int .i64 (pw n)) := hV 3 (by decide)
              have e4 : x 4 = (.pointer (some ⟨w2.heap.size, 0, none⟩)) := hV 4 (by decide)
              have e5 : x 5 = (.int .i64 (P)) := hV 5 (by decide)
              obtain ⟨A6, c6, X6, e6, l6, u6, h6⟩ := hV 6 (by decide)
              have e7 : x 7 = (.pointer (some ⟨w2.heap.size, 1, none⟩)) := hV 7 (by decide)
              have e8 : x 8 = (.slice A n c) := hV 8 (by decide)
              have e9 : x 9 = (.int .i64 (n)) := hV 9 (by decide)
              have e10 : x 10 = (.int .i64 (2)) := hV 10 (by decide)
              obtain ⟨A11, c11, X11, e11, l11, h11⟩ := hV 11 (by decide)
              obtain ⟨q0, q1⟩ := hS.1.two
              go_simp
              exact hK.out _ _ _ rfl rfl ⟨_, _, _, rfl, l11, h11⟩ (Below.refl _ _)
            simp only [List.setIfInBounds_toArray, List.set_cons_zero, List.set_cons_succ]
            refine obs_stepR (Eq.trans (by simp only [List.getElem?_toArray, List.getElem?_cons_succ, List.getElem?_cons_zero]; exact rfl) rfl) rfl (fun w' hS hV K hK => ?_) ?_
            · have e0 : x 0 = (.agg #[.int .i64 P, .slice A n c]) := hV 0 (by decide)
              have e1 : x 1 = (.pointer (some ⟨g, 0, none⟩)) := hV 1 (by decide)
              have e2 : x 2 = (.agg #[.int .i64 P, .slice A n c]) := hV 2 (by decide)
              have e3 : x 3 = (.int .i64 (pw n)) := hV 3 (by decide)
              have e4 : x 4 = (.pointer (some ⟨w2.heap.size, 0, none⟩)) := hV 4 (by decide)
              have e5 : x 5 = (.int .i64 (P)) := hV 5 (by decide)
              obtain ⟨A6, c6, X6, e6, l6, u6, h6⟩ := hV 6 (by decide)
              have e7 : x 7 = (.pointer (some ⟨w2.heap.size, 1, none⟩)) := hV 7 (by decide)
              have e8 : x 8 = (.slice A n c) := hV 8 (by decide)
              have e9 : x 9 = (.int .i64 (n)) := hV 9 (by decide)
              have e10 : x 10 = (.int .i64 (2)) := hV 10 (by decide)
              obtain ⟨A11, c11, X11, e11, l11, h11⟩ := hV 11 (by decide)
              obtain ⟨A12, c12, X12, e12, l12, h12⟩ := hV 12 (by decide)
              obtain ⟨q0, q1⟩ := hS.1.two
              go_simp
              exact hK.out _ _ _ rfl rfl ⟨_, _, _, rfl, l12, h12⟩ (Below.refl _ _)
            simp only [List.setIfInBounds_toArray, List.set_cons_zero, List.set_cons_succ]
            refine obs_stepR (Eq.trans (by simp only [List.getElem?_toArray, List.getElem?_cons_succ, List.getElem?_cons_zero]; exact rfl) rfl) rfl (fun w' hS hV K hK => ?_) ?_
            · have e0 : x 0 = (.agg #[.int .i64 P, .slice A n c]) := hV 0 (by decide)
              have e1 : x 1 = (.pointer (some ⟨g, 0, none⟩)) := hV 1 (by decide)
              have e2 : x 2 = (.agg #[.int .i64 P, .slice A n c]) := hV 2 (by decide)
              have e3 : x 3 = (.int .i64 (pw n)) := hV 3 (by decide)
              have e4 : x 4 = (.pointer (some ⟨w2.heap.size, 0, none⟩)) := hV 4 (by decide)
              have e5 : x 5 = (.int .i64 (P)) := hV 5 (by decide)
              obtain ⟨A6, c6, X6, e6, l6, u6, h6⟩ := hV 6 (by decide)
              have e7 : x 7 = (.pointer (some ⟨w2.heap.size, 1, none⟩)) := hV 7 (by decide)
              have e8 : x 8 = (.slice A n c) := hV 8 (by decide)
              have e9 : x 9 = (.int .i64 (n)) := hV 9 (by decide)
              have e10 : x 10 = (.int .i64 (2)) := hV 10 (by decide)
              obtain ⟨A11, c11, X11, e11, l11, h11⟩ := hV 11 (by decide)
              obtain ⟨A12, c12, X12, e12, l12, h12⟩ := hV 12 (by decide)
              obtain ⟨q0, q1⟩ := hS.1.two
              go_simp
              exact hK.out _ _ _ rfl rfl rfl (Below.refl _ _)
            simp only [List.setIfInBounds_toArray, List.set_cons_zero, List.set_cons_succ]
            refine obs_stepR (Eq.trans (by simp only [List.getElem?_toArray, List.getElem?_cons_succ, List.getElem?_cons_zero]; exact rfl) rfl) rfl (fun w' hS hV K hK => ?_) ?_
            · have e0 : x 0 = (.agg #[.int .i64 P, .slice A n c]) := hV 0 (by decide)
              have e1 : x 1 = (.pointer (some ⟨g, 0, none⟩)) := hV 1 (by decide)
              have e2 : x 2 = (.agg #[.int .i64 P, .slice A n c]) := hV 2 (by decide)
              have e3 : x 3 = (.int .i64 (pw n)) := hV 3 (by decide)
              have e4 : x 4 = (.pointer (some ⟨w2.heap.size, 0, none⟩)) := hV 4 (by decide)
              have e5 : x 5 = (.int .i64 (P)) := hV 5 (by decide)
              obtain ⟨A6, c6, X6, e6, l6, u6, h6⟩ := hV 6 (by decide)
              have e7 : x 7 = (.pointer (some ⟨w2.heap.size, 1, none⟩)) := hV 7 (by decide)
              have e8 : x 8 = (.slice A n c) := hV 8 (by decide)
              have e9 : x 9 = (.int .i64 (n)) := hV 9 (by decide)
              have e10 : x 10 = (.int .i64 (2)) := hV 10 (by decide)
              obtain ⟨A11, c11, X11, e11, l11, h11⟩ := hV 11 (by decide)
              obtain ⟨A12, c12, X12, e12, l12, h12⟩ := hV 12 (by decide)
              obtain ⟨A13, c13, X13, e13, l13, h13⟩ := hV 13 (by decide)
              obtain ⟨q0, q1⟩ := hS.1.two
              go_simp
              exact hK.out _ _ _ rfl rfl ⟨_, _, _, rfl, l13, h13⟩ (Below.refl _ _)
            simp only [List.setIfInBounds_toArray, List.set_cons_zero, List.set_cons_succ]
            refine obs_stepR (Eq.trans (by simp only [List.getElem?_toArray, List.getElem?_cons_succ, List.getElem?_cons_zero]; exact rfl) rfl) rfl (fun w' hS hV K hK => ?_) ?_
            · have e0 : x 0 = (.agg #[.int .i64 P, .slice A n c]) := hV 0 (by decide)
              have e1 : x 1 = (.pointer (some ⟨g, 0, none⟩)) := hV 1 (by decide)
              have e2 : x 2 = (.agg #[.int .i64 P, .slice A n c]) := hV 2 (by decide)
              have e3 : x 3 = (.int .i64 (pw n)) := hV 3 (by decide)
              have e4 : x 4 = (.pointer (some ⟨w2.heap.size, 0, none⟩)) := hV 4 (by decide)
              have e5 : x 5 = (.int .i64 (P)) := hV 5 (by decide)
              obtain ⟨A6, c6, X6, e6, l6, u6, h6⟩ := hV 6 (by decide)
              have e7 : x 7 = (.pointer (some ⟨w2.heap.size, 1, none⟩)) := hV 7 (by decide)
              have e8 : x 8 = (.slice A n c) := hV 8 (by decide)
              have e9 : x 9 = (.int .i64 (n)) := hV 9 (by decide)
              have e10 : x 10 = (.int .i64 (2)) := hV 10 (by decide)
              obtain ⟨A11, c11, X11, e11, l11, h11⟩ := hV 11 (by decide)
              obtain ⟨A12, c12, X12, e12, l12, h12⟩ := hV 12 (by decide)
              have e14 : x 14 = (.int .i64 (0)) := hV 14 (by decide)
              obtain ⟨q0, q1⟩ := hS.1.two
              go_simp
              exact hK.out _ _ _ rfl rfl rfl (Below.refl _ _)
            simp only [List.setIfInBounds_toArray, List.set_cons_zero, List.set_cons_succ]
            refine fun w' hS hV => ?_
            have e0 : x 0 = (.agg #[.int .i64 P, .slice A n c]) := hV 0 (by decide)
            have e1 : x 1 = (.pointer (some ⟨g, 0, none⟩)) := hV 1 (by decide)
            have e2 : x 2 = (.agg #[.int .i64 P, .slice A n c]) := hV 2 (by decide)
            have e3 : x 3 = (.int .i64 (pw n)) := hV 3 (by decide)
            have e4 : x 4 = (.pointer (some ⟨w2.heap.size, 0, none⟩)) := hV 4 (by decide)
            have e5 : x 5 = (.int .i64 (P)) := hV 5 (by decide)
            obtain ⟨A6, c6, X6, e6, l6, u6, h6⟩ := hV 6 (by decide)
            have e7 : x 7 = (.pointer (some ⟨w2.heap.size, 1, none⟩)) := hV 7 (by decide)
            have e8 : x 8 = (.slice A n c) := hV 8 (by decide)
            have e9 : x 9 = (.int .i64 (n)) := hV 9 (by decide)
            have e10 : x 10 = (.int .i64 (2)) := hV 10 (by decide)
            obtain ⟨A11, c11, X11, e11, l11, h11⟩ := hV 11 (by decide)
            obtain ⟨A12, c12, X12, e12, l12, h12⟩ := hV 12 (by decide)
            obtain ⟨A13, c13, X13, e13, l13, h13⟩ := hV 13 (by decide)
            have e14 : x 14 = (.int .i64 (0)) := hV 14 (by decide)
            obtain ⟨A15, c15, X15, e15, l15, h15⟩ := hV 15 (by decide)
            have e16 : x 16 = (.int .i64 (0)) := hV 16 (by decide)
            simp only [e0, e1, e2, e3, e4, e5, e6, e7, e8, e9, e10, e11, e12, e13, e14, e15, e16]
            clear e0 e1 e2 e3 e4 e5 e6 e7 e8 e9 e10 e11 e12 e13 e14 e15 e16
            refine wpAny_done (by kernel_rfl) ?_ _
            obtain ⟨w22, rfl⟩ : ∃ W, W = w' := ⟨_, rfl⟩
            have hd11 := hS.2.2
            clear hS q0 q1 kk oo hd9 HMN HGP HGF
            have r_w := h15
            have lW := l15
            obtain ⟨WW, hWW⟩ : ∃ V, V = X15 := ⟨_, rfl⟩
            obtain ⟨AW, hAW⟩ : ∃ V, V = A15 := ⟨_, rfl⟩
            obtain ⟨cW, hcW⟩ : ∃ V, V = c15 := ⟨_, rfl⟩
            rw [← hWW] at r_w lW
            rw [← hAW] at r_w ⊢
            rw [← hcW] at r_w ⊢
            clear hWW hAW hcW h15 l15
            have HWN := Lib.hid lW
            clear lW
            have i_w := r_w.cap
            have r_y := HOY.out.dr hd11 (by decide)
            have i_y := r_y.cap
            have hb7 := hb9.trans ((hd10.b.mono hg).trans (hd11.b.mono hg))
            replace r_x := r_x.below hb7
            replace hW := hW.trans (hb7.mono hW.size)
            replace r_w := r_w.rd
            replace r_y := r_y.rd
            replace r_x := r_x.rd
            clear hb7 hb9 hd10 hd11 hs9 hg HOY
            have i_x := hcx
            have hfb := HBB.out xs YY HXN.out HYN.out
            obtain ⟨XY, hXY⟩ : ∃ R, R = hbL P sq xs YY := ⟨_, rfl⟩
            rw [← hXY] at hfb
            have kk := k3.below hW k3.lt
            obtain ⟨q0, q1⟩ := kk.two
            clear kk
            have hcall := BB_ok P A n c sq A1 (pw n) c1 xs AY (pw n) cY YY w22 (by omega) (by omega) (by omega) (o3.below hW) r_x i_x r_y i_y XY (pw n) hfb.1 hfb.2.1
            go_wp2_with fail
            refine hcall.mono ?_
            rintro e w23 ⟨AXY, cXY, rfl, hM⟩
            replace r_x := r_x.below hM.b
            replace r_y := r_y.below hM.b
            replace r_w := r_w.below hM.b
            have r_xy := hM.rd
            have i_xy := hM.2.cap
            replace hW := hW.trans (hM.b.mono hW.size)
            clear hM
            have HXY := Lib.hid hfb.2
            have HHXY := Lib.hid hXY
            clear hfb hXY
            clear hcall q0 q1
            have hfb := HBB.out YY WW HYN.out HWN.out
            obtain ⟨YW, hYW⟩ : ∃ R, R = hbL P sq YY WW := ⟨_, rfl⟩
            rw [← hYW] at hfb
            have kk := k3.below hW k3.lt
            obtain ⟨q0, q1⟩ := kk.two
            clear kk
            have hcall := BB_ok P A n c sq AY (pw n) cY YY AW (pw n) cW WW w23 (by omega) (by omega) (by omega) (o3.below hW) r_y i_y r_w i_w YW (pw n) hfb.1 hfb.2.1
            go_wp2_with fail
            refine hcall.mono ?_
            rintro e w24 ⟨AYW, cYW, rfl, hM⟩
            replace r_x := r_x.below hM.b
            replace r_y := r_y.below hM.b
            replace r_w := r_w.below hM.b
            replace r_xy := r_xy.below hM.b
            have r_yw := hM.rd
            have i_yw := hM.2.cap
            replace hW := hW.trans (hM.b.mono hW.size)
            clear hM
            have HYW := Lib.hid hfb.2
            have HHYW := Lib.hid hYW
            clear hfb hYW
            clear hcall q0 q1
            have hfb := HBB.out WW xs HWN.out HXN.out
            obtain ⟨WX, hWX⟩ : ∃ R, R = hbL P sq WW xs := ⟨_, rfl⟩
            rw [← hWX] at hfb
            have kk := k3.below hW k3.lt
            obtain ⟨q0, q1⟩ := kk.two
            clear kk
            have hcall := BB_ok P A n c sq AW (pw n) cW WW A1 (pw n) c1 xs w24 (by omega) (by omega) (by omega) (o3.below hW) r_w i_w r_x i_x WX (pw n) hfb.1 hfb.2.1
            go_wp2_with fail
            refine hcall.mono ?_
            rintro e w25 ⟨AWX, cWX, rfl, hM⟩
            replace r_x := r_x.below hM.b
            replace r_y := r_y.below hM.b
            replace r_w := r_w.below hM.b
            replace r_xy := r_xy.below hM.b
            replace r_yw := r_yw.below hM.b
            have r_wx := hM.rd
            have i_wx := hM.2.cap
            replace hW := hW.trans (hM.b.mono hW.size)
            clear hM
            have HWX := Lib.hid hfb.2
            have HHWX := Lib.hid hWX
            clear hfb hWX
            clear hcall q0 q1
            have hfb := HBB.out XY WW HXY.out HWN.out
            obtain ⟨R1, hR1⟩ : ∃ R, R = hbL P sq XY WW := ⟨_, rfl⟩
            rw [← hR1] at hfb
            have kk := k3.below hW k3.lt
            obtain ⟨q0, q1⟩ := kk.two
            clear kk
            have hcall := BB_ok P A n c sq AXY (pw n) cXY XY AW (pw n) cW WW w25 (by omega) (by omega) (by omega) (o3.below hW) r_xy i_xy r_w i_w R1 (pw n) hfb.1 hfb.2.1
            go_wp2_with fail
            refine hcall.mono ?_
            rintro e w26 ⟨AR1, cR1, rfl, hM⟩
            replace r_x := r_x.below hM.b
            replace r_y := r_y.below hM.b
            replace r_w := r_w.below hM.b
            replace r_xy := r_xy.below hM.b
            replace r_yw := r_yw.below hM.b
            replace r_wx := r_wx.below hM.b
            have r_r1 := hM.rd
            have i_r1 := hM.2.cap
            replace hW := hW.trans (hM.b.mono hW.size)
            clear hM
            have HR1 := Lib.hid hfb.2
            have HHR1 := Lib.hid hR1
            clear hfb hR1
            clear hcall q0 q1
            clear r_xy
            have hfb := HBB.out YW xs HYW.out HXN.out
            obtain ⟨R2, hR2⟩ : ∃ R, R = hbL P sq YW xs := ⟨_, rfl⟩
            rw [← hR2] at hfb
            have kk := k3.below hW k3.lt
            obtain ⟨q0, q1⟩ := kk.two
            clear kk
            have hcall := BB_ok P A n c sq AYW (pw n) cYW YW A1 (pw n) c1 xs w26 (by omega) (by omega) (by omega) (o3.below hW) r_yw i_yw r_x i_x R2 (pw n) hfb.1 hfb.2.1
            go_wp2_with fail
            refine hcall.mono ?_
            rintro e w27 ⟨AR2, cR2, rfl, hM⟩
            replace r_x := r_x.below hM.b
            replace r_y := r_y.below hM.b
            replace r_w := r_w.below hM.b
            replace r_yw := r_yw.below hM.b
            replace r_wx := r_wx.below hM.b
            replace r_r1 := r_r1.below hM.b
            have r_r2 := hM.rd
            have i_r2 := hM.2.cap
            replace hW := hW.trans (hM.b.mono hW.size)
            clear hM
            have HR2 := Lib.hid hfb.2
            have HHR2 := Lib.hid hR2
            clear hfb hR2
            clear hcall q0 q1
            clear r_yw
            have hfb := HBB.out WX YY HWX.out HYN.out
            obtain ⟨R3, hR3⟩ : ∃ R, R = hbL P sq WX YY := ⟨_, rfl⟩
            rw [← hR3] at hfb
            have kk := k3.below hW k3.lt
            obtain ⟨q0, q1⟩ := kk.two
            clear kk
            have hcall := BB_ok P A n c sq AWX (pw n) cWX WX AY (pw n) cY YY w27 (by omega) (by omega) (by omega) (o3.below hW) r_wx i_wx r_y i_y R3 (pw n) hfb.1 hfb.2.1
            go_wp2_with fail
            refine hcall.mono ?_
            rintro e w28 ⟨AR3, cR3, rfl, hM⟩
            replace r_x := r_x.below hM.b
            replace r_y := r_y.below hM.b
            replace r_w := r_w.below hM.b
            replace r_wx := r_wx.below hM.b
            replace r_r1 := r_r1.below hM.b
            replace r_r2 := r_r2.below hM.b
            have r_r3 := hM.rd
            have i_r3 := hM.2.cap
            replace hW := hW.trans (hM.b.mono hW.size)
            clear hM
            have HR3 := Lib.hid hfb.2
            have HHR3 := Lib.hid hR3
            clear hfb hR3
            clear hcall q0 q1
            clear r_wx r_x r_y r_w
            have kk := k3.below hW k3.lt
            obtain ⟨q0, q1⟩ := kk.two
            obtain ⟨D1, hD1⟩ : ∃ a, a = plusL P R1 R2 1 := ⟨_, rfl⟩
            obtain ⟨D2, hD2⟩ : ∃ a, a = plusL P D1 R3 1 := ⟨_, rfl⟩
            have hP1 := fun (w' : World) (h : Below w28.heap.size w28 w') => plus5_any P AR1 (pw n) cR1 AR2 cR2 1 R1 R2 w' (by omega) hp2 (by omega) (r_r1.below h) HR1.out.2.1 (r_r2.below h) HR2.out.2.1 (by omega) (by omega)
            have hP2 := fun (w' : World) (A9 : Option Addr) (c9 : Nat) (h : Below w28.heap.size w28 w') (h9 : Rd w' A9 (pw n) (ints D1)) => plus5_any P A9 (pw n) c9 AR3 cR3 1 D1 R3 w' (by omega) hp2 (by omega) h9 (by rw [hD1]; exact plusL_nums (by omega) _ _ _) (r_r3.below h) HR3.out.2.1 (by omega) (by omega)
            rw [← hD1] at hP1
            rw [← hD2] at hP2
            have HZ : Hid (∀ u ∈ D2, u = 0) := Lib.hid (by rw [hD2, hD1, HHR1.out, HHR2.out, HHR3.out, HHXY.out, HHYW.out, HHWX.out]; exact HJC.out YY WW HYN.out.1 HYN.out.2.1 HWN.out.1 HWN.out.2.1)
            have HP1 := Lib.hid hP1
            have HP2 := Lib.hid hP2
            clear hP1 hP2 hD1 hD2 r_r1 r_r2 r_r3
            go_wp2
            refine wp_obs 10 [[], [0], [], [2], [], [], [2, 3, 4, 5], [], [0, 1, 2, 3, 4, 5, 6, 7], [0, 1, 2, 3, 4, 5, 6, 7, 8]] [VIs (.pointer (some ⟨w2.heap.size, 0, none⟩)), VIs (.int .i64 (P)), VIs (.pointer (some ⟨w2.heap.size, 0, none⟩)), VIs (.int .i64 (P)), VIs (.slice AR1 (pw n) cR1), VIs (.slice AR2 (pw n) cR2), VSl w28 (pw n) D1, VIs (.slice AR3 (pw n) cR3), VSl w28 (pw n) D2, VSl w28 (pw n) D2] (fun w' => Blk w' w2.heap.size 26 #[.int .i64 P, .slice A n c] ∧ Below w28.heap.size w28 w') (by kernel_rfl) (by kernel_rfl) (fun _ _ h hb => ⟨h.1.below hb h.1.lt, h.2.trans (hb.mono h.2.size)⟩) (⟨kk.drew, (Below.refl _ _).drew⟩) (fun x => ?_)
            refine obs_step (Eq.trans (by simp only [List.getElem?_toArray, List.getElem?_cons_zero]; exact rfl) rfl) rfl (fun w' hS hV K hK => ?_) ?_
            · obtain ⟨q0, q1⟩ := hS.1.two
              go_simp
              exact hK.out _ _ _ rfl rfl rfl (Below.refl _ _)
            simp only [List.setIfInBounds_toArray, List.set_cons_zero, List.set_cons_succ]
            refine obs_step (Eq.trans (by simp only [List.getElem?_toArray, List.getElem?_cons_succ, List.getElem?_cons_zero]; exact rfl) rfl) rfl (fun w' hS hV K hK => ?_) ?_
            · have e0 : x 0 = (.pointer (some ⟨w2.heap.size, 0, none⟩)) := hV 0 (by decide)
              obtain ⟨q0, q1⟩ := hS.1.two
              go_simp
              exact hK.out _ _ _ rfl rfl rfl (Below.refl _ _)
            simp only [List.setIfInBounds_toArray, List.set_cons_zero, List.set_cons_succ]
            refine obs_step (Eq.trans (by simp only [List.getElem?_toArray, List.getElem?_cons_succ, List.getElem?_cons_zero]; exact rfl) rfl) rfl (fun w' hS hV K hK => ?_) ?_
            · obtain ⟨q0, q1⟩ := hS.1.two
              go_simp
              exact hK.out _ _ _ rfl rfl rfl (Below.refl _ _)
            simp only [List.setIfInBounds_toArray, List.set_cons_zero, List.set_cons_succ]
            refine obs_step (Eq.trans (by simp only [List.getElem?_toArray, List.getElem?_cons_succ, List.getElem?_cons_zero]; exact rfl) rfl) rfl (fun w' hS hV K hK => ?_) ?_
            · have e2 : x 2 = (.pointer (some ⟨w2.heap.size, 0, none⟩)) := hV 2 (by decide)
              obtain ⟨q0, q1⟩ := hS.1.two
              go_simp
              exact hK.out _ _ _ rfl rfl rfl (Below.refl _ _)
            simp only [List.setIfInBounds_toArray, List.set_cons_zero, List.set_cons_succ]
            refine obs_step (Eq.trans (by simp only [List.getElem?_toArray, List.getElem?_cons_succ, List.getElem?_cons_zero]; exact rfl) rfl) rfl (fun w' hS hV K hK => ?_) ?_
            · obtain ⟨q0, q1⟩ := hS.1.two
              go_simp
              exact hK.out _ _ _ rfl rfl rfl (Below.refl _ _)
            simp only [List.setIfInBounds_toArray, List.set_cons_zero, List.set_cons_succ]
            refine obs_step (Eq.trans (by simp only [List.getElem?_toArray, List.getElem?_cons_succ, List.getElem?_cons_zero]; exact rfl) rfl) rfl (fun w' hS hV K hK => ?_) ?_
            · obtain ⟨q0, q1⟩ := hS.1.two
              go_simp
              exact hK.out _ _ _ rfl rfl rfl (Below.refl _ _)
            simp only [List.setIfInBounds_toArray, List.set_cons_zero, List.set_cons_succ]
            refine obs_step (Eq.trans (by simp only [List.getElem?_toArray, List.getElem?_cons_succ, List.getElem?_cons_zero]; exact rfl) rfl) rfl (fun w' hS hV K hK => ?_) ?_
            · have e2 : x 2 = (.pointer (some ⟨w2.heap.size, 0, none⟩)) := hV 2 (by decide)
              have e3 : x 3 = (.int .i64 (P)) := hV 3 (by decide)
              have e4 : x 4 = (.slice AR1 (pw n) cR1) := hV 4 (by decide)
              have e5 : x 5 = (.slice AR2 (pw n) cR2) := hV 5 (by decide)
              obtain ⟨q0, q1⟩ := hS.1.two
              go_simp
              refine (HP1.out _ hS.2).mono ?_
              rintro e v1 ⟨A9, c9, rfl, hM⟩
              exact hK.out _ _ _ rfl rfl ⟨_, _, rfl, hM.after hS.2⟩ hM.b
            simp only [List.setIfInBounds_toArray, List.set_cons_zero, List.set_cons_succ]
            refine obs_step (Eq.trans (by simp only [List.getElem?_toArray, List.getElem?_cons_succ, List.getElem?_cons_zero]; exact rfl) rfl) rfl (fun w' hS hV K hK => ?_) ?_
            · obtain ⟨q0, q1⟩ := hS.1.two
              go_simp
              exact hK.out _ _ _ rfl rfl rfl (Below.refl _ _)
            simp only [List.setIfInBounds_toArray, List.set_cons_zero, List.set_cons_succ]
            refine obs_step (Eq.trans (by simp only [List.getElem?_toArray, List.getElem?_cons_succ, List.getElem?_cons_zero]; exact rfl) rfl) rfl (fun w' hS hV K hK => ?_) ?_
            · have e0 : x 0 = (.pointer (some ⟨w2.heap.size, 0, none⟩)) := hV 0 (by decide)
              have e1 : x 1 = (.int .i64 (P)) := hV 1 (by decide)
              have e2 : x 2 = (.pointer (some ⟨w2.heap.size, 0, none⟩)) := hV 2 (by decide)
              have e3 : x 3 = (.int .i64 (P)) := hV 3 (by decide)
              have e4 : x 4 = (.slice AR1 (pw n) cR1) := hV 4 (by decide)
              have e5 : x 5 = (.slice AR2 (pw n) cR2) := hV 5 (by decide)
              obtain ⟨A6, c6, e6, h6⟩ := hV 6 (by decide)
              have e7 : x 7 = (.slice AR3 (pw n) cR3) := hV 7 (by decide)
              obtain ⟨q0, q1⟩ := hS.1.two
              go_simp
              refine (HP2.out _ _ _ hS.2 h6.rd).mono ?_
              rintro e v1 ⟨A9, c9, rfl, hM⟩
              exact hK.out _ _ _ rfl rfl ⟨_, _, rfl, hM.after hS.2⟩ hM.b
            simp only [List.setIfInBounds_toArray, List.set_cons_zero, List.set_cons_succ]
            refine obs_step (Eq.trans (by simp only [List.getElem?_toArray, List.getElem?_cons_succ, List.getElem?_cons_zero]; exact rfl) rfl) rfl (fun w' hS hV K hK => ?_) ?_
            · have e0 : x 0 = (.pointer (some ⟨w2.heap.size, 0, none⟩)) := hV 0 (by decide)
              have e1 : x 1 = (.int .i64 (P)) := hV 1 (by decide)
              have e2 : x 2 = (.pointer (some ⟨w2.heap.size, 0, none⟩)) := hV 2 (by decide)
              have e3 : x 3 = (.int .i64 (P)) := hV 3 (by decide)
              have e4 : x 4 = (.slice AR1 (pw n) cR1) := hV 4 (by decide)
              have e5 : x 5 = (.slice AR2 (pw n) cR2) := hV 5 (by decide)
              obtain ⟨A6, c6, e6, h6⟩ := hV 6 (by decide)
              have e7 : x 7 = (.slice AR3 (pw n) cR3) := hV 7 (by decide)
              obtain ⟨A8, c8, e8, h8⟩ := hV 8 (by decide)
              obtain ⟨q0, q1⟩ := hS.1.two
              go_simp
              exact hK.out _ _ _ rfl rfl ⟨_, _, rfl, h8⟩ (Below.refl _ _)
            simp only [List.setIfInBounds_toArray, List.set_cons_zero, List.set_cons_succ]
            refine fun w' hS hV => ?_
            have e0 : x 0 = (.pointer (some ⟨w2.heap.size, 0, none⟩)) := hV 0 (by decide)
            have e1 : x 1 = (.int .i64 (P)) := hV 1 (by decide)
            have e2 : x 2 = (.pointer (some ⟨w2.heap.size, 0, none⟩)) := hV 2 (by decide)
            have e3 : x 3 = (.int .i64 (P)) := hV 3 (by decide)
            have e4 : x 4 = (.slice AR1 (pw n) cR1) := hV 4 (by decide)
            have e5 : x 5 = (.slice AR2 (pw n) cR2) := hV 5 (by decide)
            obtain ⟨A6, c6, e6, h6⟩ := hV 6 (by decide)
            have e7 : x 7 = (.slice AR3 (pw n) cR3) := hV 7 (by decide)
            obtain ⟨A8, c8, e8, h8⟩ := hV 8 (by decide)
            obtain ⟨A9, c9, e9, h9⟩ := hV 9 (by decide)
            simp only [e0, e1, e2, e3, e4, e5, e6, e7, e8, e9]
            clear e0 e1 e2 e3 e4 e5 e6 e7 e8 e9
            refine wpAny_done (by kernel_rfl) ?_ _
            obtain ⟨w29, rfl⟩ : ∃ W, W = w' := ⟨_, rfl⟩
            have hb7 := hS.2
            replace kk := hS.1
            have r_d := h9.rd
            clear hS q0 q1 HP1 HP2
            replace hW := hW.trans (hb7.mono hW.size)
            obtain ⟨q0, q1⟩ := kk.two
            have hsz := size5_any P A n c w29 (by omega)
            have e3 : (((pw n : Nat) : Int) == ((pw n : Nat) : Int)) = true := by simp
            go_wp2_with fail
            refine hsz.mono ?_
            rintro e w30 ⟨rfl, hb10⟩
            have hz5 := zero5_any A9 (pw n) c9 D2 w30 (by omega) (r_d.below hb10)
            rw [decide_eq_true HZ.out] at hz5
            clear hsz r_d
            go_wp2_with fail
            refine hz5.mono ?_
            rintro e w31 ⟨rfl, rfl⟩
            replace hW := hW.trans (hb10.mono hW.size)
            go_wp2
            go_ret
            exact ⟨rfl, hB3.trans (hW.mono hB3.size)⟩
    · have hne : ¬ (cenR P sq xs).2 = 0 := by
        by_cases h : codeB P sq [xs] = 0
        · have h4 : ¬ sq.length ≤ 4 := fun h4 => hc ⟨h, h4⟩
          rw [cenR_big h h4]; decide
        · rw [cenR_bad h]; exact h
      have e1 : ((cenR P sq xs).2 != 0) = true := by simp [hne]
      clear r_x r_z hne hc l4
      go_wp2
      go_ret
      exact ⟨rfl, hB8⟩
end Go.Proofs.YtggigolkncckoaaGreat
