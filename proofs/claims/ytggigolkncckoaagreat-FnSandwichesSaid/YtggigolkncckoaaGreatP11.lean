/-
  LawFnSandwiches: part 11 of the texts that the proof needs. No condition.
-/
import Derived.Test.YtggigolkncckoaaGreatP10
namespace Go.Proofs.YtggigolkncckoaaGreat
open Go.RowKit
/-- The value is a tuple of a new list and the code 0. -/
def VTs (w0 : World) (n : Nat) (L : List Int) : VP := ⟨fun v w => ∃ A c, v = .tuple #[.slice A n c, .int .i64 0] ∧ MkI w0 w A n c L, fun _ _ _ ⟨A, c, e, h⟩ hb => ⟨A, c, e, h.below hb⟩⟩
theorem sandMR_len64 (P : Int) (sq xs ys : List Int) : (sandMR P sq xs ys).1.length ≤ 64 := by
  by_cases h : codeM P sq [xs, ys] = 0
  · by_cases h1 : codeVr P sq xs = 0
    · rw [sandMR_ok h h1]
      obtain ⟨-, -, -, -, hd2, -, hms⟩ := codeM_spec2 h
      show (sandM P sq xs ys).length ≤ 64
      unfold sandM
      rw [mulL_len, mulL_len, (hms xs (by simp)).1]
      exact pw_le (k := 6) hd2
    · rw [sandMR_vr h h1]; simp
  · rw [sandMR_m h]; simp
/-- The three cases of a versor and a multivector. -/
theorem sand_cases (P : Int) (sq xs ys : List Int) :
    ((isVersR P sq xs).2 = 0 ∧ (isVersR P sq xs).1 = false ∧ ((sandMR P sq xs ys).2 = 5 ∨ (sandMR P sq xs ys).2 = 2)) ∨
    (((isVersR P sq xs).2 ≠ 0 ∨ (isVersR P sq xs).1 = true) ∧ (sandMR P sq xs ys).2 ≠ 0) ∨
    ((isVersR P sq xs).2 = 0 ∧ (isVersR P sq xs).1 = true ∧ (sandMR P sq xs ys).2 = 0 ∧ codeM P sq [xs, ys] = 0 ∧ codeVr P sq xs = 0) := by
  unfold isVersR
  by_cases hR : codeR P sq [xs] = 0
  · rw [if_pos hR]
    cases hv : versB P sq sq.length xs
    · refine .inl ⟨rfl, rfl, ?_⟩
      by_cases hM : codeM P sq [xs, ys] = 0
      · have h5 := codeVr_5 hR hv
        rw [sandMR_vr hM (by rw [h5]; decide), h5]
        exact .inl rfl
      · rw [sandMR_m hM]
        have h1 : codeM P sq [xs] = 0 := by
          unfold codeR at hR
          by_cases h : codeM P sq [xs] = 0
          · exact h
          · rw [if_neg h] at hR; exact hR
        refine .inr ?_
        show codeM P sq [xs, ys] = 2
        unfold codeM at hM ⊢
        rw [if_pos (codeM_sp h1).1] at hM ⊢
        split
        · rfl
        · rename_i h; rw [if_neg h] at hM; exact absurd rfl hM
    · have h0 := codeVr_0 hR hv
      by_cases hM : codeM P sq [xs, ys] = 0
      · exact .inr (.inr ⟨rfl, rfl, by rw [sandMR_ok hM h0], hM, h0⟩)
      · exact .inr (.inl ⟨.inr rfl, by rw [sandMR_m hM]; exact hM⟩)
  · rw [if_neg hR]
    refine .inr (.inl ⟨.inl hR, ?_⟩)
    by_cases hM : codeM P sq [xs, ys] = 0
    · have h1 := codeVr_ne hR
      rw [sandMR_vr hM (by rw [h1]; exact hR), h1]; exact hR
    · rw [sandMR_m hM]; exact hM
theorem SandM_ok (P : Int) (A : Option Addr) (n c : Nat) (sq : List Int) (X : Option Addr) (m cx : Nat) (xs : List Int) (Y : Option Addr) (l cy : Nat) (ys : List Int) (w : World) (hn : n ≤ 1048576) (hm : m ≤ 1048576) (hl : l ≤ 1048576) (ha : Rd w A n (ints sq)) (hx : Rd w X m (ints xs)) (hcx : m ≤ cx) (hy : Rd w Y l (ints ys)) (hcy : l ≤ cy) (R : List Int) (q : Nat) (hR : sandMR P sq xs ys = (R, 0)) (hq : R.length = q) :
    Calls Tryz.prog 50 #[.agg #[.int .i64 P, .slice A n c], .slice X m cx, .slice Y l cy] w fun e w' => ∃ (A' : Option Addr) (c' : Nat), e = .returned (.tuple #[.slice A' q c', .int .i64 0]) ∧ MkI w w' A' q c' R := by
  have h := SandwichOfMultivector_any P A n c sq X m cx xs Y l cy ys w hn hm hl ha hx hcx hy hcy
  rw [hR] at h
  refine h.mono ?_
  rintro e w' ⟨A', k, c', rfl, hM⟩
  obtain rfl : q = k := by rw [← hq]; exact hM.rd.lenI
  exact ⟨A', c', rfl, hM⟩
theorem SandV_ok (P : Int) (A : Option Addr) (n c : Nat) (sq : List Int) (X : Option Addr) (m cx : Nat) (xs : List Int) (Y : Option Addr) (l cy : Nat) (ys : List Int) (w : World) (hn : n ≤ 1048576) (hm : m ≤ 1048576) (hl : l ≤ 1048576) (ha : Rd w A n (ints sq)) (hx : Rd w X m (ints xs)) (hcx : m ≤ cx) (hy : Rd w Y l (ints ys)) (hcy : l ≤ cy) (R : List Int) (q : Nat) (hR : sandR P sq xs ys = (R, 0)) (hq : R.length = q) :
    Calls Tryz.prog 37 #[.agg #[.int .i64 P, .slice A n c], .slice X m cx, .slice Y l cy] w fun e w' => ∃ (A' : Option Addr) (c' : Nat), e = .returned (.tuple #[.slice A' q c', .int .i64 0]) ∧ MkI w w' A' q c' R := by
  have h := SandwichOf_any P A n c sq X m cx xs Y l cy ys w hn hm hl ha hx hcx hy hcy
  rw [hR] at h
  refine h.mono ?_
  rintro e w' ⟨A', k, c', rfl, hM⟩
  obtain rfl : q = k := by rw [← hq]; exact hM.rd.lenI
  exact ⟨A', c', rfl, hM⟩
set_option maxHeartbeats 12800000 in
set_option maxRecDepth 8000 in
theorem FnSandwiches_any (B : Option Addr) (nb cb : Nat) (bs : List Int) (w : World) (r : Rd w B nb (bs.map (Value.int .u8))) (hbs : ∀ b ∈ bs, 0 ≤ b ∧ b < 256) (hbg : ∀ a, B = some a → a.block < w.heap.size) :
    Calls Tryz.prog 6 #[.slice B nb cb] w fun e w' => e = .returned (.bool true) ∧ Below w.heap.size w w' := by
  have hbig := big_any B nb cb w
  by_cases hbb : 4096 < nb
  · rw [decide_eq_true hbb] at hbig
    go_enter Tryz.func6, Tryz.ntmps6
    go_wp2_with fail
    refine hbig.mono ?_
    rintro e w1 ⟨rfl, rfl⟩
    go_wp2
    go_ret
    exact ⟨rfl, Below.refl _ _⟩
  · rw [decide_eq_false hbb] at hbig
    have hdr := DrawSandwichOfMultivector_any B nb cb bs w (by omega) r hbs hbg
    go_enter Tryz.func6, Tryz.ntmps6
    go_wp2_with fail
    refine hbig.mono ?_
    rintro e w1 ⟨rfl, rfl⟩
    clear hbig
    go_wp2_with fail
    refine hdr.mono ?_
    rintro e w2 ⟨P, A, n, c, sq, A1, m1, c1, xs, A2, m2, c2, ys, rfl, hP, hn, h1, h2, ho, hx, hy, hb2⟩
    have hcx : m1 ≤ c1 := hx.cap
    have hcy : m2 ≤ c2 := hy.cap
    have hA : Below w2.heap.size w2 (w2.alloc (.cells #[.int .i64 P, .slice A n c] 26)) := (Below.refl _ _).alloc (Nat.le_refl _) _
    have k3 : Blk (w2.alloc (.cells #[.int .i64 P, .slice A n c] 26)) w2.heap.size 26 #[.int .i64 P, .slice A n c] := Blk.new _ _ _
    have hB3 := hb2.alloc (o := .cells #[.int .i64 P, .slice A n c] 26) hb2.size
    have o3 := (ho.below hA).rd
    have x3 := (hx.below hA).rd
    have y3 := (hy.below hA).rd
    have r3 := r.below (hb2.alloc (o := .cells #[.int .i64 P, .slice A n c] 26) hb2.size)
    obtain ⟨w3, hw3⟩ : ∃ W, W = w2.alloc (.cells #[.int .i64 P, .slice A n c] 26) := ⟨_, rfl⟩
    have hb1 := SandwichOfMultivector_any P A n c sq A1 m1 c1 xs A2 m2 c2 ys w3 (by omega) (by omega) (by omega) (hw3 ▸ o3) (hw3 ▸ x3) hcx (hw3 ▸ y3) hcy
    obtain ⟨q0, q1⟩ := k3.two
    clear hdr ho hx hy hb2 r hA
    go_wp2_with fail
    rw [← hw3] at k3 hB3 o3 x3 y3 r3 ⊢
    clear hw3
    refine hb1.mono ?_
    rintro e w4 ⟨Az, mz, cz, rfl, hM4⟩
    have hW : Below w3.heap.size w3 w4 := hM4.b
    have r_x := x3.below hW
    have r_y := y3.below hW
    have r_z := hM4.rd
    have i_z := hM4.2.cap
    clear q0 q1 hb1 hM4 x3 y3
    have kk := k3.below hW k3.lt
    obtain ⟨q0, q1⟩ := kk.two
    clear kk
    have hcall := specSandwichOfMultivector_any P A n c sq A1 m1 c1 xs A2 m2 c2 ys w4 (by omega) (by omega) (by omega) (o3.below hW) r_x hcx r_y hcy
    go_wp2_with fail
    refine hcall.mono ?_
    rintro e w5 ⟨A5, m5, c5, rfl, hM⟩
    replace r_x := r_x.below hM.b
    replace r_y := r_y.below hM.b
    replace r_z := r_z.below hM.b
    have r_t := hM.rd
    replace hW := hW.trans (hM.b.mono hW.size)
    clear hM
    clear hcall q0 q1
    have kk := k3.below hW k3.lt
    obtain ⟨q0, q1⟩ := kk.two
    clear kk
    have hcall := IsVersor_any P A n c sq A1 m1 c1 xs w5 (by omega) (by omega) (o3.below hW) r_x hcx
    go_wp2_with fail
    refine hcall.mono ?_
    rintro e w6 ⟨rfl, hb7⟩
    replace r_x := r_x.below hb7
    replace r_y := r_y.below hb7
    replace r_z := r_z.below hb7
    replace r_t := r_t.below hb7
    replace hW := hW.trans (hb7.mono hW.size)
    clear hcall q0 q1
    have kk := k3.below hW k3.lt
    obtain ⟨q0, q1⟩ := kk.two
    clear kk
    have hcall := specIsVersor_any P A n c sq A1 m1 c1 xs w6 (by omega) (by omega) (o3.below hW) r_x hcx
    go_wp2_with fail
    refine hcall.mono ?_
    rintro e w7 ⟨rfl, hb7⟩
    replace r_x := r_x.below hb7
    replace r_y := r_y.below hb7
    replace r_z := r_z.below hb7
    replace r_t := r_t.below hb7
    replace hW := hW.trans (hb7.mono hW.size)
    clear hcall q0 q1
    have kk := k3.below hW k3.lt
    obtain ⟨q0, q1⟩ := kk.two
    clear kk
    have l4 := r_z.lenI
    have l5 := r_t.lenI
    have hlen := sandMR_len64 P sq xs ys
    have hcall := likeInts_any Az A5 mz m5 cz c5 _ _ w7 (by omega) (by omega) r_z r_t
    rw [decide_eq_true rfl] at hcall
    have e0 : ((sandMR P sq xs ys).2 != (sandMR P sq xs ys).2) = false := by simp
    have e1 : ((isVersR P sq xs).2 != (isVersR P sq xs).2) = false := by simp
    have e2 : ((isVersR P sq xs).1 != (isVersR P sq xs).1) = false := by simp
    clear l4 l5 hlen
    go_wp2_with fail
    refine hcall.mono ?_
    rintro e w8 ⟨rfl, j1, hw9⟩
    have hb7 := below_drewN (Below.refl w7.heap.size w7) j1
    rw [← hw9] at hb7
    replace r_x := r_x.below hb7
    replace r_y := r_y.below hb7
    replace r_z := r_z.below hb7
    replace r_t := r_t.below hb7
    replace hW := hW.trans (hb7.mono hW.size)
    clear hcall q0 q1 hb7 hw9 e0 e1 e2 r_t
    have hcs := sand_cases P sq xs ys
    obtain ⟨rc, hrc⟩ : ∃ r, r = (sandMR P sq xs ys).2 := ⟨_, rfl⟩
    obtain ⟨vb, hvb⟩ : ∃ r, r = (isVersR P sq xs).1 := ⟨_, rfl⟩
    obtain ⟨vc, hvc⟩ : ∃ r, r = (isVersR P sq xs).2 := ⟨_, rfl⟩
    rw [← hrc, ← hvb, ← hvc] at hcs ⊢
    clear hrc hvb hvc
    have hB8 := hB3.trans (hW.mono hB3.size)
    rcases hcs with ⟨rfl, rfl, hrc⟩ | ⟨hv, hrc⟩ | ⟨rfl, rfl, rfl, hM0, hV0⟩
    · clear r_x r_y r_z
      rcases hrc with rfl | rfl
      · go_wp2
        go_ret
        exact ⟨rfl, hB8⟩
      · go_wp2
        go_ret
        exact ⟨rfl, hB8⟩
    · clear r_x r_y r_z
      have e1 : (rc != 0) = true := by simp [hrc]
      clear hrc
      by_cases hv0 : vc = 0
      · have hvb : vb = true := hv.elim (fun h => absurd hv0 h) id
        subst hv0
        subst hvb
        go_wp2
        go_ret
        exact ⟨rfl, hB8⟩
      · have e2 : (vc == 0) = false := by simp [hv0]
        clear hv hv0
        go_wp2
        go_ret
        exact ⟨rfl, hB8⟩
    · obtain ⟨HPr, hp, hp2, hd1, hd2, hs0, hms⟩ := codeM_spec2 hM0
      obtain ⟨hx1, hxs0⟩ := hms xs (by simp)
      obtain ⟨hy1, hys0⟩ := hms ys (by simp)
      have hsl := o3.lenI
      obtain ⟨hsp, -⟩ := codeM_sp hM0
      obtain ⟨hcr, hvs⟩ := codeVr_zero hV0
      have hreg : regB sq = true := by
        unfold codeR at hcr
        rw [if_pos (codeM_two hM0).1] at hcr
        cases h : regB sq
        · rw [h] at hcr; exact absurd hcr (by decide)
        · rfl
      have hSW : ∀ W : List Int, W.length = pw n → NumsL P W → sandMR P sq xs W = (sandM P sq xs W, 0) ∧ (sandM P sq xs W).length = pw n ∧ codeM P sq [ys, W] = 0 ∧ sandMR P sq xs (mulL P sq ys W) = (mulL P sq (sandM P sq xs ys) (sandM P sq xs W), 0) ∧ codeM P sq [sandM P sq xs ys, sandM P sq xs W] = 0 := fun W hl hN => by
        have hl' : W.length = pw sq.length := hl.trans (by rw [hsl])
        have hsm : ∀ Y : List Int, (sandM P sq xs Y).length = pw sq.length := fun Y => by unfold sandM; rw [mulL_len, mulL_len, hx1]
        have hsn : ∀ Y : List Int, NumsL P (sandM P sq xs Y) := fun Y => by unfold sandM; exact mulL_nums (by omega) _ _ _
        have hym : (mulL P sq ys W).length = pw sq.length := by rw [mulL_len, hy1]
        refine ⟨sandMR_ok (codeM_mk hsp (all_two ⟨hx1, hxs0⟩ ⟨hl', hN⟩)) hV0, by rw [hsm, hsl], codeM_mk hsp (all_two ⟨hy1, hys0⟩ ⟨hl', hN⟩), ?_, codeM_mk hsp (all_two ⟨hsm _, hsn _⟩ ⟨hsm _, hsn _⟩)⟩
        rw [sandMR_ok (codeM_mk hsp (all_two ⟨hx1, hxs0⟩ ⟨hym, mulL_nums (by omega) _ _ _⟩)) hV0, sandM_prod HPr hd2 hx1 hxs0 hy1 hys0 hl' hN hvs]
      have hSV : ∀ V : List Int, V.length = n → NumsL P V → sandMR P sq xs (vecTo n V n) = (vecTo n (sandL P sq n xs V) n, 0) ∧ sandR P sq xs V = (sandL P sq n xs V, 0) ∧ (sandL P sq n xs V).length = n ∧ NumsL P (sandL P sq n xs V) := fun V hl hN => by
        have hv1 := sandM_vec HPr hd2 hx1 hxs0 hN hvs
        rw [hsl] at hv1
        refine ⟨?_, by rw [sandR_ok (codeM_two hM0).1 (isVe_mk (hl.trans hsl.symm) hN) hV0, hsl], sandL_len _ _ _ _ _, sandL_nums (by omega) _ _ _ _⟩
        rw [sandMR_ok (codeM_mk hsp (all_two ⟨hx1, hxs0⟩ ⟨by rw [vecTo_len, hsl], vecTo_nums (by omega) n V hN n⟩)) hV0, hv1]
      obtain rfl : m1 = pw n := by rw [← r_x.lenI, hx1, hsl]
      obtain rfl : m2 = pw n := by rw [← r_y.lenI, hy1, hsl]
      rw [sandMR_ok hM0 hV0] at r_z
      have hzl : (sandM P sq xs ys).length = pw n := by unfold sandM; rw [mulL_len, mulL_len, hx1, hsl]
      obtain ⟨Z, hZ⟩ : ∃ z, z = sandM P sq xs ys := ⟨_, rfl⟩
      rw [← hZ] at hSW hzl
      replace r_z : Rd w8 Az mz (ints Z) := by rw [hZ]; exact r_z
      obtain rfl : mz = pw n := by rw [← r_z.lenI]; exact hzl
      have HZ := Lib.hid (And.intro hZ (And.intro hzl hzl))
      have HXN : Hid (xs.length = pw n ∧ NumsL P xs) := Lib.hid ⟨hx1.trans (by rw [hsl]), hxs0⟩
      have HP := Lib.hid HPr
      have HV0 := Lib.hid hV0
      have HVB := Lib.hid hvs
      have HSL := Lib.hid hsl
      have hpw : pw n ≤ 64 := pw_le (show n ≤ 6 by omega)
      clear hM0 hV0 hms hx1 hxs0 hy1 hys0 hsl hcr hvs hZ hzl HPr hB8 hs0
      have hroll := roll_any B nb cb bs 840 w8 (by omega) (r3.below hW) hbs (fun a e => Nat.lt_of_lt_of_le (hbg a e) (Nat.le_trans hB3.size hW.size))
      go_wp2_with fail
      refine hroll.mono ?_
      rintro e w9 ⟨g, rfl, hg, hs9, hb9⟩
      clear hroll
      have kk := k3.below (hW.trans (hb9.mono hW.size)) k3.lt
      have hd9 := Dr.refl hs9
      obtain ⟨q0, q1⟩ := kk.two
      go_wp2
      refine wp_obsR 7 (Dr g 99) [[], [], [1], [], [3], [0, 1, 2, 3, 4], [0, 1, 2, 3, 4, 5]] [[], [], [], [], [], [99], []] (fun x => [VIs (.pointer (some ⟨g, 0, none⟩)), VIs (.agg #[.int .i64 P, .slice A n c]), VIs (.int .i64 (pw n)), VIs (.pointer (some ⟨w2.heap.size, 0, none⟩)), VIs (.int .i64 (P)), VLs w9.heap.size (pw n) P, VLs w9.heap.size (pw n) P]) (fun w' => Blk w' w2.heap.size 26 #[.int .i64 P, .slice A n c] ∧ Dr g 99 w9 w') (by kernel_rfl) (by kernel_rfl) (fun x x' j hx => by
          rcases j with _ | _ | _ | _ | _ | _ | _ | j
          · rfl
          · rfl
          · rfl
          · rfl
          · rfl
          · rfl
          · rfl
          · rfl)
        (weak_ofR [0, 1, 2, 3, 4, 5, 6] (by decide) (fun k hk x v w w' hp hr => by
          simp only [List.mem_cons, List.not_mem_nil, or_false] at hk
          rcases hk with rfl | rfl | rfl | rfl | rfl | rfl | rfl
          · exact hp
          · exact hp
          · exact hp
          · exact hp
          · exact hp
          · exact VLs.dr hp hr (by decide)
          · exact VLs.dr hp hr (by decide))) (fun j _ _ h hb => hb.either (fun hb => ⟨h.1.below hb h.1.lt, h.2.then hb⟩) (fun hr => ⟨h.1.dr hr (by decide), h.2.trans hr⟩)) (⟨kk.drew, hd9.then (Below.refl _ _).drew⟩) (fun x => ?_)
      refine obs_stepR (Eq.trans (by simp only [List.getElem?_toArray, List.getElem?_cons_zero]; exact rfl) rfl) rfl (fun w' hS hV K hK => ?_) ?_
      · obtain ⟨q0, q1⟩ := hS.1.two
        go_simp
        exact hK.out _ _ _ rfl rfl rfl (Below.refl _ _)
      simp only [List.setIfInBounds_toArray, List.set_cons_zero, List.set_cons_succ]
      refine obs_stepR (Eq.trans (by simp only [List.getElem?_toArray, List.getElem?_cons_succ, List.getElem?_cons_zero]; exact rfl) rfl) rfl (fun w' hS hV K hK => ?_) ?_
      · obtain ⟨q0, q1⟩ := hS.1.two
        go_simp
        exact hK.out _ _ _ rfl rfl rfl (Below.refl _ _)
      simp only [List.setIfInBounds_toArray, List.set_cons_zero, List.set_cons_succ]
      refine obs_stepR (Eq.trans (by simp only [List.getElem?_toArray, List.getElem?_cons_succ, List.getElem?_cons_zero]; exact rfl) rfl) rfl (fun w' hS hV K hK => ?_) ?_
      · have e1 : x 1 = (.agg #[.int .i64 P, .slice A n c]) := hV 1 (by decide)
        obtain ⟨q0, q1⟩ := hS.1.two
        go_simp
        refine (size5_any P A n c w' (by omega)).mono ?_
        rintro e v1 ⟨rfl, hb⟩
        exact hK.out _ _ _ rfl rfl rfl hb
      simp only [List.setIfInBounds_toArray, List.set_cons_zero, List.set_cons_succ]
      refine obs_stepR (Eq.trans (by simp only [List.getElem?_toArray, List.getElem?_cons_succ, List.getElem?_cons_zero]; exact rfl) rfl) rfl (fun w' hS hV K hK => ?_) ?_
      · obtain ⟨q0, q1⟩ := hS.1.two
        go_simp
        exact hK.out _ _ _ rfl rfl rfl (Below.refl _ _)
      simp only [List.setIfInBounds_toArray, List.set_cons_zero, List.set_cons_succ]
      refine obs_stepR (Eq.trans (by simp only [List.getElem?_toArray, List.getElem?_cons_succ, List.getElem?_cons_zero]; exact rfl) rfl) rfl (fun w' hS hV K hK => ?_) ?_
      · have e3 : x 3 = (.pointer (some ⟨w2.heap.size, 0, none⟩)) := hV 3 (by decide)
        obtain ⟨q0, q1⟩ := hS.1.two
        go_simp
        exact hK.out _ _ _ rfl rfl rfl (Below.refl _ _)
      simp only [List.setIfInBounds_toArray, List.set_cons_zero, List.set_cons_succ]
      refine obs_stepR (Eq.trans (by simp only [List.getElem?_toArray, List.getElem?_cons_succ, List.getElem?_cons_zero]; exact rfl) rfl) rfl (fun w' hS hV K hK => ?_) ?_
      · have e0 : x 0 = (.pointer (some ⟨g, 0, none⟩)) := hV 0 (by decide)
        have e1 : x 1 = (.agg #[.int .i64 P, .slice A n c]) := hV 1 (by decide)
        have e2 : x 2 = (.int .i64 (pw n)) := hV 2 (by decide)
        have e3 : x 3 = (.pointer (some ⟨w2.heap.size, 0, none⟩)) := hV 3 (by decide)
        have e4 : x 4 = (.int .i64 (P)) := hV 4 (by decide)
        obtain ⟨q0, q1⟩ := hS.1.two
        go_simp
        refine (belowList_any g P (pw n) w' hS.2.s' (by omega) (by omega)).mono ?_
        rintro e v1 ⟨A9, c9, xs9, rfl, hl9, hx9, ho9, hd9⟩
        exact hK.out _ _ _ rfl rfl ⟨_, _, xs9, rfl, hl9, nums_of (by omega) hx9, ho9.base hS.2.size⟩ hd9
      simp only [List.setIfInBounds_toArray, List.set_cons_zero, List.set_cons_succ]
      refine obs_stepR (Eq.trans (by simp only [List.getElem?_toArray, List.getElem?_cons_succ, List.getElem?_cons_zero]; exact rfl) rfl) rfl (fun w' hS hV K hK => ?_) ?_
      · have e0 : x 0 = (.pointer (some ⟨g, 0, none⟩)) := hV 0 (by decide)
        have e1 : x 1 = (.agg #[.int .i64 P, .slice A n c]) := hV 1 (by decide)
        have e2 : x 2 = (.int .i64 (pw n)) := hV 2 (by decide)
        have e3 : x 3 = (.pointer (some ⟨w2.heap.size, 0, none⟩)) := hV 3 (by decide)
        have e4 : x 4 = (.int .i64 (P)) := hV 4 (by decide)
        obtain ⟨A5, c5, X5, e5, l5, u5, h5⟩ := hV 5 (by decide)
        obtain ⟨q0, q1⟩ := hS.1.two
        go_simp
        exact hK.out _ _ _ rfl rfl ⟨_, _, _, rfl, l5, u5, h5⟩ (Below.refl _ _)
      simp only [List.setIfInBounds_toArray, List.set_cons_zero, List.set_cons_succ]
      refine fun w' hS hV => ?_
      have e0 : x 0 = (.pointer (some ⟨g, 0, none⟩)) := hV 0 (by decide)
      have e1 : x 1 = (.agg #[.int .i64 P, .slice A n c]) := hV 1 (by decide)
      have e2 : x 2 = (.int .i64 (pw n)) := hV 2 (by decide)
      have e3 : x 3 = (.pointer (some ⟨w2.heap.size, 0, none⟩)) := hV 3 (by decide)
      have e4 : x 4 = (.int .i64 (P)) := hV 4 (by decide)
      obtain ⟨A5, c5, X5, e5, l5, u5, h5⟩ := hV 5 (by decide)
      obtain ⟨A6, c6, X6, e6, l6, u6, h6⟩ := hV 6 (by decide)
      simp only [e0, e1, e2, e3, e4, e5, e6]
      clear e0 e1 e2 e3 e4 e5 e6
      refine wpAny_done (by kernel_rfl) ?_ _
      obtain ⟨w10, rfl⟩ : ∃ W, W = w' := ⟨_, rfl⟩
      have hd10 := hS.2
      replace kk := hS.1
      clear hS q0 q1 hd9
      have HX15 := Lib.hid (And.intro h6 (And.intro l6 u6))
      obtain ⟨V1, hV1⟩ : ∃ V, V = X6 := ⟨_, rfl⟩
      rw [← hV1] at HX15
      clear l6 u6 h6 hV1
      obtain ⟨AW, hAW⟩ : ∃ a, a = A6 := ⟨_, rfl⟩
      obtain ⟨cW, hcW⟩ : ∃ a, a = c6 := ⟨_, rfl⟩
      rw [← hAW, ← hcW] at HX15 ⊢
      clear hAW hcW
      obtain ⟨q0, q1⟩ := kk.two
      have hbl := belowList_any g P n w10 hd10.s' (by omega) (by omega)
      go_wp2_with fail
      refine hbl.mono ?_
      rintro e w11 ⟨AV, cV, V, rfl, hl9, hx9, ho9, hd11⟩
      clear hbl q0 q1 kk
      have hb7 := hb9.trans ((hd10.b.mono hg).trans (hd11.b.mono hg))
      have hOW := HX15.out.1.dr hd11 (by decide)
      have r_w := hOW.rd
      have i_w := hOW.cap
      have HWN := Lib.hid HX15.out.2
      have r_v := ho9.rd
      have i_v := ho9.cap
      have HVN := Lib.hid (And.intro hl9 (nums_of (P := P) (by omega) hx9))
      replace r_x := r_x.below hb7
      replace r_y := r_y.below hb7
      replace r_z := r_z.below hb7
      replace hW := hW.trans (hb7.mono hW.size)
      clear hl9 hx9 ho9 hb7 hb9 hd10 hd11 HX15 hOW hs9 hg
      have HSW := Lib.hid (hSW V1 HWN.out.1 HWN.out.2)
      have HSV := Lib.hid (hSV V HVN.out.1 HVN.out.2)
      clear hSW hSV
      obtain ⟨WA, hWA⟩ : ∃ a, a = sandM P sq xs V1 := ⟨_, rfl⟩
      obtain ⟨SE, hSE⟩ : ∃ a, a = sandL P sq n xs V := ⟨_, rfl⟩
      rw [← hWA] at HSW
      rw [← hSE] at HSV
      have HSE := Lib.hid hSE
      clear hWA hSE
      have kk := k3.below hW k3.lt
      obtain ⟨q0, q1⟩ := kk.two
      clear kk
      have hcall := SandM_ok P A n c sq A1 (pw n) c1 xs AW (pw n) cW V1 w11 (by omega) (by omega) (by omega) (o3.below hW) r_x hcx r_w i_w WA (pw n) HSW.out.1 HSW.out.2.1
      go_wp2_with fail
      refine hcall.mono ?_
      rintro e w12 ⟨Aa, ca, rfl, hM⟩
      replace r_x := r_x.below hM.b
      replace r_y := r_y.below hM.b
      replace r_z := r_z.below hM.b
      replace r_w := r_w.below hM.b
      replace r_v := r_v.below hM.b
      have r_a := hM.rd
      have i_a := hM.2.cap
      replace hW := hW.trans (hM.b.mono hW.size)
      clear hM
      clear hcall q0 q1
      have kk := k3.below hW k3.lt
      obtain ⟨q0, q1⟩ := kk.two
      have oo := o3.below hW
      obtain ⟨YW, hYW⟩ : ∃ a, a = mulL P sq ys V1 := ⟨_, rfl⟩
      obtain ⟨ZB, hZB⟩ : ∃ a, a = mulL P sq Z WA := ⟨_, rfl⟩
      have hF := fun (w' : World) (h : Below w12.heap.size w12 w') => times5_ok P A n c sq A2 (pw n) c2 ys AW (pw n) cW V1 w' (by omega) (by omega) (by omega) (oo.below h) (r_y.below h) hcy (r_w.below h) i_w HSW.out.2.2.1
      have hsb := HSW.out.2.2.2.1
      rw [← hYW] at hF hsb
      rw [← hZB] at hsb
      have hzl : ZB.length = pw n := by rw [hZB, mulL_len]; exact HZ.out.2.1
      have HG := Lib.hid fun (w' : World) (A0 : Option Addr) (c0 : Nat) (h : Below w12.heap.size w12 w') (hz : Rd w' A0 (pw n) (ints YW)) (hc : pw n ≤ c0) => SandM_ok P A n c sq A1 (pw n) c1 xs A0 (pw n) c0 YW w' (by omega) (by omega) (by omega) (oo.below h) (r_x.below h) hcx hz hc ZB (pw n) hsb hzl
      have HF := Lib.hid hF
      have HZB := Lib.hid hZB
      clear hF hsb hzl hYW hZB
      go_wp2
      refine wp_obs 12 [[], [], [], [], [], [2, 3, 4], [0, 1, 2, 3, 4, 5], [0, 1, 2, 3, 4, 5, 6], [0, 1, 2, 3, 4, 5, 6, 7], [0, 1, 2, 3, 4, 5, 6, 7], [0, 1, 2, 3, 4, 5, 6, 7, 8], [0, 1, 2, 3, 4, 5, 6, 7, 9]] [VIs (.agg #[.int .i64 P, .slice A n c]), VIs (.slice A1 (pw n) c1), VIs (.agg #[.int .i64 P, .slice A n c]), VIs (.slice A2 (pw n) c2), VIs (.slice AW (pw n) cW), VSl w12 (pw n) YW, VTs w12 (pw n) ZB, VTs w12 (pw n) ZB, VSl w12 (pw n) ZB, VIs (.int .i64 (0)), VSl w12 (pw n) ZB, VIs (.int .i64 (0))] (fun w' => Blk w' w2.heap.size 26 #[.int .i64 P, .slice A n c] ∧ Below w12.heap.size w12 w') (by kernel_rfl) (by kernel_rfl) (fun _ _ h hb => ⟨h.1.below hb h.1.lt, h.2.trans (hb.mono h.2.size)⟩) (⟨kk.drew, (Below.refl _ _).drew⟩) (fun x => ?_)
      refine obs_step (Eq.trans (by simp only [List.getElem?_toArray, List.getElem?_cons_zero]; exact rfl) rfl) rfl (fun w' hS hV K hK => ?_) ?_
      · obtain ⟨q0, q1⟩ := hS.1.two
        go_simp
        exact hK.out _ _ _ rfl rfl rfl (Below.refl _ _)
      simp only [List.setIfInBounds_toArray, List.set_cons_zero, List.set_cons_succ]
      refine obs_step (Eq.trans (by simp only [List.getElem?_toArray, List.getElem?_cons_succ, List.getElem?_cons_zero]; exact rfl) rfl) rfl (fun w' hS hV K hK => ?_) ?_
      · obtain ⟨q0, q1⟩ := hS.1.two
        go_simp
        exact hK.out _ _ _ rfl rfl rfl (Below.refl _ _)
      simp only [List.setIfInBounds_toArray, List.set_cons_zero, List.set_cons_succ]
      refine obs_step (Eq.trans (by simp only [List.getElem?_toArray, List.getElem?_cons_succ, List.getElem?_cons_zero]; exact rfl) rfl) rfl (fun w' hS hV K hK => ?_) ?_
      · obtain ⟨q0, q1⟩ := hS.1.two
        go_simp
        exact hK.out _ _ _ rfl rfl rfl (Below.refl _ _)
      simp only [List.setIfInBounds_toArray, List.set_cons_zero, List.set_cons_succ]
      refine obs_step (Eq.trans (by simp only [List.getElem?_toArray, List.getElem?_cons_succ, List.getElem?_cons_zero]; exact rfl) rfl) rfl (fun w' hS hV K hK => ?_) ?_
      · obtain ⟨q0, q1⟩ := hS.1.two
        go_simp
        exact hK.out _ _ _ rfl rfl rfl (Below.refl _ _)
      simp only [List.setIfInBounds_toArray, List.set_cons_zero, List.set_cons_succ]
      refine obs_step (Eq.trans (by simp only [List.getElem?_toArray, List.getElem?_cons_succ, List.getElem?_cons_zero]; exact rfl) rfl) rfl (fun w' hS hV K hK => ?_) ?_
      · obtain ⟨q0, q1⟩ := hS.1.two
        go_simp
        exact hK.out _ _ _ rfl rfl rfl (Below.refl _ _)
      simp only [List.setIfInBounds_toArray, List.set_cons_zero, List.set_cons_succ]
      refine obs_step (Eq.trans (by simp only [List.getElem?_toArray, List.getElem?_cons_succ, List.getElem?_cons_zero]; exact rfl) rfl) rfl (fun w' hS hV K hK => ?_) ?_
      · have e2 : x 2 = (.agg #[.int .i64 P, .slice A n c]) := hV 2 (by decide)
        have e3 : x 3 = (.slice A2 (pw n) c2) := hV 3 (by decide)
        have e4 : x 4 = (.slice AW (pw n) cW) := hV 4 (by decide)
        obtain ⟨q0, q1⟩ := hS.1.two
        go_simp
        refine (HF.out _ hS.2).mono ?_
        rintro e v1 ⟨A9, c9, rfl, hM⟩
        exact hK.out _ _ _ rfl rfl ⟨_, _, rfl, hM.after hS.2⟩ hM.b
      simp only [List.setIfInBounds_toArray, List.set_cons_zero, List.set_cons_succ]
      refine obs_step (Eq.trans (by simp only [List.getElem?_toArray, List.getElem?_cons_succ, List.getElem?_cons_zero]; exact rfl) rfl) rfl (fun w' hS hV K hK => ?_) ?_
      · have e0 : x 0 = (.agg #[.int .i64 P, .slice A n c]) := hV 0 (by decide)
        have e1 : x 1 = (.slice A1 (pw n) c1) := hV 1 (by decide)
        have e2 : x 2 = (.agg #[.int .i64 P, .slice A n c]) := hV 2 (by decide)
        have e3 : x 3 = (.slice A2 (pw n) c2) := hV 3 (by decide)
        have e4 : x 4 = (.slice AW (pw n) cW) := hV 4 (by decide)
        obtain ⟨A5, c5, e5, h5⟩ := hV 5 (by decide)
        obtain ⟨q0, q1⟩ := hS.1.two
        go_simp
        refine (HG.out _ _ _ hS.2 h5.rd h5.2.cap).mono ?_
        rintro e v1 ⟨A9, c9, rfl, hM⟩
        exact hK.out _ _ _ rfl rfl ⟨_, _, rfl, hM.after hS.2⟩ hM.b
      simp only [List.setIfInBounds_toArray, List.set_cons_zero, List.set_cons_succ]
      refine obs_step (Eq.trans (by simp only [List.getElem?_toArray, List.getElem?_cons_succ, List.getElem?_cons_zero]; exact rfl) rfl) rfl (fun w' hS hV K hK => ?_) ?_
      · have e0 : x 0 = (.agg #[.int .i64 P, .slice A n c]) := hV 0 (by decide)
        have e1 : x 1 = (.slice A1 (pw n) c1) := hV 1 (by decide)
        have e2 : x 2 = (.agg #[.int .i64 P, .slice A n c]) := hV 2 (by decide)
        have e3 : x 3 = (.slice A2 (pw n) c2) := hV 3 (by decide)
        have e4 : x 4 = (.slice AW (pw n) cW) := hV 4 (by decide)
        obtain ⟨A5, c5, e5, h5⟩ := hV 5 (by decide)
        obtain ⟨A6, c6, e6, h6⟩ := hV 6 (by decide)
        obtain ⟨q0, q1⟩ := hS.1.two
        go_simp
        exact hK.out _ _ _ rfl rfl ⟨_, _, rfl, h6⟩ (Below.refl _ _)
      simp only [List.setIfInBounds_toArray, List.set_cons_zero, List.set_cons_succ]
      refine obs_step (Eq.trans (by simp only [List.getElem?_toArray, List.getElem?_cons_succ, List.getElem?_cons_zero]; exact rfl) rfl) rfl (fun w' hS hV K hK => ?_) ?_
      · have e0 : x 0 = (.agg #[.int .i64 P, .slice A n c]) := hV 0 (by decide)
        have e1 : x 1 = (.slice A1 (pw n) c1) := hV 1 (by decide)
        have e2 : x 2 = (.agg #[.int .i64 P, .slice A n c]) := hV 2 (by decide)
        have e3 : x 3 = (.slice A2 (pw n) c2) := hV 3 (by decide)
        have e4 : x 4 = (.slice AW (pw n) cW) := hV 4 (by decide)
        obtain ⟨A5, c5, e5, h5⟩ := hV 5 (by decide)
        obtain ⟨A6, c6, e6, h6⟩ := hV 6 (by decide)
        obtain ⟨A7, c7, e7, h7⟩ := hV 7 (by decide)
        obtain ⟨q0, q1⟩ := hS.1.two
        go_simp
        exact hK.out _ _ _ rfl rfl ⟨_, _, rfl, h7⟩ (Below.refl _ _)
      simp only [List.setIfInBounds_toArray, List.set_cons_zero, List.set_cons_succ]
      refine obs_step (Eq.trans (by simp only [List.getElem?_toArray, List.getElem?_cons_succ, List.getElem?_cons_zero]; exact rfl) rfl) rfl (fun w' hS hV K hK => ?_) ?_
      · have e0 : x 0 = (.agg #[.int .i64 P, .slice A n c]) := hV 0 (by decide)
        have e1 : x 1 = (.slice A1 (pw n) c1) := hV 1 (by decide)
        have e2 : x 2 = (.agg #[.int .i64 P, .slice A n c]) := hV 2 (by decide)
        have e3 : x 3 = (.slice A2 (pw n) c2) := hV 3 (by decide)
        have e4 : x 4 = (.slice AW (pw n) cW) := hV 4 (by decide)
        obtain ⟨A5, c5, e5, h5⟩ := hV 5 (by decide)
        obtain ⟨A6, c6, e6, h6⟩ := hV 6 (by decide)
        obtain ⟨A7, c7, e7, h7⟩ := hV 7 (by decide)
        obtain ⟨q0, q1⟩ := hS.1.two
        go_simp
        exact hK.out _ _ _ rfl rfl rfl (Below.refl _ _)
      simp only [List.setIfInBounds_toArray, List.set_cons_zero, List.set_cons_succ]
      refine obs_step (Eq.trans (by simp only [List.getElem?_toArray, List.getElem?_cons_succ, List.getElem?_cons_zero]; exact rfl) rfl) rfl (fun w' hS hV K hK => ?_) ?_
      · have e0 : x 0 = (.agg #[.int .i64 P, .slice A n c]) := hV 0 (by decide)
        have e1 : x 1 = (.slice A1 (pw n) c1) := hV 1 (by decide)
        have e2 : x 2 = (.agg #[.int .i64 P, .slice A n c]) := hV 2 (by decide)
        have e3 : x 3 = (.slice A2 (pw n) c2) := hV 3 (by decide)
        have e4 : x 4 = (.slice AW (pw n) cW) := hV 4 (by decide)
        obtain ⟨A5, c5, e5, h5⟩ := hV 5 (by decide)
        obtain ⟨A6, c6, e6, h6⟩ := hV 6 (by decide)
        obtain ⟨A7, c7, e7, h7⟩ := hV 7 (by decide)
        obtain ⟨A8, c8, e8, h8⟩ := hV 8 (by decide)
        obtain ⟨q0, q1⟩ := hS.1.two
        go_simp
        exact hK.out _ _ _ rfl rfl ⟨_, _, rfl, h8⟩ (Below.refl _ _)
      simp only [List.setIfInBounds_toArray, List.set_cons_zero, List.set_cons_succ]
      refine obs_step (Eq.trans (by simp only [List.getElem?_toArray, List.getElem?_cons_succ, List.getElem?_cons_zero]; exact rfl) rfl) rfl (fun w' hS hV K hK => ?_) ?_
      · have e0 : x 0 = (.agg #[.int .i64 P, .slice A n c]) := hV 0 (by decide)
        have e1 : x 1 = (.slice A1 (pw n) c1) := hV 1 (by decide)
        have e2 : x 2 = (.agg #[.int .i64 P, .slice A n c]) := hV 2 (by decide)
        have e3 : x 3 = (.slice A2 (pw n) c2) := hV 3 (by decide)
        have e4 : x 4 = (.slice AW (pw n) cW) := hV 4 (by decide)
        obtain ⟨A5, c5, e5, h5⟩ := hV 5 (by decide)
        obtain ⟨A6, c6, e6, h6⟩ := hV 6 (by decide)
        obtain ⟨A7, c7, e7, h7⟩ := hV 7 (by decide)
        have e9 : x 9 = (.int .i64 (0)) := hV 9 (by decide)
        obtain ⟨q0, q1⟩ := hS.1.two
        go_simp
        exact hK.out _ _ _ rfl rfl rfl (Below.refl _ _)
      simp only [List.setIfInBounds_toArray, List.set_cons_zero, List.set_cons_succ]
      refine fun w' hS hV => ?_
      have e0 : x 0 = (.agg #[.int .i64 P, .slice A n c]) := hV 0 (by decide)
      have e1 : x 1 = (.slice A1 (pw n) c1) := hV 1 (by decide)
      have e2 : x 2 = (.agg #[.int .i64 P, .slice A n c]) := hV 2 (by decide)
      have e3 : x 3 = (.slice A2 (pw n) c2) := hV 3 (by decide)
      have e4 : x 4 = (.slice AW (pw n) cW) := hV 4 (by decide)
      obtain ⟨A5, c5, e5, h5⟩ := hV 5 (by decide)
      obtain ⟨A6, c6, e6, h6⟩ := hV 6 (by decide)
      obtain ⟨A7, c7, e7, h7⟩ := hV 7 (by decide)
      obtain ⟨A8, c8, e8, h8⟩ := hV 8 (by decide)
      have e9 : x 9 = (.int .i64 (0)) := hV 9 (by decide)
      obtain ⟨A10, c10, e10, h10⟩ := hV 10 (by decide)
      have e11 : x 11 = (.int .i64 (0)) := hV 11 (by decide)
      simp only [e0, e1, e2, e3, e4, e5, e6, e7, e8, e9, e10, e11]
      clear e0 e1 e2 e3 e4 e5 e6 e7 e8 e9 e10 e11
      refine wpAny_done (by kernel_rfl) ?_ _
      obtain ⟨w13, rfl⟩ : ∃ W, W = w' := ⟨_, rfl⟩
      have hb7 := hS.2
      clear hS kk q0 q1 HF HG oo
      replace r_x := r_x.below hb7
      replace r_y := r_y.below hb7
      replace r_z := r_z.below hb7
      replace r_w := r_w.below hb7
      replace r_v := r_v.below hb7
      replace r_a := r_a.below hb7
      replace hW := hW.trans (hb7.mono hW.size)
      have r_b := h10.rd
      have i_b := h10.2.cap
      clear h10 hb7
      obtain ⟨Ab, hAb⟩ : ∃ a, a = A10 := ⟨_, rfl⟩
      obtain ⟨cb9, hcb9⟩ : ∃ a, a = c10 := ⟨_, rfl⟩
      rw [← hAb] at r_b ⊢
      rw [← hcb9] at i_b ⊢
      clear hAb hcb9
      have kk := k3.below hW k3.lt
      obtain ⟨q0, q1⟩ := kk.two
      have oo := o3.below hW
      obtain ⟨VV, hVV⟩ : ∃ a, a = vecTo n V n := ⟨_, rfl⟩
      obtain ⟨VE, hVE⟩ : ∃ a, a = vecTo n SE n := ⟨_, rfl⟩
      have hF := fun (w' : World) (h : Below w13.heap.size w13 w') => vector5_ok P A n c sq AV cV V w' hsp (oo.below h) (r_v.below h) i_v HVN.out.2
      have hsb := HSV.out.1
      rw [← hVV] at hF hsb
      rw [← hVE] at hsb
      have hzl : VE.length = pw n := by rw [hVE]; exact vecTo_len _ _ _
      have HG := Lib.hid fun (w' : World) (A0 : Option Addr) (c0 : Nat) (h : Below w13.heap.size w13 w') (hz : Rd w' A0 (pw n) (ints VV)) (hc : pw n ≤ c0) => SandM_ok P A n c sq A1 (pw n) c1 xs A0 (pw n) c0 VV w' (by omega) (by omega) (by omega) (oo.below h) (r_x.below h) hcx hz hc VE (pw n) hsb hzl
      have HF := Lib.hid hF
      have HVE := Lib.hid hVE
      clear hF hsb hzl hVV hVE
      go_wp2
      refine wp_obs 11 [[], [], [], [], [2, 3], [0, 1, 2, 3, 4], [0, 1, 2, 3, 4, 5], [0, 1, 2, 3, 4, 5, 6], [0, 1, 2, 3, 4, 5, 6], [0, 1, 2, 3, 4, 5, 6, 7], [0, 1, 2, 3, 4, 5, 6, 8]] [VIs (.agg #[.int .i64 P, .slice A n c]), VIs (.slice A1 (pw n) c1), VIs (.agg #[.int .i64 P, .slice A n c]), VIs (.slice AV n cV), VSl w13 (pw n) VV, VTs w13 (pw n) VE, VTs w13 (pw n) VE, VSl w13 (pw n) VE, VIs (.int .i64 (0)), VSl w13 (pw n) VE, VIs (.int .i64 (0))] (fun w' => Blk w' w2.heap.size 26 #[.int .i64 P, .slice A n c] ∧ Below w13.heap.size w13 w') (by kernel_rfl) (by kernel_rfl) (fun _ _ h hb => ⟨h.1.below hb h.1.lt, h.2.trans (hb.mono h.2.size)⟩) (⟨kk.drew, (Below.refl _ _).drew⟩) (fun x => ?_)
      refine obs_step (Eq.trans (by simp only [List.getElem?_toArray, List.getElem?_cons_zero]; exact rfl) rfl) rfl (fun w' hS hV K hK => ?_) ?_
      · obtain ⟨q0, q1⟩ := hS.1.two
        go_simp
        exact hK.out _ _ _ rfl rfl rfl (Below.refl _ _)
      simp only [List.setIfInBounds_toArray, List.set_cons_zero, List.set_cons_succ]
      refine obs_step (Eq.trans (by simp only [List.getElem?_toArray, List.getElem?_cons_succ, List.getElem?_cons_zero]; exact rfl) rfl) rfl (fun w' hS hV K hK => ?_) ?_
      · obtain ⟨q0, q1⟩ := hS.1.two
        go_simp
        exact hK.out _ _ _ rfl rfl rfl (Below.refl _ _)
      simp only [List.setIfInBounds_toArray, List.set_cons_zero, List.set_cons_succ]
      refine obs_step (Eq.trans (by simp only [List.getElem?_toArray, List.getElem?_cons_succ, List.getElem?_cons_zero]; exact rfl) rfl) rfl (fun w' hS hV K hK => ?_) ?_
      · obtain ⟨q0, q1⟩ := hS.1.two
        go_simp
        exact hK.out _ _ _ rfl rfl rfl (Below.refl _ _)
      simp only [List.setIfInBounds_toArray, List.set_cons_zero, List.set_cons_succ]
      refine obs_step (Eq.trans (by simp only [List.getElem?_toArray, List.getElem?_cons_succ, List.getElem?_cons_zero]; exact rfl) rfl) rfl (fun w' hS hV K hK => ?_) ?_
      · obtain ⟨q0, q1⟩ := hS.1.two
        go_simp
        exact hK.out _ _ _ rfl rfl rfl (Below.refl _ _)
      simp only [List.setIfInBounds_toArray, List.set_cons_zero, List.set_cons_succ]
      refine obs_step (Eq.trans (by simp only [List.getElem?_toArray, List.getElem?_cons_succ, List.getElem?_cons_zero]; exact rfl) rfl) rfl (fun w' hS hV K hK => ?_) ?_
      · have e2 : x 2 = (.agg #[.int .i64 P, .slice A n c]) := hV 2 (by decide)
        have e3 : x 3 = (.slice AV n cV) := hV 3 (by decide)
        obtain ⟨q0, q1⟩ := hS.1.two
        go_simp
        refine (HF.out _ hS.2).mono ?_
        rintro e v1 ⟨A9, c9, rfl, hM⟩
        exact hK.out _ _ _ rfl rfl ⟨_, _, rfl, hM.after hS.2⟩ hM.b
      simp only [List.setIfInBounds_toArray, List.set_cons_zero, List.set_cons_succ]
      refine obs_step (Eq.trans (by simp only [List.getElem?_toArray, List.getElem?_cons_succ, List.getElem?_cons_zero]; exact rfl) rfl) rfl (fun w' hS hV K hK => ?_) ?_
      · have e0 : x 0 = (.agg #[.int .i64 P, .slice A n c]) := hV 0 (by decide)
        have e1 : x 1 = (.slice A1 (pw n) c1) := hV 1 (by decide)
        have e2 : x 2 = (.agg #[.int .i64 P, .slice A n c]) := hV 2 (by decide)
        have e3 : x 3 = (.slice AV n cV) := hV 3 (by decide)
        obtain ⟨A4, c4, e4, h4⟩ := hV 4 (by decide)
        obtain ⟨q0, q1⟩ := hS.1.two
        go_simp
        refine (HG.out _ _ _ hS.2 h4.rd h4.2.cap).mono ?_
        rintro e v1 ⟨A9, c9, rfl, hM⟩
        exact hK.out _ _ _ rfl rfl ⟨_, _, rfl, hM.after hS.2⟩ hM.b
      simp only [List.setIfInBounds_toArray, List.set_cons_zero, List.set_cons_succ]
      refine obs_step (Eq.trans (by simp only [List.getElem?_toArray, List.getElem?_cons_succ, List.getElem?_cons_zero]; exact rfl) rfl) rfl (fun w' hS hV K hK => ?_) ?_
      · have e0 : x 0 = (.agg #[.int .i64 P, .slice A n c]) := hV 0 (by decide)
        have e1 : x 1 = (.slice A1 (pw n) c1) := hV 1 (by decide)
        have e2 : x 2 = (.agg #[.int .i64 P, .slice A n c]) := hV 2 (by decide)
        have e3 : x 3 = (.slice AV n cV) := hV 3 (by decide)
        obtain ⟨A4, c4, e4, h4⟩ := hV 4 (by decide)
        obtain ⟨A5, c5, e5, h5⟩ := hV 5 (by decide)
        obtain ⟨q0, q1⟩ := hS.1.two
        go_simp
        exact hK.out _ _ _ rfl rfl ⟨_, _, rfl, h5⟩ (Below.refl _ _)
      simp only [List.setIfInBounds_toArray, List.set_cons_zero, List.set_cons_succ]
      refine obs_step (Eq.trans (by simp only [List.getElem?_toArray, List.getElem?_cons_succ, List.getElem?_cons_zero]; exact rfl) rfl) rfl (fun w' hS hV K hK => ?_) ?_
      · have e0 : x 0 = (.agg #[.int .i64 P, .slice A n c]) := hV 0 (by decide)
        have e1 : x 1 = (.slice A1 (pw n) c1) := hV 1 (by decide)
        have e2 : x 2 = (.agg #[.int .i64 P, .slice A n c]) := hV 2 (by decide)
        have e3 : x 3 = (.slice AV n cV) := hV 3 (by decide)
        obtain ⟨A4, c4, e4, h4⟩ := hV 4 (by decide)
        obtain ⟨A5, c5, e5, h5⟩ := hV 5 (by decide)
        obtain ⟨A6, c6, e6, h6⟩ := hV 6 (by decide)
        obtain ⟨q0, q1⟩ := hS.1.two
        go_simp
        exact hK.out _ _ _ rfl rfl ⟨_, _, rfl, h6⟩ (Below.refl _ _)
      simp only [List.setIfInBounds_toArray, List.set_cons_zero, List.set_cons_succ]
      refine obs_step (Eq.trans (by simp only [List.getElem?_toArray, List.getElem?_cons_succ, List.getElem?_cons_zero]; exact rfl) rfl) rfl (fun w' hS hV K hK => ?_) ?_
      · have e0 : x 0 = (.agg #[.int .i64 P, .slice A n c]) := hV 0 (by decide)
        have e1 : x 1 = (.slice A1 (pw n) c1) := hV 1 (by decide)
        have e2 : x 2 = (.agg #[.int .i64 P, .slice A n c]) := hV 2 (by decide)
        have e3 : x 3 = (.slice AV n cV) := hV 3 (by decide)
        obtain ⟨A4, c4, e4, h4⟩ := hV 4 (by decide)
        obtain ⟨A5, c5, e5, h5⟩ := hV 5 (by decide)
        obtain ⟨A6, c6, e6, h6⟩ := hV 6 (by decide)
        obtain ⟨q0, q1⟩ := hS.1.two
        go_simp
        exact hK.out _ _ _ rfl rfl rfl (Below.refl _ _)
      simp only [List.setIfInBounds_toArray, List.set_cons_zero, List.set_cons_succ]
      refine obs_step (Eq.trans (by simp only [List.getElem?_toArray, List.getElem?_cons_succ, List.getElem?_cons_zero]; exact rfl) rfl) rfl (fun w' hS hV K hK => ?_) ?_
      · have e0 : x 0 = (.agg #[.int .i64 P, .slice A n c]) := hV 0 (by decide)
        have e1 : x 1 = (.slice A1 (pw n) c1) := hV 1 (by decide)
        have e2 : x 2 = (.agg #[.int .i64 P, .slice A n c]) := hV 2 (by decide)
        have e3 : x 3 = (.slice AV n cV) := hV 3 (by decide)
        obtain ⟨A4, c4, e4, h4⟩ := hV 4 (by decide)
        obtain ⟨A5, c5, e5, h5⟩ := hV 5 (by decide)
        obtain ⟨A6, c6, e6, h6⟩ := hV 6 (by decide)
        obtain ⟨A7, c7, e7, h7⟩ := hV 7 (by decide)
        obtain ⟨q0, q1⟩ := hS.1.two
        go_simp
        exact hK.out _ _ _ rfl rfl ⟨_, _, rfl, h7⟩ (Below.refl _ _)
      simp only [List.setIfInBounds_toArray, List.set_cons_zero, List.set_cons_succ]
      refine obs_step (Eq.trans (by simp only [List.getElem?_toArray, List.getElem?_cons_succ, List.getElem?_cons_zero]; exact rfl) rfl) rfl (fun w' hS hV K hK => ?_) ?_
      · have e0 : x 0 = (.agg #[.int .i64 P, .slice A n c]) := hV 0 (by decide)
        have e1 : x 1 = (.slice A1 (pw n) c1) := hV 1 (by decide)
        have e2 : x 2 = (.agg #[.int .i64 P, .slice A n c]) := hV 2 (by decide)
        have e3 : x 3 = (.slice AV n cV) := hV 3 (by decide)
        obtain ⟨A4, c4, e4, h4⟩ := hV 4 (by decide)
        obtain ⟨A5, c5, e5, h5⟩ := hV 5 (by decide)
        obtain ⟨A6, c6, e6, h6⟩ := hV 6 (by decide)
        have e8 : x 8 = (.int .i64 (0)) := hV 8 (by decide)
        obtain ⟨q0, q1⟩ := hS.1.two
        go_simp
        exact hK.out _ _ _ rfl rfl rfl (Below.refl _ _)
      simp only [List.setIfInBounds_toArray, List.set_cons_zero, List.set_cons_succ]
      refine fun w' hS hV => ?_
      have e0 : x 0 = (.agg #[.int .i64 P, .slice A n c]) := hV 0 (by decide)
      have e1 : x 1 = (.slice A1 (pw n) c1) := hV 1 (by decide)
      have e2 : x 2 = (.agg #[.int .i64 P, .slice A n c]) := hV 2 (by decide)
      have e3 : x 3 = (.slice AV n cV) := hV 3 (by decide)
      obtain ⟨A4, c4, e4, h4⟩ := hV 4 (by decide)
      obtain ⟨A5, c5, e5, h5⟩ := hV 5 (by decide)
      obtain ⟨A6, c6, e6, h6⟩ := hV 6 (by decide)
      obtain ⟨A7, c7, e7, h7⟩ := hV 7 (by decide)
      have e8 : x 8 = (.int .i64 (0)) := hV 8 (by decide)
      obtain ⟨A9, c9, e9, h9⟩ := hV 9 (by decide)
      have e10 : x 10 = (.int .i64 (0)) := hV 10 (by decide)
      simp only [e0, e1, e2, e3, e4, e5, e6, e7, e8, e9, e10]
      clear e0 e1 e2 e3 e4 e5 e6 e7 e8 e9 e10
      refine wpAny_done (by kernel_rfl) ?_ _
      obtain ⟨w14, rfl⟩ : ∃ W, W = w' := ⟨_, rfl⟩
      have hb7 := hS.2
      clear hS kk q0 q1 HF HG oo
      replace r_x := r_x.below hb7
      replace r_y := r_y.below hb7
      replace r_z := r_z.below hb7
      replace r_w := r_w.below hb7
      replace r_v := r_v.below hb7
      replace r_a := r_a.below hb7
      replace r_b := r_b.below hb7
      replace hW := hW.trans (hb7.mono hW.size)
      have r_c := h9.rd
      clear h9 hb7
      obtain ⟨Ac, hAc⟩ : ∃ a, a = A9 := ⟨_, rfl⟩
      obtain ⟨cc9, hcc9⟩ : ∃ a, a = c9 := ⟨_, rfl⟩
      rw [← hAc] at r_c ⊢
      rw [← hcc9] at ⊢
      clear hAc hcc9
      have kk := k3.below hW k3.lt
      obtain ⟨q0, q1⟩ := kk.two
      clear kk
      have hcall := SandV_ok P A n c sq A1 (pw n) c1 xs AV n cV V w14 (by omega) (by omega) (by omega) (o3.below hW) r_x hcx r_v i_v SE n HSV.out.2.1 HSV.out.2.2.1
      go_wp2_with fail
      refine hcall.mono ?_
      rintro e w15 ⟨Ae, ce, rfl, hM⟩
      replace r_x := r_x.below hM.b
      replace r_y := r_y.below hM.b
      replace r_z := r_z.below hM.b
      replace r_w := r_w.below hM.b
      replace r_v := r_v.below hM.b
      replace r_a := r_a.below hM.b
      replace r_b := r_b.below hM.b
      replace r_c := r_c.below hM.b
      have r_e := hM.rd
      have i_e := hM.2.cap
      replace hW := hW.trans (hM.b.mono hW.size)
      clear hM
      clear hcall q0 q1
      have kk := k3.below hW k3.lt
      obtain ⟨q0, q1⟩ := kk.two
      clear kk
      have hcall := times5_ok P A n c sq Az (pw n) cz Z Aa (pw n) ca WA w15 (by omega) (by omega) (by omega) (o3.below hW) r_z i_z r_a i_a HSW.out.2.2.2.2
      rw [← HZB.out] at hcall
      go_wp2_with fail
      refine hcall.mono ?_
      rintro e w16 ⟨Ag, cg9, rfl, hM⟩
      replace r_x := r_x.below hM.b
      replace r_y := r_y.below hM.b
      replace r_z := r_z.below hM.b
      replace r_w := r_w.below hM.b
      replace r_v := r_v.below hM.b
      replace r_a := r_a.below hM.b
      replace r_b := r_b.below hM.b
      replace r_c := r_c.below hM.b
      replace r_e := r_e.below hM.b
      have r_g := hM.rd
      replace hW := hW.trans (hM.b.mono hW.size)
      clear hM
      clear hcall q0 q1
      have kk := k3.below hW k3.lt
      obtain ⟨q0, q1⟩ := kk.two
      clear kk
      have hcall := likeInts_any Ab Ag (pw n) (pw n) cb9 cg9 ZB ZB w16 (by omega) (by omega) r_b r_g
      rw [decide_eq_true rfl] at hcall
      go_wp2_with fail
      refine hcall.mono ?_
      rintro e w17 ⟨rfl, j2, hw9⟩
      have hb7 := below_drewN (Below.refl w16.heap.size w16) j2
      rw [← hw9] at hb7
      replace r_x := r_x.below hb7
      replace r_y := r_y.below hb7
      replace r_z := r_z.below hb7
      replace r_w := r_w.below hb7
      replace r_v := r_v.below hb7
      replace r_a := r_a.below hb7
      replace r_b := r_b.below hb7
      replace r_c := r_c.below hb7
      replace r_e := r_e.below hb7
      replace r_g := r_g.below hb7
      replace hW := hW.trans (hb7.mono hW.size)
      clear hcall q0 q1 hb7 hw9
      clear r_b r_g
      have kk := k3.below hW k3.lt
      obtain ⟨q0, q1⟩ := kk.two
      clear kk
      have hcall := vector5_ok P A n c sq Ae ce SE w17 hsp (o3.below hW) r_e i_e HSV.out.2.2.2
      rw [← HVE.out] at hcall
      go_wp2_with fail
      refine hcall.mono ?_
      rintro e w18 ⟨Ah, ch, rfl, hM⟩
      replace r_x := r_x.below hM.b
      replace r_y := r_y.below hM.b
      replace r_z := r_z.below hM.b
      replace r_w := r_w.below hM.b
      replace r_v := r_v.below hM.b
      replace r_a := r_a.below hM.b
      replace r_c := r_c.below hM.b
      replace r_e := r_e.below hM.b
      have r_h := hM.rd
      replace hW := hW.trans (hM.b.mono hW.size)
      clear hM
      clear hcall q0 q1
      have kk := k3.below hW k3.lt
      obtain ⟨q0, q1⟩ := kk.two
      clear kk
      have hcall := likeInts_any Ac Ah (pw n) (pw n) cc9 ch VE VE w18 (by omega) (by omega) r_c r_h
      rw [decide_eq_true rfl] at hcall
      go_wp2_with fail
      refine hcall.mono ?_
      rintro e w19 ⟨rfl, j3, hw9⟩
      have hb7 := below_drewN (Below.refl w18.heap.size w18) j3
      rw [← hw9] at hb7
      replace r_x := r_x.below hb7
      replace r_y := r_y.below hb7
      replace r_z := r_z.below hb7
      replace r_w := r_w.below hb7
      replace r_v := r_v.below hb7
      replace r_a := r_a.below hb7
      replace r_c := r_c.below hb7
      replace r_e := r_e.below hb7
      replace r_h := r_h.below hb7
      replace hW := hW.trans (hb7.mono hW.size)
      clear hcall q0 q1 hb7 hw9
      clear r_c r_h
      have kk := k3.below hW k3.lt
      obtain ⟨q0, q1⟩ := kk.two
      clear kk
      have hcall := SpinorNormOf_ok P A n c sq A1 c1 xs w19 hsp hreg (o3.below hW) r_x hcx HXN.out.2
      go_wp2_with fail
      refine hcall.mono ?_
      rintro e w20 ⟨rfl, hb7⟩
      replace r_x := r_x.below hb7
      replace r_y := r_y.below hb7
      replace r_z := r_z.below hb7
      replace r_w := r_w.below hb7
      replace r_v := r_v.below hb7
      replace r_a := r_a.below hb7
      replace r_e := r_e.below hb7
      replace hW := hW.trans (hb7.mono hW.size)
      clear hcall q0 q1
      obtain ⟨NN, hNN⟩ : ∃ a, a = nrmL P sq xs := ⟨_, rfl⟩
      have HNN := Lib.hid hNN
      have hn9 := nrmL_small (P := P) (by omega) sq xs
      rw [← hNN] at hn9 ⊢
      clear hNN
      have kk := k3.below hW k3.lt
      obtain ⟨q0, q1⟩ := kk.two
      clear kk
      have hcall := IsSquare_ok P NN w20 HP.out hn9.1 hn9.2
      go_wp2_with fail
      refine hcall.mono ?_
      rintro e w21 ⟨rfl, hb7⟩
      replace r_x := r_x.below hb7
      replace r_y := r_y.below hb7
      replace r_z := r_z.below hb7
      replace r_w := r_w.below hb7
      replace r_v := r_v.below hb7
      replace r_a := r_a.below hb7
      replace r_e := r_e.below hb7
      replace hW := hW.trans (hb7.mono hW.size)
      clear hcall q0 q1
      have kk := k3.below hW k3.lt
      obtain ⟨q0, q1⟩ := kk.two
      clear kk
      have hcall := UnitVersor_any P A n c sq A1 (pw n) c1 xs w21 (by omega) (by omega) (o3.below hW) r_x hcx
      go_wp2_with fail
      refine hcall.mono ?_
      rintro e w22 ⟨Au, ku, cu, rfl, hM⟩
      replace r_x := r_x.below hM.b
      replace r_y := r_y.below hM.b
      replace r_z := r_z.below hM.b
      replace r_w := r_w.below hM.b
      replace r_v := r_v.below hM.b
      replace r_a := r_a.below hM.b
      replace r_e := r_e.below hM.b
      have r_u := hM.rd
      have i_u := hM.2.cap
      replace hW := hW.trans (hM.b.mono hW.size)
      clear hM
      clear hcall q0 q1
      cases hr : rootF P NN P.toNat 0 with
      | none =>
        have HU : Hid (unitR P sq xs = ([], 5)) := Lib.hid (unitR_none HV0.out (by rw [← HNN.out]; exact hr))
        have e3 : (unitR P sq xs).2 = 5 := by rw [HU.out]
        rw [e3]
        clear e3 hr
        simp only [Option.isSome_none]
        go_wp2
        go_ret
        exact ⟨rfl, hB3.trans (hW.mono hB3.size)⟩
      | some rt =>
        obtain ⟨f1, f2, f3⟩ := unit_facts HP.out hd2 (HXN.out.1.trans (by rw [HSL.out])) HXN.out.2 HVB.out (by rw [← HNN.out]; exact hr)
        have hU0 := unitR_some HV0.out (by rw [← HNN.out]; exact hr)
        obtain ⟨U, hU⟩ : ∃ U, U = scaleL P xs (invF P rt) := ⟨_, rfl⟩
        rw [← hU] at f1 f2 f3 hU0
        have hul : U.length = pw n := by rw [hU, scaleL_len]; exact HXN.out.1
        have hun : NumsL P U := by rw [hU]; exact scaleL_nums (by omega) _ _
        obtain ⟨g1, g2, g3⟩ := codeVr_mk hsp hreg (hul.trans (by rw [HSL.out])) hun f1
        have HUF := Lib.hid (show sandR P sq U V = (SE, 0) ∧ nrmL P sq U = 1 ∧ NumsL P U from ⟨by rw [sandR_ok g1 (isVe_mk (HVN.out.1.trans HSL.out.symm) HVN.out.2) g3, f3 V HVN.out.2, HSL.out, ← HSE.out], f2, hun⟩)
        rw [hU0] at r_u ⊢
        simp only [Option.isSome_some]
        replace r_u : Rd w22 Au ku (ints U) := r_u
        obtain rfl : ku = pw n := by rw [← r_u.lenI]; exact hul
        clear f1 f2 f3 g1 g2 g3 hU hU0 hul hun hr
        have kk := k3.below hW k3.lt
        obtain ⟨q0, q1⟩ := kk.two
        clear kk
        have hcall := SandV_ok P A n c sq Au (pw n) cu U AV n cV V w22 (by omega) (by omega) (by omega) (o3.below hW) r_u i_u r_v i_v SE n HUF.out.1 HSV.out.2.2.1
        go_wp2_with fail
        refine hcall.mono ?_
        rintro e w23 ⟨Af, cf, rfl, hM⟩
        replace r_x := r_x.below hM.b
        replace r_v := r_v.below hM.b
        replace r_e := r_e.below hM.b
        replace r_u := r_u.below hM.b
        have r_f := hM.rd
        replace hW := hW.trans (hM.b.mono hW.size)
        clear hM
        clear hcall q0 q1
        have kk := k3.below hW k3.lt
        obtain ⟨q0, q1⟩ := kk.two
        clear kk
        have hcall := SpinorNormOf_ok P A n c sq Au cu U w23 hsp hreg (o3.below hW) r_u i_u HUF.out.2.2
        rw [HUF.out.2.1] at hcall
        go_wp2_with fail
        refine hcall.mono ?_
        rintro e w24 ⟨rfl, hb7⟩
        replace r_x := r_x.below hb7
        replace r_v := r_v.below hb7
        replace r_e := r_e.below hb7
        replace r_u := r_u.below hb7
        replace r_f := r_f.below hb7
        replace hW := hW.trans (hb7.mono hW.size)
        clear hcall q0 q1
        have kk := k3.below hW k3.lt
        obtain ⟨q0, q1⟩ := kk.two
        clear kk
        have hcall := likeInts_any Af Ae n n cf ce SE SE w24 (by omega) (by omega) r_f r_e
        rw [decide_eq_true rfl] at hcall
        go_wp2_with fail
        refine hcall.mono ?_
        rintro e w25 ⟨rfl, j4, hw9⟩
        have hb7 := below_drewN (Below.refl w24.heap.size w24) j4
        rw [← hw9] at hb7
        replace r_x := r_x.below hb7
        replace r_v := r_v.below hb7
        replace r_e := r_e.below hb7
        replace r_u := r_u.below hb7
        replace r_f := r_f.below hb7
        replace hW := hW.trans (hb7.mono hW.size)
        clear hcall q0 q1 hb7 hw9
        clear r_f r_e
        go_wp2
        go_ret
        exact ⟨rfl, hB3.trans (hW.mono hB3.size)⟩
end Go.Proofs.YtggigolkncckoaaGreat
