/-
  LawFnBivectors: part 9 of the texts that the proof needs. No condition.
-/
import Derived.Test.YtggigolkncckoaaGreatP8
namespace Go.Proofs.YtggigolkncckoaaGreat
open Go.RowKit
theorem codeB_all {P : Int} {sq : List Int} {ms : List (List Int)} (h : codeB P sq ms = 0) : codeM P sq ms = 0 ∧ regB sq = true ∧ ∀ xs ∈ ms, onlyL xs 2 = true := by
  have hr := codeB_zero h
  unfold codeB at h
  rw [if_pos hr] at h
  unfold codeR at hr
  by_cases hm : codeM P sq ms = 0
  · rw [if_pos hm] at hr
    refine ⟨hm, ?_, ?_⟩
    · cases hg : regB sq
      · rw [hg] at hr; exact absurd hr (by decide)
      · rfl
    · by_cases ha : ms.all (fun xs => onlyL xs 2) = true
      · exact fun xs hx => List.all_eq_true.1 ha xs hx
      · rw [if_neg ha] at h; exact absurd h (by decide)
  · rw [if_neg hm] at hr; exact absurd hr hm
theorem codeB_mk {P : Int} {sq : List Int} {ms : List (List Int)} (h1 : isSp P sq = true) (hr : regB sq = true) (h : ∀ ys ∈ ms, ys.length = pw sq.length ∧ NumsL P ys) (h2 : ∀ xs ∈ ms, onlyL xs 2 = true) : codeB P sq ms = 0 := by
  unfold codeB
  rw [if_pos (codeR_mk h1 hr h), if_pos (List.all_eq_true.2 h2)]
theorem bbrR_len64 (P : Int) (sq xs ys : List Int) : (bbrR P sq xs ys).1.length ≤ 64 := by
  by_cases h : codeB P sq [xs, ys] = 0
  · rw [bbrR_ok h]
    obtain ⟨-, -, -, -, hd2, -, -⟩ := codeM_spec2 (codeB_all h).1
    show (halfL P (brkL P sq sq.length xs ys)).length ≤ 64
    unfold halfL
    rw [scaleL_len, brkL_len]
    exact pw_le (k := 6) hd2
  · rw [bbrR_bad h]; simp
theorem MobM_ok (P : Int) (A : Option Addr) (n c : Nat) (sq : List Int) (X : Option Addr) (m cx : Nat) (xs : List Int) (w : World) (hn : n ≤ 1048576) (hm : m ≤ 1048576) (ha : Rd w A n (ints sq)) (hx : Rd w X m (ints xs)) (hcx : m ≤ cx) (M : List (List Int)) (hR : mobR P sq xs = (M, 0)) (hq : M.length = n) :
    Calls Tryz.prog 59 #[.agg #[.int .i64 P, .slice A n c], .slice X m cx] w fun e w' => ∃ (A' : Option Addr) (c' : Nat), e = .returned (.tuple #[.slice A' n c', .int .i64 0]) ∧ MkII w w' A' n c' M := by
  have h := MatrixOfBivector_any P A n c sq X m cx xs w hn hm ha hx hcx
  rw [hR] at h
  refine h.mono ?_
  rintro e w' ⟨A', k, c', rfl, hM⟩
  obtain rfl : n = k := by rw [← hq]; exact hM.len
  exact ⟨A', c', rfl, hM⟩
theorem TurnV_ok (P : Int) (A : Option Addr) (n c : Nat) (sq : List Int) (X : Option Addr) (m cx : Nat) (xs : List Int) (Y : Option Addr) (l cy : Nat) (ys : List Int) (w : World) (hn : n ≤ 1048576) (hm : m ≤ 1048576) (hl : l ≤ 1048576) (ha : Rd w A n (ints sq)) (hx : Rd w X m (ints xs)) (hcx : m ≤ cx) (hy : Rd w Y l (ints ys)) (hcy : l ≤ cy) (R : List Int) (q : Nat) (hR : tvR P sq xs ys = (R, 0)) (hq : R.length = q) :
    Calls Tryz.prog 67 #[.agg #[.int .i64 P, .slice A n c], .slice X m cx, .slice Y l cy] w fun e w' => ∃ (A' : Option Addr) (c' : Nat), e = .returned (.tuple #[.slice A' q c', .int .i64 0]) ∧ MkI w w' A' q c' R := by
  have h := TurnVector_any P A n c sq X m cx xs Y l cy ys w hn hm hl ha hx hcx hy hcy
  rw [hR] at h
  refine h.mono ?_
  rintro e w' ⟨A', k, c', rfl, hM⟩
  obtain rfl : q = k := by rw [← hq]; exact hM.rd.lenI
  exact ⟨A', c', rfl, hM⟩
set_option maxHeartbeats 12800000 in
set_option maxRecDepth 40000 in
theorem FnBivectors_any (B : Option Addr) (nb cb : Nat) (bs : List Int) (w : World) (r : Rd w B nb (bs.map (Value.int .u8))) (hbs : ∀ b ∈ bs, 0 ≤ b ∧ b < 256) (hbg : ∀ a, B = some a → a.block < w.heap.size) :
    Calls Tryz.prog 7 #[.slice B nb cb] w fun e w' => e = .returned (.bool true) ∧ Below w.heap.size w w' := by
  have hbig := big_any B nb cb w
  by_cases hbb : 4096 < nb
  · rw [decide_eq_true hbb] at hbig
    go_enter Tryz.func7, Tryz.ntmps7
    go_wp2_with fail
    refine hbig.mono ?_
    rintro e w1 ⟨rfl, rfl⟩
    go_wp2
    go_ret
    exact ⟨rfl, Below.refl _ _⟩
  · rw [decide_eq_false hbb] at hbig
    have hdr := DrawBivectorBracket_any B nb cb bs w (by omega) r hbs hbg
    go_enter Tryz.func7, Tryz.ntmps7
    go_wp2_with fail
    refine hbig.mono ?_
    rintro e w1 ⟨rfl, rfl⟩
    clear hbig
    go_wp2_with fail
    refine hdr.mono ?_
    rintro e w2 ⟨P, A, n, c, sq, A1, m1, c1, xs, A2, m2, c2, ys, rfl, hP, hn, h1, h2, ho, hx, hy, hb2⟩
    have hcx : m1 ≤ c1 := hx.cap
    have hcy : m2 ≤ c2 := hy.cap
    have hA : Below w2.heap.size w2 (w2.alloc (.cells #[.int .i64 P, .slice A n c] 26)) := (Below.refl _ _).alloc (Nat.le_refl _) _
    have k3 : Blk (w2.alloc (.cells #[.int .i64 P, .slice A n c] 26)) w2.heap.size 26 #[.int .i64 P, .slice A n c] := Blk.new _ _ _
    have hB3 := hb2.alloc (o := .cells #[.int .i64 P, .slice A n c] 26) hb2.size
    have o3 := (ho.below hA).rd
    have x3 := (hx.below hA).rd
    have y3 := (hy.below hA).rd
    have r3 := r.below (hb2.alloc (o := .cells #[.int .i64 P, .slice A n c] 26) hb2.size)
    obtain ⟨w3, hw3⟩ : ∃ W, W = w2.alloc (.cells #[.int .i64 P, .slice A n c] 26) := ⟨_, rfl⟩
    have hb1 := BivectorBracket_any P A n c sq A1 m1 c1 xs A2 m2 c2 ys w3 (by omega) (by omega) (by omega) (hw3 ▸ o3) (hw3 ▸ x3) hcx (hw3 ▸ y3) hcy
    obtain ⟨q0, q1⟩ := k3.two
    clear hdr ho hx hy hb2 r hA
    go_wp2_with fail
    rw [← hw3] at k3 hB3 o3 x3 y3 r3 ⊢
    clear hw3
    refine hb1.mono ?_
    rintro e w4 ⟨Az, mz, cz, rfl, hM4⟩
    have hW : Below w3.heap.size w3 w4 := hM4.b
    have r_x := x3.below hW
    have r_y := y3.below hW
    have r_z := hM4.rd
    have i_z := hM4.2.cap
    clear q0 q1 hb1 hM4 x3 y3
    have kk := k3.below hW k3.lt
    obtain ⟨q0, q1⟩ := kk.two
    clear kk
    have hcall := specBivectorBracket_any P A n c sq A1 m1 c1 xs A2 m2 c2 ys w4 (by omega) (by omega) (by omega) (o3.below hW) r_x hcx r_y hcy
    go_wp2_with fail
    refine hcall.mono ?_
    rintro e w5 ⟨A5, m5, c5, rfl, hM⟩
    replace r_x := r_x.below hM.b
    replace r_y := r_y.below hM.b
    replace r_z := r_z.below hM.b
    have r_t := hM.rd
    replace hW := hW.trans (hM.b.mono hW.size)
    clear hM
    clear hcall q0 q1
    have kk := k3.below hW k3.lt
    obtain ⟨q0, q1⟩ := kk.two
    clear kk
    have l4 := r_z.lenI
    have l5 := r_t.lenI
    have hlen := bbrR_len64 P sq xs ys
    have hcall := likeInts_any Az A5 mz m5 cz c5 _ _ w5 (by omega) (by omega) r_z r_t
    rw [decide_eq_true rfl] at hcall
    have e0 : ((bbrR P sq xs ys).2 != (bbrR P sq xs ys).2) = false := by simp
    clear l4 l5 hlen
    go_wp2_with fail
    refine hcall.mono ?_
    rintro e w8 ⟨rfl, j1, hw9⟩
    have hb7 := below_drewN (Below.refl w5.heap.size w5) j1
    rw [← hw9] at hb7
    replace r_x := r_x.below hb7
    replace r_y := r_y.below hb7
    replace r_z := r_z.below hb7
    replace r_t := r_t.below hb7
    replace hW := hW.trans (hb7.mono hW.size)
    clear hcall q0 q1 hb7 hw9 e0 r_t
    have hB8 := hB3.trans (hW.mono hB3.size)
    by_cases hc : codeB P sq [xs, ys] = 0
    · have e1 : ((bbrR P sq xs ys).2 != 0) = false := by rw [bbrR_ok hc]; rfl
      obtain ⟨hM0, hreg, hon⟩ := codeB_all hc
      obtain ⟨HPr, hp, hp2, hd1, hd2, hs0, hms⟩ := codeM_spec2 hM0
      obtain ⟨hx1, hxs0⟩ := hms xs (by simp)
      obtain ⟨hy1, hys0⟩ := hms ys (by simp)
      have hxo := hon xs (by simp)
      have hyo := hon ys (by simp)
      have hsl := o3.lenI
      obtain ⟨hsp, -⟩ := codeM_sp hM0
      have hnn1 : 1 ≤ n := by omega
      have hnn6 : n ≤ 6 := by omega
      have hzl : (halfL P (brkL P sq sq.length xs ys)).length = pw sq.length := by unfold halfL; rw [scaleL_len, brkL_len]
      have hzn : NumsL P (halfL P (brkL P sq sq.length xs ys)) := halfL_nums (by omega) _
      have hzo : onlyL (halfL P (brkL P sq sq.length xs ys)) 2 = true := by
        obtain ⟨x, hxe⟩ : ∃ x : Cl P sq, x.l = xs := ⟨⟨xs, hx1, hxs0, by omega⟩, rfl⟩
        obtain ⟨y, hye⟩ : ∃ y : Cl P sq, y.l = ys := ⟨⟨ys, hy1, hys0, by omega⟩, rfl⟩
        subst hxe
        subst hye
        rw [half_cl]; exact Cl.brk_biv (by omega) hd2 hxo hyo _
      have hrw : ∀ i, i < n → plusL P ((timesM P (matL P sq n xs) (matL P sq n ys)).getD i []) ((timesM P (matL P sq n ys) (matL P sq n xs)).getD i []) (-1) = (matL P sq n (halfL P (brkL P sq sq.length xs ys))).getD i [] := fun i hi => by
        have h := brk_rows HPr hd2 hx1 hxs0 hy1 hys0 hxo hyo (i := i) (by omega)
        rwa [hsl] at h ⊢
      have hsk : ∀ i k, i < n → k < n → (sq.getD k 0 * ent (matL P sq n xs) k i + sq.getD i 0 * ent (matL P sq n xs) i k) % P = 0 := fun i k hi hk => by
        have h := biv_skew HPr hd2 hx1 hxs0 hxo (i := i) (k := k) (by omega) (by omega)
        rwa [hsl] at h
      have hmob : ∀ ys : List Int, ys.length = pw sq.length → NumsL P ys → onlyL ys 2 = true → mobR P sq ys = (matL P sq n ys, 0) ∧ (matL P sq n ys).length = n ∧ Tab P n (matL P sq n ys) := fun ys h1 h2 h3 => ⟨by rw [mobR_ok (codeB_mk hsp hreg (all_one ⟨h1, h2⟩) (all_one h3)), hsl], matL_len (by omega) sq (by omega) ys, matL_tab (by omega) sq n ys⟩
      have hkf : kfR P sq xs ys = (traceL P (timesM P (matL P sq n xs) (matL P sq n ys)), 0) := by rw [kfR_ok hc, hsl]
      have htw : ∀ u v w : List Int, u.length = n → NumsL P u → v.length = n → NumsL P v → w.length = n → NumsL P w →
          tvR P sq (wedgeL P sq (vecTo n v n) (vecTo n w n)) u = (turnL P sq n (wedgeL P sq (vecTo n v n) (vecTo n w n)) u, 0) ∧ (turnL P sq n (wedgeL P sq (vecTo n v n) (vecTo n w n)) u).length = n ∧ turnL P sq n (wedgeL P sq (vecTo n v n) (vecTo n w n)) u = plusL P (plusL P (List.replicate n 0) v (pairL P sq w u)) w (-(pairL P sq v u)) ∧ True := fun u v w lu nu lv nv lw nw => by
        have hwl : (wedgeL P sq (vecTo n v n) (vecTo n w n)).length = pw sq.length := by unfold wedgeL; rw [prodL_len, vecTo_len, hsl]
        have hwn : NumsL P (wedgeL P sq (vecTo n v n) (vecTo n w n)) := by unfold wedgeL; exact prodL_nums sq _ _ _ (by omega)
        have hwo := wedge_only (p := P) (sq := sq) (by omega) hd2 nv nw
        have htn := turn_wedge HPr hd2 nu nv (lv.trans hsl.symm) nw (lw.trans hsl.symm)
        rw [hsl] at hwo htn
        exact ⟨by rw [tvR_ok (codeM_mk hsp (all_one ⟨hwl, hwn⟩)) (isVe_mk (lu.trans hsl.symm) nu) (codeB_mk hsp hreg (all_one ⟨hwl, hwn⟩) (all_one hwo)), hsl], turnL_len _ _ _ _ _, htn, trivial⟩
      rw [bbrR_ok hc] at r_z
      obtain rfl : m1 = pw n := by rw [← r_x.lenI, hx1, hsl]
      obtain rfl : m2 = pw n := by rw [← r_y.lenI, hy1, hsl]
      have hpw : pw n ≤ 64 := pw_le (show n ≤ 6 by omega)
      obtain ⟨Z, hZ⟩ : ∃ z, z = halfL P (brkL P sq sq.length xs ys) := ⟨_, rfl⟩
      rw [← hZ] at hzl hzn hzo hrw
      replace r_z : Rd w8 Az mz (ints Z) := by rw [hZ]; exact r_z
      obtain rfl : mz = pw n := by rw [← r_z.lenI, hzl, hsl]
      have HZN : Hid (Z.length = pw n ∧ NumsL P Z ∧ onlyL Z 2 = true) := Lib.hid ⟨hzl.trans (by rw [hsl]), hzn, hzo⟩
      have HXN : Hid (xs.length = pw n ∧ NumsL P xs ∧ onlyL xs 2 = true) := Lib.hid ⟨hx1.trans (by rw [hsl]), hxs0, hxo⟩
      have ma := hmob xs hx1 hxs0 hxo
      have mb := hmob ys hy1 hys0 hyo
      have mc := hmob Z hzl hzn hzo
      obtain ⟨MA, hMA⟩ : ∃ a, a = matL P sq n xs := ⟨_, rfl⟩
      obtain ⟨MB, hMB⟩ : ∃ a, a = matL P sq n ys := ⟨_, rfl⟩
      obtain ⟨MC, hMC⟩ : ∃ a, a = matL P sq n Z := ⟨_, rfl⟩
      rw [← hMA] at ma hrw hsk hkf
      rw [← hMB] at mb hrw hkf
      rw [← hMC] at mc hrw
      have HMA : Hid (mobR P sq xs = (MA, 0) ∧ MA.length = n ∧ Tab P n MA ∧ MA = matL P sq n xs) := Lib.hid ⟨ma.1, ma.2.1, ma.2.2, hMA⟩
      have HMB := Lib.hid mb
      have HMC := Lib.hid (And.intro mc.1 (And.intro mc.2.1 (And.intro mc.2.2 mc.2.2)))
      have HMB : Hid (mobR P sq ys = (MB, 0) ∧ MB.length = n ∧ Tab P n MB ∧ Tab P n MB) := Lib.hid ⟨mb.1, mb.2.1, mb.2.2, mb.2.2⟩
      have tab1 : Tab P n (timesM P MA MB) ∧ (timesM P MA MB).length = n := ⟨timesM_tab (by omega) (by omega) mb.2.2 mb.2.1, by rw [timesM_len, ma.2.1]⟩
      have tba1 : Tab P n (timesM P MB MA) ∧ (timesM P MB MA).length = n := ⟨timesM_tab (by omega) (by omega) ma.2.2 ma.2.1, by rw [timesM_len, mb.2.1]⟩
      obtain ⟨AB, hAB⟩ : ∃ a, a = timesM P MA MB := ⟨_, rfl⟩
      obtain ⟨BA, hBA⟩ : ∃ a, a = timesM P MB MA := ⟨_, rfl⟩
      rw [← hAB] at tab1 hrw hkf
      rw [← hBA] at tba1 hrw
      obtain ⟨tr, htr⟩ : ∃ a, a = traceL P AB := ⟨_, rfl⟩
      rw [← htr] at hkf
      have HAB := Lib.hid (And.intro hAB tab1)
      have HBA := Lib.hid (And.intro hBA tba1)
      have HTR := Lib.hid htr
      have HKF := Lib.hid hkf
      have HSK := Lib.hid hsk
      have HRW := Lib.hid hrw
      have HTW := Lib.hid htw
      have HP := Lib.hid HPr
      clear hms hx1 hxs0 hy1 hys0 hon hxo hyo hsl hzl hzn hzo hrw hsk hmob hkf htw ma mb mc hMA hMB hMC tab1 tba1 hAB hBA htr hZ hs0 hM0 hc HPr hB8
      have kk := k3.below hW k3.lt
      obtain ⟨q0, q1⟩ := kk.two
      clear kk
      have hcall := MobM_ok P A n c sq A1 (pw n) c1 xs w8 (by omega) (by omega) (o3.below hW) r_x hcx MA HMA.out.1 HMA.out.2.1
      go_wp2_with fail
      refine hcall.mono ?_
      rintro e w9 ⟨Aa, ca, rfl, hM⟩
      replace r_x := r_x.below hM.b
      replace r_y := r_y.below hM.b
      replace r_z := r_z.below hM.b
      have r_a := hM.rd
      replace hW := hW.trans (hM.b.mono hW.size)
      clear hM
      clear hcall q0 q1
      have kk := k3.below hW k3.lt
      obtain ⟨q0, q1⟩ := kk.two
      clear kk
      have hcall := MobM_ok P A n c sq A2 (pw n) c2 ys w9 (by omega) (by omega) (o3.below hW) r_y hcy MB HMB.out.1 HMB.out.2.1
      go_wp2_with fail
      refine hcall.mono ?_
      rintro e w10 ⟨Ab, cb9, rfl, hM⟩
      replace r_x := r_x.below hM.b
      replace r_y := r_y.below hM.b
      replace r_z := r_z.below hM.b
      replace r_a := r_a.below hM.b
      have r_b := hM.rd
      replace hW := hW.trans (hM.b.mono hW.size)
      clear hM
      clear hcall q0 q1
      have kk := k3.below hW k3.lt
      obtain ⟨q0, q1⟩ := kk.two
      clear kk
      have hcall := MobM_ok P A n c sq Az (pw n) cz Z w10 (by omega) (by omega) (o3.below hW) r_z i_z MC HMC.out.1 HMC.out.2.1
      go_wp2_with fail
      refine hcall.mono ?_
      rintro e w11 ⟨Ac, cc9, rfl, hM⟩
      replace r_x := r_x.below hM.b
      replace r_y := r_y.below hM.b
      replace r_z := r_z.below hM.b
      replace r_a := r_a.below hM.b
      replace r_b := r_b.below hM.b
      have r_c := hM.rd
      replace hW := hW.trans (hM.b.mono hW.size)
      clear hM
      clear hcall q0 q1
      have kk := k3.below hW k3.lt
      obtain ⟨q0, q1⟩ := kk.two
      clear kk
      have hcall := BivectorOfMatrix_ok P A n c sq Aa ca xs w11 hsp hreg (o3.below hW) (HMA.out.2.2.2 ▸ r_a) HXN.out.1 HXN.out.2.1 HXN.out.2.2
      go_wp2_with fail
      refine hcall.mono ?_
      rintro e w12 ⟨Ak, ck, rfl, hM⟩
      replace r_x := r_x.below hM.b
      replace r_y := r_y.below hM.b
      replace r_z := r_z.below hM.b
      replace r_a := r_a.below hM.b
      replace r_b := r_b.below hM.b
      replace r_c := r_c.below hM.b
      have r_k := hM.rd
      replace hW := hW.trans (hM.b.mono hW.size)
      clear hM
      clear hcall q0 q1
      have kk := k3.below hW k3.lt
      obtain ⟨q0, q1⟩ := kk.two
      clear kk
      have hcall := IsSkewMatrix_ok P A n c sq Aa ca MA w12 hsp hreg (o3.below hW) r_a HMA.out.2.2.1 HSK.out
      go_wp2_with fail
      refine hcall.mono ?_
      rintro e w13 ⟨rfl, hb7⟩
      replace r_x := r_x.below hb7
      replace r_y := r_y.below hb7
      replace r_z := r_z.below hb7
      replace r_a := r_a.below hb7
      replace r_b := r_b.below hb7
      replace r_c := r_c.below hb7
      replace r_k := r_k.below hb7
      replace hW := hW.trans (hb7.mono hW.size)
      clear hcall q0 q1
      have kk := k3.below hW k3.lt
      obtain ⟨q0, q1⟩ := kk.two
      clear kk
      have hcall := MultiplyMatrices_ok P Aa n ca MA Ab cb9 MB w13 HP.out (by omega) (by omega) r_a HMA.out.2.2.1 r_b HMB.out.2.2.1
      rw [← HAB.out.1] at hcall
      go_wp2_with fail
      refine hcall.mono ?_
      rintro e w14 ⟨Ae, ce, rfl, hM⟩
      replace r_x := r_x.below hM.b
      replace r_y := r_y.below hM.b
      replace r_z := r_z.below hM.b
      replace r_a := r_a.below hM.b
      replace r_b := r_b.below hM.b
      replace r_c := r_c.below hM.b
      replace r_k := r_k.below hM.b
      have r_e := hM.rd
      replace hW := hW.trans (hM.b.mono hW.size)
      clear hM
      clear hcall q0 q1
      have kk := k3.below hW k3.lt
      obtain ⟨q0, q1⟩ := kk.two
      clear kk
      have hcall := MultiplyMatrices_ok P Ab n cb9 MB Aa ca MA w14 HP.out (by omega) (by omega) r_b HMB.out.2.2.1 r_a HMA.out.2.2.1
      rw [← HBA.out.1] at hcall
      go_wp2_with fail
      refine hcall.mono ?_
      rintro e w15 ⟨Af, cf, rfl, hM⟩
      replace r_x := r_x.below hM.b
      replace r_y := r_y.below hM.b
      replace r_z := r_z.below hM.b
      replace r_a := r_a.below hM.b
      replace r_b := r_b.below hM.b
      replace r_c := r_c.below hM.b
      replace r_k := r_k.below hM.b
      replace r_e := r_e.below hM.b
      have r_f := hM.rd
      replace hW := hW.trans (hM.b.mono hW.size)
      clear hM
      clear hcall q0 q1
      have kk := k3.below hW k3.lt
      obtain ⟨q0, q1⟩ := kk.two
      clear kk
      have hcall := IsBivector_ok P A n c sq Az (pw n) cz Z w15 hsp hreg (o3.below hW) r_z i_z rfl HZN.out.2.1
      rw [HZN.out.2.2] at hcall
      go_wp2_with fail
      refine hcall.mono ?_
      rintro e w16 ⟨rfl, hb7⟩
      replace r_x := r_x.below hb7
      replace r_y := r_y.below hb7
      replace r_z := r_z.below hb7
      replace r_a := r_a.below hb7
      replace r_b := r_b.below hb7
      replace r_c := r_c.below hb7
      replace r_k := r_k.below hb7
      replace r_e := r_e.below hb7
      replace r_f := r_f.below hb7
      replace hW := hW.trans (hb7.mono hW.size)
      clear hcall q0 q1
      have kk := k3.below hW k3.lt
      obtain ⟨q0, q1⟩ := kk.two
      clear kk
      have hcall := KillingForm_any P A n c sq A1 (pw n) c1 xs A2 (pw n) c2 ys w16 (by omega) (by omega) (by omega) (o3.below hW) r_x hcx r_y hcy
      rw [HKF.out] at hcall
      go_wp2_with fail
      refine hcall.mono ?_
      rintro e w17 ⟨rfl, hb7⟩
      replace r_x := r_x.below hb7
      replace r_y := r_y.below hb7
      replace r_z := r_z.below hb7
      replace r_a := r_a.below hb7
      replace r_b := r_b.below hb7
      replace r_c := r_c.below hb7
      replace r_k := r_k.below hb7
      replace r_e := r_e.below hb7
      replace r_f := r_f.below hb7
      replace hW := hW.trans (hb7.mono hW.size)
      clear hcall q0 q1
      have kk := k3.below hW k3.lt
      obtain ⟨q0, q1⟩ := kk.two
      clear kk
      have hcall := TraceOf_ok P Ae n ce AB w17 HP.out (by omega) (by omega) r_e HAB.out.2.1
      rw [← HTR.out] at hcall
      go_wp2_with fail
      refine hcall.mono ?_
      rintro e w18 ⟨rfl, hb7⟩
      replace r_x := r_x.below hb7
      replace r_y := r_y.below hb7
      replace r_z := r_z.below hb7
      replace r_a := r_a.below hb7
      replace r_b := r_b.below hb7
      replace r_c := r_c.below hb7
      replace r_k := r_k.below hb7
      replace r_e := r_e.below hb7
      replace r_f := r_f.below hb7
      replace hW := hW.trans (hb7.mono hW.size)
      clear hcall q0 q1
      have e2 : (tr != tr) = false := by simp
      have e3 : ((n : Int) != (n : Int)) = false := by simp
      have kk := k3.below hW k3.lt
      obtain ⟨q0, q1⟩ := kk.two
      clear kk
      have hcall := likeInts_any Ak A1 (pw n) (pw n) ck c1 xs xs w18 (by omega) (by omega) r_k r_x
      rw [decide_eq_true rfl] at hcall
      go_wp2_with fail
      refine hcall.mono ?_
      rintro e w19 ⟨rfl, j2, hw9⟩
      have hb7 := below_drewN (Below.refl w18.heap.size w18) j2
      rw [← hw9] at hb7
      replace r_x := r_x.below hb7
      replace r_y := r_y.below hb7
      replace r_z := r_z.below hb7
      replace r_a := r_a.below hb7
      replace r_b := r_b.below hb7
      replace r_c := r_c.below hb7
      replace r_k := r_k.below hb7
      replace r_e := r_e.below hb7
      replace r_f := r_f.below hb7
      replace hW := hW.trans (hb7.mono hW.size)
      clear hcall q0 q1 hb7 hw9
      clear r_k
      clear e2 e3
      go_wp2
      go_loopw [30] (fun i wr => ∃ k : Nat, k ≤ n ∧ i = .int .i64 k ∧ Below w19.heap.size w19 wr) (fun i _ => n - (intOf i).toNat)
      case atStart => exact ⟨0, by omega, rfl, Below.refl _ _⟩
      case round =>
        obtain ⟨i, hi, rfl, hbr⟩ := hrel
        by_cases hlt : i < n
        · have kk := k3.below (hW.trans (hbr.mono hW.size)) k3.lt
          have hcl : ∃ (gc oc ge oe gf of : Nat) (B1 B2 B3 : Option Addr) (d1 d2 d3 : Nat), Ac = some ⟨gc, oc, none⟩ ∧ Ae = some ⟨ge, oe, none⟩ ∧ Af = some ⟨gf, of, none⟩ ∧
              Hid (∀ w', Below wr.heap.size wr w' → w'.cell? ⟨gc, oc + i, none⟩ = some (.slice B1 n d1) ∧ w'.cell? ⟨ge, oe + i, none⟩ = some (.slice B2 n d2) ∧ w'.cell? ⟨gf, of + i, none⟩ = some (.slice B3 n d3)) ∧
              Hid (∀ w', Below wr.heap.size wr w' → Rd w' B1 n (ints (MC.getD i [])) ∧ Rd w' B2 n (ints (AB.getD i [])) ∧ Rd w' B3 n (ints (BA.getD i []))) := by
            obtain ⟨gc, oc, rfl, hx1, B1, d1, hc1, hr1, -⟩ := (r_c.below hbr).at_ hlt
            obtain ⟨ge, oe, rfl, hx2, B2, d2, hc2, hr2, -⟩ := (r_e.below hbr).at_ hlt
            obtain ⟨gf, of, rfl, hx3, B3, d3, hc3, hr3, -⟩ := (r_f.below hbr).at_ hlt
            rw [(HMC.out.2.2.1 MC[i] (List.getElem_mem hx1)).1] at hc1 hr1
            rw [(HAB.out.2.1 AB[i] (List.getElem_mem hx2)).1] at hc2 hr2
            rw [(HBA.out.2.1 BA[i] (List.getElem_mem hx3)).1] at hc3 hr3
            refine ⟨gc, oc, ge, oe, gf, of, B1, B2, B3, d1, d2, d3, rfl, rfl, rfl, Lib.hid fun w' h => ⟨?_, ?_, ?_⟩, Lib.hid fun w' h => ⟨?_, ?_, ?_⟩⟩
            · exact (h.cell (World.block_lt_of_cell? _ _ hc1)).trans hc1
            · exact (h.cell (World.block_lt_of_cell? _ _ hc2)).trans hc2
            · exact (h.cell (World.block_lt_of_cell? _ _ hc3)).trans hc3
            · rw [getD_of_lt [] hx1]; exact hr1.below h
            · rw [getD_of_lt [] hx2]; exact hr2.below h
            · rw [getD_of_lt [] hx3]; exact hr3.below h
          obtain ⟨gc, oc, ge, oe, gf, of, B1, B2, B3, d1, d2, d3, rfl, rfl, rfl, HC, HR⟩ := hcl
          have hrow := HRW.out i hlt
          have n2 := (HAB.out.2.1.row (show i < AB.length by rw [HAB.out.2.2]; exact hlt)).2
          have n3 := (HBA.out.2.1.row (show i < BA.length by rw [HBA.out.2.2]; exact hlt)).2
          have hpl := fun w' (h : Below wr.heap.size wr w') => plus5_any P B2 n d2 B3 d3 (-1) (AB.getD i []) (BA.getD i []) w' (by omega) hp2 (by omega) (HR.out w' h).2.1 n2 (HR.out w' h).2.2 n3 (by omega) (by omega)
          have hlk := fun (w' : World) (A9 : Option Addr) (c9 : Nat) (h : Below wr.heap.size wr w') (h9 : Rd w' A9 n (ints (MC.getD i []))) => likeInts_any B1 A9 n n d1 c9 (MC.getD i []) (MC.getD i []) w' (by omega) (by omega) (HR.out w' h).1 h9
          rw [hrow] at hpl
          rw [decide_eq_true rfl] at hlk
          obtain ⟨ROW, hROW⟩ : ∃ R, R = MC.getD i [] := ⟨_, rfl⟩
          rw [← hROW] at hpl hlk
          have HPL := Lib.hid hpl
          have HLK := Lib.hid hlk
          clear hrow n2 n3 hpl hlk hROW
          obtain ⟨q0, q1⟩ := kk.two
          go_wp2
          refine wp_obs 17 [[], [], [0, 1], [0, 1, 2], [], [4], [], [], [6, 7], [6, 7, 8], [], [], [10, 11], [10, 11, 12], [4, 5, 6, 7, 8, 9, 10, 11, 12, 13], [0, 1, 2, 3, 4, 5, 6, 7, 8, 9, 10, 11, 12, 13, 14], [0, 1, 2, 3, 4, 5, 6, 7, 8, 9, 10, 11, 12, 13, 14, 15]] [VIs (.slice (some ⟨gc, oc, none⟩) n cc9), VIs (.int .i64 (i)), VIs (.pointer (some ⟨gc, oc + i, none⟩)), VIs (.slice B1 n d1), VIs (.pointer (some ⟨w2.heap.size, 0, none⟩)), VIs (.int .i64 (P)), VIs (.slice (some ⟨ge, oe, none⟩) n ce), VIs (.int .i64 (i)), VIs (.pointer (some ⟨ge, oe + i, none⟩)), VIs (.slice B2 n d2), VIs (.slice (some ⟨gf, of, none⟩) n cf), VIs (.int .i64 (i)), VIs (.pointer (some ⟨gf, of + i, none⟩)), VIs (.slice B3 n d3), VSl wr n ROW, VIs (.bool true), VIs (.bool false)] (fun w' => Blk w' w2.heap.size 26 #[.int .i64 P, .slice A n c] ∧ Below wr.heap.size wr w') (by kernel_rfl) (by kernel_rfl) (fun _ _ h hb => ⟨h.1.below hb h.1.lt, h.2.trans (hb.mono h.2.size)⟩) (⟨kk.drew, (Below.refl _ _).drew⟩) (fun x => ?_)
          refine obs_step (Eq.trans (by simp only [List.getElem?_toArray, List.getElem?_cons_zero]; exact rfl) rfl) rfl (fun w' hS hV K hK => ?_) ?_
          · obtain ⟨q0, q1⟩ := hS.1.two; obtain ⟨q2, q3, q4⟩ := HC.out _ hS.2
            go_simp
            exact hK.out _ _ _ rfl rfl rfl (Below.refl _ _)
          simp only [List.setIfInBounds_toArray, List.set_cons_zero, List.set_cons_succ]
          refine obs_step (Eq.trans (by simp only [List.getElem?_toArray, List.getElem?_cons_succ, List.getElem?_cons_zero]; exact rfl) rfl) rfl (fun w' hS hV K hK => ?_) ?_
          · obtain ⟨q0, q1⟩ := hS.1.two; obtain ⟨q2, q3, q4⟩ := HC.out _ hS.2
            go_simp
            exact hK.out _ _ _ rfl rfl rfl (Below.refl _ _)
          simp only [List.setIfInBounds_toArray, List.set_cons_zero, List.set_cons_succ]
          refine obs_step (Eq.trans (by simp only [List.getElem?_toArray, List.getElem?_cons_succ, List.getElem?_cons_zero]; exact rfl) rfl) rfl (fun w' hS hV K hK => ?_) ?_
          · have e0 : x 0 = (.slice (some ⟨gc, oc, none⟩) n cc9) := hV 0 (by decide)
            have e1 : x 1 = (.int .i64 (i)) := hV 1 (by decide)
            obtain ⟨q0, q1⟩ := hS.1.two; obtain ⟨q2, q3, q4⟩ := HC.out _ hS.2
            go_simp
            exact hK.out _ _ _ rfl rfl rfl (Below.refl _ _)
          simp only [List.setIfInBounds_toArray, List.set_cons_zero, List.set_cons_succ]
          refine obs_step (Eq.trans (by simp only [List.getElem?_toArray, List.getElem?_cons_succ, List.getElem?_cons_zero]; exact rfl) rfl) rfl (fun w' hS hV K hK => ?_) ?_
          · have e0 : x 0 = (.slice (some ⟨gc, oc, none⟩) n cc9) := hV 0 (by decide)
            have e1 : x 1 = (.int .i64 (i)) := hV 1 (by decide)
            have e2 : x 2 = (.pointer (some ⟨gc, oc + i, none⟩)) := hV 2 (by decide)
            obtain ⟨q0, q1⟩ := hS.1.two; obtain ⟨q2, q3, q4⟩ := HC.out _ hS.2
            go_simp
            exact hK.out _ _ _ rfl rfl rfl (Below.refl _ _)
          simp only [List.setIfInBounds_toArray, List.set_cons_zero, List.set_cons_succ]
          refine obs_step (Eq.trans (by simp only [List.getElem?_toArray, List.getElem?_cons_succ, List.getElem?_cons_zero]; exact rfl) rfl) rfl (fun w' hS hV K hK => ?_) ?_
          · obtain ⟨q0, q1⟩ := hS.1.two; obtain ⟨q2, q3, q4⟩ := HC.out _ hS.2
            go_simp
            exact hK.out _ _ _ rfl rfl rfl (Below.refl _ _)
          simp only [List.setIfInBounds_toArray, List.set_cons_zero, List.set_cons_succ]
          refine obs_step (Eq.trans (by simp only [List.getElem?_toArray, List.getElem?_cons_succ, List.getElem?_cons_zero]; exact rfl) rfl) rfl (fun w' hS hV K hK => ?_) ?_
          · have e4 : x 4 = (.pointer (some ⟨w2.heap.size, 0, none⟩)) := hV 4 (by decide)
            obtain ⟨q0, q1⟩ := hS.1.two; obtain ⟨q2, q3, q4⟩ := HC.out _ hS.2
            go_simp
            exact hK.out _ _ _ rfl rfl rfl (Below.refl _ _)
          simp only [List.setIfInBounds_toArray, List.set_cons_zero, List.set_cons_succ]
          refine obs_step (Eq.trans (by simp only [List.getElem?_toArray, List.getElem?_cons_succ, List.getElem?_cons_zero]; exact rfl) rfl) rfl (fun w' hS hV K hK => ?_) ?_
          · obtain ⟨q0, q1⟩ := hS.1.two; obtain ⟨q2, q3, q4⟩ := HC.out _ hS.2
            go_simp
            exact hK.out _ _ _ rfl rfl rfl (Below.refl _ _)
          simp only [List.setIfInBounds_toArray, List.set_cons_zero, List.set_cons_succ]
          refine obs_step (Eq.trans (by simp only [List.getElem?_toArray, List.getElem?_cons_succ, List.getElem?_cons_zero]; exact rfl) rfl) rfl (fun w' hS hV K hK => ?_) ?_
          · obtain ⟨q0, q1⟩ := hS.1.two; obtain ⟨q2, q3, q4⟩ := HC.out _ hS.2
            go_simp
            exact hK.out _ _ _ rfl rfl rfl (Below.refl _ _)
          simp only [List.setIfInBounds_toArray, List.set_cons_zero, List.set_cons_succ]
          refine obs_step (Eq.trans (by simp only [List.getElem?_toArray, List.getElem?_cons_succ, List.getElem?_cons_zero]; exact rfl) rfl) rfl (fun w' hS hV K hK => ?_) ?_
          · have e6 : x 6 = (.slice (some ⟨ge, oe, none⟩) n ce) := hV 6 (by decide)
            have e7 : x 7 = (.int .i64 (i)) := hV 7 (by decide)
            obtain ⟨q0, q1⟩ := hS.1.two; obtain ⟨q2, q3, q4⟩ := HC.out _ hS.2
            go_simp
            exact hK.out _ _ _ rfl rfl rfl (Below.refl _ _)
          simp only [List.setIfInBounds_toArray, List.set_cons_zero, List.set_cons_succ]
          refine obs_step (Eq.trans (by simp only [List.getElem?_toArray, List.getElem?_cons_succ, List.getElem?_cons_zero]; exact rfl) rfl) rfl (fun w' hS hV K hK => ?_) ?_
          · have e6 : x 6 = (.slice (some ⟨ge, oe, none⟩) n ce) := hV 6 (by decide)
            have e7 : x 7 = (.int .i64 (i)) := hV 7 (by decide)
            have e8 : x 8 = (.pointer (some ⟨ge, oe + i, none⟩)) := hV 8 (by decide)
            obtain ⟨q0, q1⟩ := hS.1.two; obtain ⟨q2, q3, q4⟩ := HC.out _ hS.2
            go_simp
            exact hK.out _ _ _ rfl rfl rfl (Below.refl _ _)
          simp only [List.setIfInBounds_toArray, List.set_cons_zero, List.set_cons_succ]
          refine obs_step (Eq.trans (by simp only [List.getElem?_toArray, List.getElem?_cons_succ, List.getElem?_cons_zero]; exact rfl) rfl) rfl (fun w' hS hV K hK => ?_) ?_
          · obtain ⟨q0, q1⟩ := hS.1.two; obtain ⟨q2, q3, q4⟩ := HC.out _ hS.2
            go_simp
            exact hK.out _ _ _ rfl rfl rfl (Below.refl _ _)
          simp only [List.setIfInBounds_toArray, List.set_cons_zero, List.set_cons_succ]
          refine obs_step (Eq.trans (by simp only [List.getElem?_toArray, List.getElem?_cons_succ, List.getElem?_cons_zero]; exact rfl) rfl) rfl (fun w' hS hV K hK => ?_) ?_
          · obtain ⟨q0, q1⟩ := hS.1.two; obtain ⟨q2, q3, q4⟩ := HC.out _ hS.2
            go_simp
            exact hK.out _ _ _ rfl rfl rfl (Below.refl _ _)
          simp only [List.setIfInBounds_toArray, List.set_cons_zero, List.set_cons_succ]
          refine obs_step (Eq.trans (by simp only [List.getElem?_toArray, List.getElem?_cons_succ, List.getElem?_cons_zero]; exact rfl) rfl) rfl (fun w' hS hV K hK => ?_) ?_
          · have e10 : x 10 = (.slice (some ⟨gf, of, none⟩) n cf) := hV 10 (by decide)
            have e11 : x 11 = (.int .i64 (i)) := hV 11 (by decide)
            obtain ⟨q0, q1⟩ := hS.1.two; obtain ⟨q2, q3, q4⟩ := HC.out _ hS.2
            go_simp
            exact hK.out _ _ _ rfl rfl rfl (Below.refl _ _)
          simp only [List.setIfInBounds_toArray, List.set_cons_zero, List.set_cons_succ]
          refine obs_step (Eq.trans (by simp only [List.getElem?_toArray, List.getElem?_cons_succ, List.getElem?_cons_zero]; exact rfl) rfl) rfl (fun w' hS hV K hK => ?_) ?_
          · have e10 : x 10 = (.slice (some ⟨gf, of, none⟩) n cf) := hV 10 (by decide)
            have e11 : x 11 = (.int .i64 (i)) := hV 11 (by decide)
            have e12 : x 12 = (.pointer (some ⟨gf, of + i, none⟩)) := hV 12 (by decide)
            obtain ⟨q0, q1⟩ := hS.1.two; obtain ⟨q2, q3, q4⟩ := HC.out _ hS.2
            go_simp
            exact hK.out _ _ _ rfl rfl rfl (Below.refl _ _)
          simp only [List.setIfInBounds_toArray, List.set_cons_zero, List.set_cons_succ]
          refine obs_step (Eq.trans (by simp only [List.getElem?_toArray, List.getElem?_cons_succ, List.getElem?_cons_zero]; exact rfl) rfl) rfl (fun w' hS hV K hK => ?_) ?_
          · have e4 : x 4 = (.pointer (some ⟨w2.heap.size, 0, none⟩)) := hV 4 (by decide)
            have e5 : x 5 = (.int .i64 (P)) := hV 5 (by decide)
            have e6 : x 6 = (.slice (some ⟨ge, oe, none⟩) n ce) := hV 6 (by decide)
            have e7 : x 7 = (.int .i64 (i)) := hV 7 (by decide)
            have e8 : x 8 = (.pointer (some ⟨ge, oe + i, none⟩)) := hV 8 (by decide)
            have e9 : x 9 = (.slice B2 n d2) := hV 9 (by decide)
            have e10 : x 10 = (.slice (some ⟨gf, of, none⟩) n cf) := hV 10 (by decide)
            have e11 : x 11 = (.int .i64 (i)) := hV 11 (by decide)
            have e12 : x 12 = (.pointer (some ⟨gf, of + i, none⟩)) := hV 12 (by decide)
            have e13 : x 13 = (.slice B3 n d3) := hV 13 (by decide)
            obtain ⟨q0, q1⟩ := hS.1.two; obtain ⟨q2, q3, q4⟩ := HC.out _ hS.2
            go_simp
            refine (HPL.out _ hS.2).mono ?_
            rintro e v1 ⟨A9, c9, rfl, hM⟩
            exact hK.out _ _ _ rfl rfl ⟨_, _, rfl, hM.after hS.2⟩ hM.b
          simp only [List.setIfInBounds_toArray, List.set_cons_zero, List.set_cons_succ]
          refine obs_step (Eq.trans (by simp only [List.getElem?_toArray, List.getElem?_cons_succ, List.getElem?_cons_zero]; exact rfl) rfl) rfl (fun w' hS hV K hK => ?_) ?_
          · have e0 : x 0 = (.slice (some ⟨gc, oc, none⟩) n cc9) := hV 0 (by decide)
            have e1 : x 1 = (.int .i64 (i)) := hV 1 (by decide)
            have e2 : x 2 = (.pointer (some ⟨gc, oc + i, none⟩)) := hV 2 (by decide)
            have e3 : x 3 = (.slice B1 n d1) := hV 3 (by decide)
            have e4 : x 4 = (.pointer (some ⟨w2.heap.size, 0, none⟩)) := hV 4 (by decide)
            have e5 : x 5 = (.int .i64 (P)) := hV 5 (by decide)
            have e6 : x 6 = (.slice (some ⟨ge, oe, none⟩) n ce) := hV 6 (by decide)
            have e7 : x 7 = (.int .i64 (i)) := hV 7 (by decide)
            have e8 : x 8 = (.pointer (some ⟨ge, oe + i, none⟩)) := hV 8 (by decide)
            have e9 : x 9 = (.slice B2 n d2) := hV 9 (by decide)
            have e10 : x 10 = (.slice (some ⟨gf, of, none⟩) n cf) := hV 10 (by decide)
            have e11 : x 11 = (.int .i64 (i)) := hV 11 (by decide)
            have e12 : x 12 = (.pointer (some ⟨gf, of + i, none⟩)) := hV 12 (by decide)
            have e13 : x 13 = (.slice B3 n d3) := hV 13 (by decide)
            obtain ⟨A14, c14, e14, h14⟩ := hV 14 (by decide)
            obtain ⟨q0, q1⟩ := hS.1.two; obtain ⟨q2, q3, q4⟩ := HC.out _ hS.2
            go_simp
            refine (HLK.out _ _ _ hS.2 h14.rd).mono ?_
            rintro e v1 ⟨rfl, j9, rfl⟩
            exact hK.out _ _ _ rfl rfl rfl (below_drewN (Below.refl _ _) j9)
          simp only [List.setIfInBounds_toArray, List.set_cons_zero, List.set_cons_succ]
          refine obs_step (Eq.trans (by simp only [List.getElem?_toArray, List.getElem?_cons_succ, List.getElem?_cons_zero]; exact rfl) rfl) rfl (fun w' hS hV K hK => ?_) ?_
          · have e0 : x 0 = (.slice (some ⟨gc, oc, none⟩) n cc9) := hV 0 (by decide)
            have e1 : x 1 = (.int .i64 (i)) := hV 1 (by decide)
            have e2 : x 2 = (.pointer (some ⟨gc, oc + i, none⟩)) := hV 2 (by decide)
            have e3 : x 3 = (.slice B1 n d1) := hV 3 (by decide)
            have e4 : x 4 = (.pointer (some ⟨w2.heap.size, 0, none⟩)) := hV 4 (by decide)
            have e5 : x 5 = (.int .i64 (P)) := hV 5 (by decide)
            have e6 : x 6 = (.slice (some ⟨ge, oe, none⟩) n ce) := hV 6 (by decide)
            have e7 : x 7 = (.int .i64 (i)) := hV 7 (by decide)
            have e8 : x 8 = (.pointer (some ⟨ge, oe + i, none⟩)) := hV 8 (by decide)
            have e9 : x 9 = (.slice B2 n d2) := hV 9 (by decide)
            have e10 : x 10 = (.slice (some ⟨gf, of, none⟩) n cf) := hV 10 (by decide)
            have e11 : x 11 = (.int .i64 (i)) := hV 11 (by decide)
            have e12 : x 12 = (.pointer (some ⟨gf, of + i, none⟩)) := hV 12 (by decide)
            have e13 : x 13 = (.slice B3 n d3) := hV 13 (by decide)
            obtain ⟨A14, c14, e14, h14⟩ := hV 14 (by decide)
            have e15 : x 15 = (.bool true) := hV 15 (by decide)
            obtain ⟨q0, q1⟩ := hS.1.two; obtain ⟨q2, q3, q4⟩ := HC.out _ hS.2
            go_simp
            exact hK.out _ _ _ rfl rfl rfl (Below.refl _ _)
          simp only [List.setIfInBounds_toArray, List.set_cons_zero, List.set_cons_succ]
          refine fun w' hS hV => ?_
          have e0 : x 0 = (.slice (some ⟨gc, oc, none⟩) n cc9) := hV 0 (by decide)
          have e1 : x 1 = (.int .i64 (i)) := hV 1 (by decide)
          have e2 : x 2 = (.pointer (some ⟨gc, oc + i, none⟩)) := hV 2 (by decide)
          have e3 : x 3 = (.slice B1 n d1) := hV 3 (by decide)
          have e4 : x 4 = (.pointer (some ⟨w2.heap.size, 0, none⟩)) := hV 4 (by decide)
          have e5 : x 5 = (.int .i64 (P)) := hV 5 (by decide)
          have e6 : x 6 = (.slice (some ⟨ge, oe, none⟩) n ce) := hV 6 (by decide)
          have e7 : x 7 = (.int .i64 (i)) := hV 7 (by decide)
          have e8 : x 8 = (.pointer (some ⟨ge, oe + i, none⟩)) := hV 8 (by decide)
          have e9 : x 9 = (.slice B2 n d2) := hV 9 (by decide)
          have e10 : x 10 = (.slice (some ⟨gf, of, none⟩) n cf) := hV 10 (by decide)
          have e11 : x 11 = (.int .i64 (i)) := hV 11 (by decide)
          have e12 : x 12 = (.pointer (some ⟨gf, of + i, none⟩)) := hV 12 (by decide)
          have e13 : x 13 = (.slice B3 n d3) := hV 13 (by decide)
          obtain ⟨A14, c14, e14, h14⟩ := hV 14 (by decide)
          have e15 : x 15 = (.bool true) := hV 15 (by decide)
          have e16 : x 16 = (.bool false) := hV 16 (by decide)
          simp only [e0, e1, e2, e3, e4, e5, e6, e7, e8, e9, e10, e11, e12, e13, e14, e15, e16]
          clear e0 e1 e2 e3 e4 e5 e6 e7 e8 e9 e10 e11 e12 e13 e14 e15 e16
          refine wpAny_done (by kernel_rfl) ?_ _
          have hb9 := hbr.trans (hS.2.mono hbr.size)
          clear hS q0 q1 kk hbr
          go_wp2
          go_roundw
          case rel => exact ⟨i + 1, by omega, by go_num, hb9⟩
          case measure => simp [intOf]; omega
        · have hb7 := hbr
          clear hbr HRW r_a r_b r_c r_e r_f r_x r_y r_z
          replace hW := hW.trans (hb7.mono hW.size)
          clear hb7
          have hroll := roll_any B nb cb bs 845 wr (by omega) (r3.below hW) hbs (fun a e => Nat.lt_of_lt_of_le (hbg a e) (Nat.le_trans hB3.size hW.size))
          go_wp2_with fail
          refine hroll.mono ?_
          rintro e w20 ⟨g, rfl, hg, hs9, hb9⟩
          clear hroll
          have kk := k3.below (hW.trans (hb9.mono hW.size)) k3.lt
          have hd9 := Dr.refl hs9
          obtain ⟨q0, q1⟩ := kk.two
          go_wp2
          refine wp_obsR 18 (Dr g 99) [[], [], [], [2], [0, 1, 2, 3], [], [], [], [7], [0, 1, 2, 3, 4, 5, 6, 7, 8], [], [], [], [12], [0, 1, 2, 3, 4, 5, 6, 7, 8, 9, 10, 11, 12, 13], [0, 1, 2, 3, 4], [0, 1, 2, 3, 4, 5, 6, 7, 8, 9], [0, 1, 2, 3, 4, 5, 6, 7, 8, 9, 10, 11, 12, 13, 14]] [[], [], [], [], [99], [], [], [], [], [99], [], [], [], [], [99], [], [], []] (fun x => [VIs (.pointer (some ⟨g, 0, none⟩)), VIs (.int .i64 (n)), VIs (.pointer (some ⟨w2.heap.size, 0, none⟩)), VIs (.int .i64 (P)), VLs w20.heap.size n P, VIs (.pointer (some ⟨g, 0, none⟩)), VIs (.int .i64 (n)), VIs (.pointer (some ⟨w2.heap.size, 0, none⟩)), VIs (.int .i64 (P)), VLs w20.heap.size n P, VIs (.pointer (some ⟨g, 0, none⟩)), VIs (.int .i64 (n)), VIs (.pointer (some ⟨w2.heap.size, 0, none⟩)), VIs (.int .i64 (P)), VLs w20.heap.size n P, VLs w20.heap.size n P, VLs w20.heap.size n P, VLs w20.heap.size n P]) (fun w' => Blk w' w2.heap.size 26 #[.int .i64 P, .slice A n c] ∧ Dr g 99 w20 w') (by kernel_rfl) (by kernel_rfl) (fun x x' j hx => by
              rcases j with _ | _ | _ | _ | _ | _ | _ | _ | _ | _ | _ | _ | _ | _ | _ | _ | _ | _ | j
              · rfl
              · rfl
              · rfl
              · rfl
              · rfl
              · rfl
              · rfl
              · rfl
              · rfl
              · rfl
              · rfl
              · rfl
              · rfl
              · rfl
              · rfl
              · rfl
              · rfl
              · rfl
              · rfl)
            (weak_ofR [0, 1, 2, 3, 4, 5, 6, 7, 8, 9, 10, 11, 12, 13, 14, 15, 16, 17] (by decide) (fun k hk x v w w' hp hr => by
              simp only [List.mem_cons, List.not_mem_nil, or_false] at hk
              rcases hk with rfl | rfl | rfl | rfl | rfl | rfl | rfl | rfl | rfl | rfl | rfl | rfl | rfl | rfl | rfl | rfl | rfl | rfl
              · exact hp
              · exact hp
              · exact hp
              · exact hp
              · exact VLs.dr hp hr (by decide)
              · exact hp
              · exact hp
              · exact hp
              · exact hp
              · exact VLs.dr hp hr (by decide)
              · exact hp
              · exact hp
              · exact hp
              · exact hp
              · exact VLs.dr hp hr (by decide)
              · exact VLs.dr hp hr (by decide)
              · exact VLs.dr hp hr (by decide)
              · exact VLs.dr hp hr (by decide))) (fun j _ _ h hb => hb.either (fun hb => ⟨h.1.below hb h.1.lt, h.2.then hb⟩) (fun hr => ⟨h.1.dr hr (by decide), h.2.trans hr⟩)) (⟨kk.drew, hd9.then (Below.refl _ _).drew⟩) (fun x => ?_)
          refine obs_stepR (Eq.trans (by simp only [List.getElem?_toArray, List.getElem?_cons_zero]; exact rfl) rfl) rfl (fun w' hS hV K hK => ?_) ?_
          · obtain ⟨q0, q1⟩ := hS.1.two
            go_simp
            exact hK.out _ _ _ rfl rfl rfl (Below.refl _ _)
          simp only [List.setIfInBounds_toArray, List.set_cons_zero, List.set_cons_succ]
          refine obs_stepR (Eq.trans (by simp only [List.getElem?_toArray, List.getElem?_cons_succ, List.getElem?_cons_zero]; exact rfl) rfl) rfl (fun w' hS hV K hK => ?_) ?_
          · obtain ⟨q0, q1⟩ := hS.1.two
            go_simp
            exact hK.out _ _ _ rfl rfl rfl (Below.refl _ _)
          simp only [List.setIfInBounds_toArray, List.set_cons_zero, List.set_cons_succ]
          refine obs_stepR (Eq.trans (by simp only [List.getElem?_toArray, List.getElem?_cons_succ, List.getElem?_cons_zero]; exact rfl) rfl) rfl (fun w' hS hV K hK => ?_) ?_
          · obtain ⟨q0, q1⟩ := hS.1.two
            go_simp
            exact hK.out _ _ _ rfl rfl rfl (Below.refl _ _)
          simp only [List.setIfInBounds_toArray, List.set_cons_zero, List.set_cons_succ]
          refine obs_stepR (Eq.trans (by simp only [List.getElem?_toArray, List.getElem?_cons_succ, List.getElem?_cons_zero]; exact rfl) rfl) rfl (fun w' hS hV K hK => ?_) ?_
          · have e2 : x 2 = (.pointer (some ⟨w2.heap.size, 0, none⟩)) := hV 2 (by decide)
            obtain ⟨q0, q1⟩ := hS.1.two
            go_simp
            exact hK.out _ _ _ rfl rfl rfl (Below.refl _ _)
          simp only [List.setIfInBounds_toArray, List.set_cons_zero, List.set_cons_succ]
          refine obs_stepR (Eq.trans (by simp only [List.getElem?_toArray, List.getElem?_cons_succ, List.getElem?_cons_zero]; exact rfl) rfl) rfl (fun w' hS hV K hK => ?_) ?_
          · have e0 : x 0 = (.pointer (some ⟨g, 0, none⟩)) := hV 0 (by decide)
            have e1 : x 1 = (.int .i64 (n)) := hV 1 (by decide)
            have e2 : x 2 = (.pointer (some ⟨w2.heap.size, 0, none⟩)) := hV 2 (by decide)
            have e3 : x 3 = (.int .i64 (P)) := hV 3 (by decide)
            obtain ⟨q0, q1⟩ := hS.1.two
            go_simp
            refine (belowList_any g P n w' hS.2.s' (by omega) (by omega)).mono ?_
            rintro e v1 ⟨A9, c9, xs9, rfl, hl9, hx9, ho9, hd9⟩
            exact hK.out _ _ _ rfl rfl ⟨_, _, xs9, rfl, hl9, nums_of (by omega) hx9, ho9.base hS.2.size⟩ hd9
          simp only [List.setIfInBounds_toArray, List.set_cons_zero, List.set_cons_succ]
          refine obs_stepR (Eq.trans (by simp only [List.getElem?_toArray, List.getElem?_cons_succ, List.getElem?_cons_zero]; exact rfl) rfl) rfl (fun w' hS hV K hK => ?_) ?_
          · obtain ⟨q0, q1⟩ := hS.1.two
            go_simp
            exact hK.out _ _ _ rfl rfl rfl (Below.refl _ _)
          simp only [List.setIfInBounds_toArray, List.set_cons_zero, List.set_cons_succ]
          refine obs_stepR (Eq.trans (by simp only [List.getElem?_toArray, List.getElem?_cons_succ, List.getElem?_cons_zero]; exact rfl) rfl) rfl (fun w' hS hV K hK => ?_) ?_
          · obtain ⟨q0, q1⟩ := hS.1.two
            go_simp
            exact hK.out _ _ _ rfl rfl rfl (Below.refl _ _)
          simp only [List.setIfInBounds_toArray, List.set_cons_zero, List.set_cons_succ]
          refine obs_stepR (Eq.trans (by simp only [List.getElem?_toArray, List.getElem?_cons_succ, List.getElem?_cons_zero]; exact rfl) rfl) rfl (fun w' hS hV K hK => ?_) ?_
          · obtain ⟨q0, q1⟩ := hS.1.two
            go_simp
            exact hK.out _ _ _ rfl rfl rfl (Below.refl _ _)
          simp only [List.setIfInBounds_toArray, List.set_cons_zero, List.set_cons_succ]
          refine obs_stepR (Eq.trans (by simp only [List.getElem?_toArray, List.getElem?_cons_succ, List.getElem?_cons_zero]; exact rfl) rfl) rfl (fun w' hS hV K hK => ?_) ?_
          · have e7 : x 7 = (.pointer (some ⟨w2.heap.size, 0, none⟩)) := hV 7 (by decide)
            obtain ⟨q0, q1⟩ := hS.1.two
            go_simp
            exact hK.out _ _ _ rfl rfl rfl (Below.refl _ _)
          simp only [List.setIfInBounds_toArray, List.set_cons_zero, List.set_cons_succ]
          refine obs_stepR (Eq.trans (by simp only [List.getElem?_toArray, List.getElem?_cons_succ, List.getElem?_cons_zero]; exact rfl) rfl) rfl (fun w' hS hV K hK => ?_) ?_
          · have e0 : x 0 = (.pointer (some ⟨g, 0, none⟩)) := hV 0 (by decide)
            have e1 : x 1 = (.int .i64 (n)) := hV 1 (by decide)
            have e2 : x 2 = (.pointer (some ⟨w2.heap.size, 0, none⟩)) := hV 2 (by decide)
            have e3 : x 3 = (.int .i64 (P)) := hV 3 (by decide)
            obtain ⟨A4, c4, X4, e4, l4, u4, h4⟩ := hV 4 (by decide)
            have e5 : x 5 = (.pointer (some ⟨g, 0, none⟩)) := hV 5 (by decide)
            have e6 : x 6 = (.int .i64 (n)) := hV 6 (by decide)
            have e7 : x 7 = (.pointer (some ⟨w2.heap.size, 0, none⟩)) := hV 7 (by decide)
            have e8 : x 8 = (.int .i64 (P)) := hV 8 (by decide)
            obtain ⟨q0, q1⟩ := hS.1.two
            go_simp
            refine (belowList_any g P n w' hS.2.s' (by omega) (by omega)).mono ?_
            rintro e v1 ⟨A9, c9, xs9, rfl, hl9, hx9, ho9, hd9⟩
            exact hK.out _ _ _ rfl rfl ⟨_, _, xs9, rfl, hl9, nums_of (by omega) hx9, ho9.base hS.2.size⟩ hd9
          simp only [List.setIfInBounds_toArray, List.set_cons_zero, List.set_cons_succ]
          refine obs_stepR (Eq.trans (by simp only [List.getElem?_toArray, List.getElem?_cons_succ, List.getElem?_cons_zero]; exact rfl) rfl) rfl (fun w' hS hV K hK => ?_) ?_
          · obtain ⟨q0, q1⟩ := hS.1.two
            go_simp
            exact hK.out _ _ _ rfl rfl rfl (Below.refl _ _)
          simp only [List.setIfInBounds_toArray, List.set_cons_zero, List.set_cons_succ]
          refine obs_stepR (Eq.trans (by simp only [List.getElem?_toArray, List.getElem?_cons_succ, List.getElem?_cons_zero]; exact rfl) rfl) rfl (fun w' hS hV K hK => ?_) ?_
          · obtain ⟨q0, q1⟩ := hS.1.two
            go_simp
            exact hK.out _ _ _ rfl rfl rfl (Below.refl _ _)
          simp only [List.setIfInBounds_toArray, List.set_cons_zero, List.set_cons_succ]
          refine obs_stepR (Eq.trans (by simp only [List.getElem?_toArray, List.getElem?_cons_succ, List.getElem?_cons_zero]; exact rfl) rfl) rfl (fun w' hS hV K hK => ?_) ?_
          · obtain ⟨q0, q1⟩ := hS.1.two
            go_simp
            exact hK.out _ _ _ rfl rfl rfl (Below.refl _ _)
          simp only [List.setIfInBounds_toArray, List.set_cons_zero, List.set_cons_succ]
          refine obs_stepR (Eq.trans (by simp only [List.getElem?_toArray, List.getElem?_cons_succ, List.getElem?_cons_zero]; exact rfl) rfl) rfl (fun w' hS hV K hK => ?_) ?_
          · have e12 : x 12 = (.pointer (some ⟨w2.heap.size, 0, none⟩)) := hV 12 (by decide)
            obtain ⟨q0, q1⟩ := hS.1.two
            go_simp
            exact hK.out _ _ _ rfl rfl rfl (Below.refl _ _)
          simp only [List.setIfInBounds_toArray, List.set_cons_zero, List.set_cons_succ]
          refine obs_stepR (Eq.trans (by simp only [List.getElem?_toArray, List.getElem?_cons_succ, List.getElem?_cons_zero]; exact rfl) rfl) rfl (fun w' hS hV K hK => ?_) ?_
          · have e0 : x 0 = (.pointer (some ⟨g, 0, none⟩)) := hV 0 (by decide)
            have e1 : x 1 = (.int .i64 (n)) := hV 1 (by decide)
            have e2 : x 2 = (.pointer (some ⟨w2.heap.size, 0, none⟩)) := hV 2 (by decide)
            have e3 : x 3 = (.int .i64 (P)) := hV 3 (by decide)
            obtain ⟨A4, c4, X4, e4, l4, u4, h4⟩ := hV 4 (by decide)
            have e5 : x 5 = (.pointer (some ⟨g, 0, none⟩)) := hV 5 (by decide)
            have e6 : x 6 = (.int .i64 (n)) := hV 6 (by decide)
            have e7 : x 7 = (.pointer (some ⟨w2.heap.size, 0, none⟩)) := hV 7 (by decide)
            have e8 : x 8 = (.int .i64 (P)) := hV 8 (by decide)
            obtain ⟨A9, c9, X9, e9, l9, u9, h9⟩ := hV 9 (by decide)
            have e10 : x 10 = (.pointer (some ⟨g, 0, none⟩)) := hV 10 (by decide)
            have e11 : x 11 = (.int .i64 (n)) := hV 11 (by decide)
            have e12 : x 12 = (.pointer (some ⟨w2.heap.size, 0, none⟩)) := hV 12 (by decide)
            have e13 : x 13 = (.int .i64 (P)) := hV 13 (by decide)
            obtain ⟨q0, q1⟩ := hS.1.two
            go_simp
            refine (belowList_any g P n w' hS.2.s' (by omega) (by omega)).mono ?_
            rintro e v1 ⟨A9, c9, xs9, rfl, hl9, hx9, ho9, hd9⟩
            exact hK.out _ _ _ rfl rfl ⟨_, _, xs9, rfl, hl9, nums_of (by omega) hx9, ho9.base hS.2.size⟩ hd9
          simp only [List.setIfInBounds_toArray, List.set_cons_zero, List.set_cons_succ]
          refine obs_stepR (Eq.trans (by simp only [List.getElem?_toArray, List.getElem?_cons_succ, List.getElem?_cons_zero]; exact rfl) rfl) rfl (fun w' hS hV K hK => ?_) ?_
          · have e0 : x 0 = (.pointer (some ⟨g, 0, none⟩)) := hV 0 (by decide)
            have e1 : x 1 = (.int .i64 (n)) := hV 1 (by decide)
            have e2 : x 2 = (.pointer (some ⟨w2.heap.size, 0, none⟩)) := hV 2 (by decide)
            have e3 : x 3 = (.int .i64 (P)) := hV 3 (by decide)
            obtain ⟨A4, c4, X4, e4, l4, u4, h4⟩ := hV 4 (by decide)
            obtain ⟨q0, q1⟩ := hS.1.two
            go_simp
            exact hK.out _ _ _ rfl rfl ⟨_, _, _, rfl, l4, u4, h4⟩ (Below.refl _ _)
          simp only [List.setIfInBounds_toArray, List.set_cons_zero, List.set_cons_succ]
          refine obs_stepR (Eq.trans (by simp only [List.getElem?_toArray, List.getElem?_cons_succ, List.getElem?_cons_zero]; exact rfl) rfl) rfl (fun w' hS hV K hK => ?_) ?_
          · have e0 : x 0 = (.pointer (some ⟨g, 0, none⟩)) := hV 0 (by decide)
            have e1 : x 1 = (.int .i64 (n)) := hV 1 (by decide)
            have e2 : x 2 = (.pointer (some ⟨w2.heap.size, 0, none⟩)) := hV 2 (by decide)
            have e3 : x 3 = (.int .i64 (P)) := hV 3 (by decide)
            obtain ⟨A4, c4, X4, e4, l4, u4, h4⟩ := hV 4 (by decide)
            have e5 : x 5 = (.pointer (some ⟨g, 0, none⟩)) := hV 5 (by decide)
            have e6 : x 6 = (.int .i64 (n)) := hV 6 (by decide)
            have e7 : x 7 = (.pointer (some ⟨w2.heap.size, 0, none⟩)) := hV 7 (by decide)
            have e8 : x 8 = (.int .i64 (P)) := hV 8 (by decide)
            obtain ⟨A9, c9, X9, e9, l9, u9, h9⟩ := hV 9 (by decide)
            obtain ⟨q0, q1⟩ := hS.1.two
            go_simp
            exact hK.out _ _ _ rfl rfl ⟨_, _, _, rfl, l9, u9, h9⟩ (Below.refl _ _)
          simp only [List.setIfInBounds_toArray, List.set_cons_zero, List.set_cons_succ]
          refine obs_stepR (Eq.trans (by simp only [List.getElem?_toArray, List.getElem?_cons_succ, List.getElem?_cons_zero]; exact rfl) rfl) rfl (fun w' hS hV K hK => ?_) ?_
          · have e0 : x 0 = (.pointer (some ⟨g, 0, none⟩)) := hV 0 (by decide)
            have e1 : x 1 = (.int .i64 (n)) := hV 1 (by decide)
            have e2 : x 2 = (.pointer (some ⟨w2.heap.size, 0, none⟩)) := hV 2 (by decide)
            have e3 : x 3 = (.int .i64 (P)) := hV 3 (by decide)
            obtain ⟨A4, c4, X4, e4, l4, u4, h4⟩ := hV 4 (by decide)
            have e5 : x 5 = (.pointer (some ⟨g, 0, none⟩)) := hV 5 (by decide)
            have e6 : x 6 = (.int .i64 (n)) := hV 6 (by decide)
            have e7 : x 7 = (.pointer (some ⟨w2.heap.size, 0, none⟩)) := hV 7 (by decide)
            have e8 : x 8 = (.int .i64 (P)) := hV 8 (by decide)
            obtain ⟨A9, c9, X9, e9, l9, u9, h9⟩ := hV 9 (by decide)
            have e10 : x 10 = (.pointer (some ⟨g, 0, none⟩)) := hV 10 (by decide)
            have e11 : x 11 = (.int .i64 (n)) := hV 11 (by decide)
            have e12 : x 12 = (.pointer (some ⟨w2.heap.size, 0, none⟩)) := hV 12 (by decide)
            have e13 : x 13 = (.int .i64 (P)) := hV 13 (by decide)
            obtain ⟨A14, c14, X14, e14, l14, u14, h14⟩ := hV 14 (by decide)
            obtain ⟨q0, q1⟩ := hS.1.two
            go_simp
            exact hK.out _ _ _ rfl rfl ⟨_, _, _, rfl, l14, u14, h14⟩ (Below.refl _ _)
          simp only [List.setIfInBounds_toArray, List.set_cons_zero, List.set_cons_succ]
          refine fun w' hS hV => ?_
          have e0 : x 0 = (.pointer (some ⟨g, 0, none⟩)) := hV 0 (by decide)
          have e1 : x 1 = (.int .i64 (n)) := hV 1 (by decide)
          have e2 : x 2 = (.pointer (some ⟨w2.heap.size, 0, none⟩)) := hV 2 (by decide)
          have e3 : x 3 = (.int .i64 (P)) := hV 3 (by decide)
          obtain ⟨A4, c4, X4, e4, l4, u4, h4⟩ := hV 4 (by decide)
          have e5 : x 5 = (.pointer (some ⟨g, 0, none⟩)) := hV 5 (by decide)
          have e6 : x 6 = (.int .i64 (n)) := hV 6 (by decide)
          have e7 : x 7 = (.pointer (some ⟨w2.heap.size, 0, none⟩)) := hV 7 (by decide)
          have e8 : x 8 = (.int .i64 (P)) := hV 8 (by decide)
          obtain ⟨A9, c9, X9, e9, l9, u9, h9⟩ := hV 9 (by decide)
          have e10 : x 10 = (.pointer (some ⟨g, 0, none⟩)) := hV 10 (by decide)
          have e11 : x 11 = (.int .i64 (n)) := hV 11 (by decide)
          have e12 : x 12 = (.pointer (some ⟨w2.heap.size, 0, none⟩)) := hV 12 (by decide)
          have e13 : x 13 = (.int .i64 (P)) := hV 13 (by decide)
          obtain ⟨A14, c14, X14, e14, l14, u14, h14⟩ := hV 14 (by decide)
          obtain ⟨A15, c15, X15, e15, l15, u15, h15⟩ := hV 15 (by decide)
          obtain ⟨A16, c16, X16, e16, l16, u16, h16⟩ := hV 16 (by decide)
          obtain ⟨A17, c17, X17, e17, l17, u17, h17⟩ := hV 17 (by decide)
          simp only [e0, e1, e2, e3, e4, e5, e6, e7, e8, e9, e10, e11, e12, e13, e14, e15, e16, e17]
          clear e0 e1 e2 e3 e4 e5 e6 e7 e8 e9 e10 e11 e12 e13 e14 e15 e16 e17
          refine wpAny_done (by kernel_rfl) ?_ _
          obtain ⟨w21, rfl⟩ : ∃ W, W = w' := ⟨_, rfl⟩
          have hd10 := hS.2
          clear hS q0 q1 kk
          have hb7 := hb9.trans (hd10.b.mono hg)
          replace hW := hW.trans (hb7.mono hW.size)
          have r_u := h15.rd
          have i_u := h15.cap
          obtain ⟨UU, hUU⟩ : ∃ V, V = X15 := ⟨_, rfl⟩
          rw [← hUU] at l15 u15 r_u
          have HUU := Lib.hid (And.intro l15 u15)
          obtain ⟨AUU, hAUU⟩ : ∃ V, V = A15 := ⟨_, rfl⟩
          obtain ⟨cUU, hcUU⟩ : ∃ V, V = c15 := ⟨_, rfl⟩
          rw [← hAUU] at r_u ⊢
          rw [← hcUU] at i_u ⊢
          clear hUU hAUU hcUU l15 u15 h15
          have r_v := h16.rd
          have i_v := h16.cap
          obtain ⟨VU, hVU⟩ : ∃ V, V = X16 := ⟨_, rfl⟩
          rw [← hVU] at l16 u16 r_v
          have HVU := Lib.hid (And.intro l16 u16)
          obtain ⟨AVU, hAVU⟩ : ∃ V, V = A16 := ⟨_, rfl⟩
          obtain ⟨cVU, hcVU⟩ : ∃ V, V = c16 := ⟨_, rfl⟩
          rw [← hAVU] at r_v ⊢
          rw [← hcVU] at i_v ⊢
          clear hVU hAVU hcVU l16 u16 h16
          have r_w := h17.rd
          have i_w := h17.cap
          obtain ⟨WU, hWU⟩ : ∃ V, V = X17 := ⟨_, rfl⟩
          rw [← hWU] at l17 u17 r_w
          have HWU := Lib.hid (And.intro l17 u17)
          obtain ⟨AWU, hAWU⟩ : ∃ V, V = A17 := ⟨_, rfl⟩
          obtain ⟨cWU, hcWU⟩ : ∃ V, V = c17 := ⟨_, rfl⟩
          rw [← hAWU] at r_w ⊢
          rw [← hcWU] at i_w ⊢
          clear hWU hAWU hcWU l17 u17 h17
          clear hb7 hb9 hd10 hs9 hg hd9
          obtain ⟨HT1, HT2, HT3, HT4⟩ := HTW.out UU VU WU HUU.out.1 HUU.out.2 HVU.out.1 HVU.out.2 HWU.out.1 HWU.out.2
          have HT1 := Lib.hid HT1
          have HT2 := Lib.hid HT2
          have HT3 := Lib.hid HT3
          have HT4 := Lib.hid HT4
          have kk := k3.below hW k3.lt
          obtain ⟨q0, q1⟩ := kk.two
          clear kk
          have hcall := BivectorOfVectors_ok P A n c sq AVU cVU VU AWU cWU WU w21 hsp hreg (o3.below hW) r_v i_v HVU.out.2 r_w i_w HWU.out.2
          go_wp2_with fail
          refine hcall.mono ?_
          rintro e w22 ⟨Ap, cp, rfl, hM⟩
          replace r_u := r_u.below hM.b
          replace r_v := r_v.below hM.b
          replace r_w := r_w.below hM.b
          have r_p := hM.rd
          have i_p := hM.2.cap
          replace hW := hW.trans (hM.b.mono hW.size)
          clear hM
          clear hcall q0 q1
          obtain ⟨PL, hPL⟩ : ∃ a, a = wedgeL P sq (vecTo n VU n) (vecTo n WU n) := ⟨_, rfl⟩
          obtain ⟨TU, hTU⟩ : ∃ a, a = turnL P sq n PL UU := ⟨_, rfl⟩
          rw [← hPL] at r_p HT1 HT2 HT3
          rw [← hTU] at HT1 HT2 HT3
          clear hPL hTU
          have kk := k3.below hW k3.lt
          obtain ⟨q0, q1⟩ := kk.two
          clear kk
          have hcall := TurnV_ok P A n c sq Ap (pw n) cp PL AUU n cUU UU w22 (by omega) (by omega) (by omega) (o3.below hW) r_p i_p r_u i_u TU n HT1.out HT2.out
          go_wp2_with fail
          refine hcall.mono ?_
          rintro e w23 ⟨At, ct, rfl, hM⟩
          replace r_u := r_u.below hM.b
          replace r_v := r_v.below hM.b
          replace r_w := r_w.below hM.b
          replace r_p := r_p.below hM.b
          have r_t := hM.rd
          replace hW := hW.trans (hM.b.mono hW.size)
          clear hM
          clear hcall q0 q1
          have kk := k3.below hW k3.lt
          obtain ⟨q0, q1⟩ := kk.two
          clear kk
          have hcall := PairOf_ok P A n c sq AWU cWU WU AUU cUU UU w23 hsp (o3.below hW) r_w i_w HWU.out.2 r_u i_u HUU.out.2
          go_wp2_with fail
          refine hcall.mono ?_
          rintro e w24 ⟨rfl, hb7⟩
          replace r_u := r_u.below hb7
          replace r_v := r_v.below hb7
          replace r_w := r_w.below hb7
          replace r_p := r_p.below hb7
          replace r_t := r_t.below hb7
          replace hW := hW.trans (hb7.mono hW.size)
          clear hcall q0 q1
          have kk := k3.below hW k3.lt
          obtain ⟨q0, q1⟩ := kk.two
          clear kk
          have hcall := PairOf_ok P A n c sq AVU cVU VU AUU cUU UU w24 hsp (o3.below hW) r_v i_v HVU.out.2 r_u i_u HUU.out.2
          go_wp2_with fail
          refine hcall.mono ?_
          rintro e w25 ⟨rfl, hb7⟩
          replace r_u := r_u.below hb7
          replace r_v := r_v.below hb7
          replace r_w := r_w.below hb7
          replace r_p := r_p.below hb7
          replace r_t := r_t.below hb7
          replace hW := hW.trans (hb7.mono hW.size)
          clear hcall q0 q1
          have kk := k3.below hW k3.lt
          obtain ⟨q0, q1⟩ := kk.two
          clear kk
          have hcall := CountBivectors_ok P A n c sq w25 hsp hreg (o3.below hW)
          go_wp2_with fail
          refine hcall.mono ?_
          rintro e w26 ⟨rfl, hb7⟩
          replace r_u := r_u.below hb7
          replace r_v := r_v.below hb7
          replace r_w := r_w.below hb7
          replace r_p := r_p.below hb7
          replace r_t := r_t.below hb7
          replace hW := hW.trans (hb7.mono hW.size)
          clear hcall q0 q1
          obtain ⟨pp, hpp⟩ : ∃ a, a = pairL P sq WU UU := ⟨_, rfl⟩
          obtain ⟨qq, hqq⟩ : ∃ a, a = pairL P sq VU UU := ⟨_, rfl⟩
          have hs1 := pairL_small (P := P) (by omega) sq WU UU
          have hs2 := pairL_small (P := P) (by omega) sq VU UU
          rw [← hpp] at hs1 HT3 ⊢
          rw [← hqq] at hs2 HT3 ⊢
          clear hpp hqq
          have kk := k3.below hW k3.lt
          obtain ⟨q0, q1⟩ := kk.two
          obtain ⟨ZZ, hZZ⟩ : ∃ a, a = List.replicate n (0 : Int) := ⟨_, rfl⟩
          obtain ⟨D1, hD1⟩ : ∃ a, a = plusL P ZZ VU pp := ⟨_, rfl⟩
          have hP1 := fun (w' : World) (A9 : Option Addr) (c9 : Nat) (h : Below w26.heap.size w26 w') (h9 : Rd w' A9 n (ints ZZ)) => plus5_any P A9 n c9 AVU cVU pp ZZ VU w' (by omega) hp2 (by omega) h9 (by rw [hZZ]; exact NumsL.replicate (by omega) n) (r_v.below h) HVU.out.2 (by omega) (by omega)
          have hP2 := fun (w' : World) (A9 : Option Addr) (c9 : Nat) (h : Below w26.heap.size w26 w') (h9 : Rd w' A9 n (ints D1)) => plus5_any P A9 n c9 AWU cWU (-qq) D1 WU w' (by omega) hp2 (by omega) h9 (by rw [hD1]; exact plusL_nums (by omega) _ _ _) (r_w.below h) HWU.out.2 (by omega) (by omega)
          have hTT := HT3.out
          rw [← hZZ, ← hD1] at hTT
          rw [← hD1] at hP1
          rw [← hTT] at hP2
          have HP1 := Lib.hid hP1
          have HP2 := Lib.hid hP2
          have HZZ := Lib.hid hZZ
          have W9 := i64_fit (-qq) (by omega) (by omega)
          clear hP1 hP2 hZZ hD1 hTT
          go_wp2
          refine wp_obs 14 [[], [0], [], [2], [], [4], [], [], [2, 3, 4, 5, 6, 7], [], [], [10], [0, 1, 2, 3, 4, 5, 6, 7, 8, 9, 10, 11], [0, 1, 2, 3, 4, 5, 6, 7, 8, 9, 10, 11, 12]] [VIs (.pointer (some ⟨w2.heap.size, 0, none⟩)), VIs (.int .i64 (P)), VIs (.pointer (some ⟨w2.heap.size, 0, none⟩)), VIs (.int .i64 (P)), VIs (.int .i64 (n)), VSl w26 n ZZ, VIs (.slice AVU n cVU), VIs (.int .i64 (pp)), VSl w26 n D1, VIs (.slice AWU n cWU), VIs (.int .i64 (qq)), VIs (.int .i64 (-qq)), VSl w26 n TU, VSl w26 n TU] (fun w' => Blk w' w2.heap.size 26 #[.int .i64 P, .slice A n c] ∧ Below w26.heap.size w26 w') (by kernel_rfl) (by kernel_rfl) (fun _ _ h hb => ⟨h.1.below hb h.1.lt, h.2.trans (hb.mono h.2.size)⟩) (⟨kk.drew, (Below.refl _ _).drew⟩) (fun x => ?_)
          refine obs_step (Eq.trans (by simp only [List.getElem?_toArray, List.getElem?_cons_zero]; exact rfl) rfl) rfl (fun w' hS hV K hK => ?_) ?_
          · obtain ⟨q0, q1⟩ := hS.1.two
            go_simp
            exact hK.out _ _ _ rfl rfl rfl (Below.refl _ _)
          simp only [List.setIfInBounds_toArray, List.set_cons_zero, List.set_cons_succ]
          refine obs_step (Eq.trans (by simp only [List.getElem?_toArray, List.getElem?_cons_succ, List.getElem?_cons_zero]; exact rfl) rfl) rfl (fun w' hS hV K hK => ?_) ?_
          · have e0 : x 0 = (.pointer (some ⟨w2.heap.size, 0, none⟩)) := hV 0 (by decide)
            obtain ⟨q0, q1⟩ := hS.1.two
            go_simp
            exact hK.out _ _ _ rfl rfl rfl (Below.refl _ _)
          simp only [List.setIfInBounds_toArray, List.set_cons_zero, List.set_cons_succ]
          refine obs_step (Eq.trans (by simp only [List.getElem?_toArray, List.getElem?_cons_succ, List.getElem?_cons_zero]; exact rfl) rfl) rfl (fun w' hS hV K hK => ?_) ?_
          · obtain ⟨q0, q1⟩ := hS.1.two
            go_simp
            exact hK.out _ _ _ rfl rfl rfl (Below.refl _ _)
          simp only [List.setIfInBounds_toArray, List.set_cons_zero, List.set_cons_succ]
          refine obs_step (Eq.trans (by simp only [List.getElem?_toArray, List.getElem?_cons_succ, List.getElem?_cons_zero]; exact rfl) rfl) rfl (fun w' hS hV K hK => ?_) ?_
          · have e2 : x 2 = (.pointer (some ⟨w2.heap.size, 0, none⟩)) := hV 2 (by decide)
            obtain ⟨q0, q1⟩ := hS.1.two
            go_simp
            exact hK.out _ _ _ rfl rfl rfl (Below.refl _ _)
          simp only [List.setIfInBounds_toArray, List.set_cons_zero, List.set_cons_succ]
          refine obs_step (Eq.trans (by simp only [List.getElem?_toArray, List.getElem?_cons_succ, List.getElem?_cons_zero]; exact rfl) rfl) rfl (fun w' hS hV K hK => ?_) ?_
          · obtain ⟨q0, q1⟩ := hS.1.two
            go_simp
            exact hK.out _ _ _ rfl rfl rfl (Below.refl _ _)
          simp only [List.setIfInBounds_toArray, List.set_cons_zero, List.set_cons_succ]
          refine obs_step (Eq.trans (by simp only [List.getElem?_toArray, List.getElem?_cons_succ, List.getElem?_cons_zero]; exact rfl) rfl) rfl (fun w' hS hV K hK => ?_) ?_
          · have e4 : x 4 = (.int .i64 (n)) := hV 4 (by decide)
            obtain ⟨q0, q1⟩ := hS.1.two
            have hmk := make_i (P := Tryz.prog) 24 2 Tryz.underlying24 info_i n (by omega)
            have hM := Mk.made (E := 2) (n := n) (z := .int .i64 0) (Below.refl w'.heap.size w') (by simp only [maxLen]; omega)
            rw [ints_replicate] at hM
            have HM9 := Lib.hid hM
            clear hM
            go_simp
            exact hK.out _ _ _ rfl rfl ⟨_, _, rfl, by rw [HZZ.out]; exact HM9.out.after hS.2⟩ HM9.out.b
          simp only [List.setIfInBounds_toArray, List.set_cons_zero, List.set_cons_succ]
          refine obs_step (Eq.trans (by simp only [List.getElem?_toArray, List.getElem?_cons_succ, List.getElem?_cons_zero]; exact rfl) rfl) rfl (fun w' hS hV K hK => ?_) ?_
          · obtain ⟨q0, q1⟩ := hS.1.two
            go_simp
            exact hK.out _ _ _ rfl rfl rfl (Below.refl _ _)
          simp only [List.setIfInBounds_toArray, List.set_cons_zero, List.set_cons_succ]
          refine obs_step (Eq.trans (by simp only [List.getElem?_toArray, List.getElem?_cons_succ, List.getElem?_cons_zero]; exact rfl) rfl) rfl (fun w' hS hV K hK => ?_) ?_
          · obtain ⟨q0, q1⟩ := hS.1.two
            go_simp
            exact hK.out _ _ _ rfl rfl rfl (Below.refl _ _)
          simp only [List.setIfInBounds_toArray, List.set_cons_zero, List.set_cons_succ]
          refine obs_step (Eq.trans (by simp only [List.getElem?_toArray, List.getElem?_cons_succ, List.getElem?_cons_zero]; exact rfl) rfl) rfl (fun w' hS hV K hK => ?_) ?_
          · have e2 : x 2 = (.pointer (some ⟨w2.heap.size, 0, none⟩)) := hV 2 (by decide)
            have e3 : x 3 = (.int .i64 (P)) := hV 3 (by decide)
            have e4 : x 4 = (.int .i64 (n)) := hV 4 (by decide)
            obtain ⟨A5, c5, e5, h5⟩ := hV 5 (by decide)
            have e6 : x 6 = (.slice AVU n cVU) := hV 6 (by decide)
            have e7 : x 7 = (.int .i64 (pp)) := hV 7 (by decide)
            obtain ⟨q0, q1⟩ := hS.1.two
            go_simp
            refine (HP1.out _ _ _ hS.2 h5.rd).mono ?_
            rintro e v1 ⟨A9, c9, rfl, hM⟩
            exact hK.out _ _ _ rfl rfl ⟨_, _, rfl, hM.after hS.2⟩ hM.b
          simp only [List.setIfInBounds_toArray, List.set_cons_zero, List.set_cons_succ]
          refine obs_step (Eq.trans (by simp only [List.getElem?_toArray, List.getElem?_cons_succ, List.getElem?_cons_zero]; exact rfl) rfl) rfl (fun w' hS hV K hK => ?_) ?_
          · obtain ⟨q0, q1⟩ := hS.1.two
            go_simp
            exact hK.out _ _ _ rfl rfl rfl (Below.refl _ _)
          simp only [List.setIfInBounds_toArray, List.set_cons_zero, List.set_cons_succ]
          refine obs_step (Eq.trans (by simp only [List.getElem?_toArray, List.getElem?_cons_succ, List.getElem?_cons_zero]; exact rfl) rfl) rfl (fun w' hS hV K hK => ?_) ?_
          · obtain ⟨q0, q1⟩ := hS.1.two
            go_simp
            exact hK.out _ _ _ rfl rfl rfl (Below.refl _ _)
          simp only [List.setIfInBounds_toArray, List.set_cons_zero, List.set_cons_succ]
          refine obs_step (Eq.trans (by simp only [List.getElem?_toArray, List.getElem?_cons_succ, List.getElem?_cons_zero]; exact rfl) rfl) rfl (fun w' hS hV K hK => ?_) ?_
          · have e10 : x 10 = (.int .i64 (qq)) := hV 10 (by decide)
            obtain ⟨q0, q1⟩ := hS.1.two
            go_simp
            exact hK.out _ _ _ rfl rfl rfl (Below.refl _ _)
          simp only [List.setIfInBounds_toArray, List.set_cons_zero, List.set_cons_succ]
          refine obs_step (Eq.trans (by simp only [List.getElem?_toArray, List.getElem?_cons_succ, List.getElem?_cons_zero]; exact rfl) rfl) rfl (fun w' hS hV K hK => ?_) ?_
          · have e0 : x 0 = (.pointer (some ⟨w2.heap.size, 0, none⟩)) := hV 0 (by decide)
            have e1 : x 1 = (.int .i64 (P)) := hV 1 (by decide)
            have e2 : x 2 = (.pointer (some ⟨w2.heap.size, 0, none⟩)) := hV 2 (by decide)
            have e3 : x 3 = (.int .i64 (P)) := hV 3 (by decide)
            have e4 : x 4 = (.int .i64 (n)) := hV 4 (by decide)
            obtain ⟨A5, c5, e5, h5⟩ := hV 5 (by decide)
            have e6 : x 6 = (.slice AVU n cVU) := hV 6 (by decide)
            have e7 : x 7 = (.int .i64 (pp)) := hV 7 (by decide)
            obtain ⟨A8, c8, e8, h8⟩ := hV 8 (by decide)
            have e9 : x 9 = (.slice AWU n cWU) := hV 9 (by decide)
            have e10 : x 10 = (.int .i64 (qq)) := hV 10 (by decide)
            have e11 : x 11 = (.int .i64 (-qq)) := hV 11 (by decide)
            obtain ⟨q0, q1⟩ := hS.1.two
            go_simp
            refine (HP2.out _ _ _ hS.2 h8.rd).mono ?_
            rintro e v1 ⟨A9, c9, rfl, hM⟩
            exact hK.out _ _ _ rfl rfl ⟨_, _, rfl, hM.after hS.2⟩ hM.b
          simp only [List.setIfInBounds_toArray, List.set_cons_zero, List.set_cons_succ]
          refine obs_step (Eq.trans (by simp only [List.getElem?_toArray, List.getElem?_cons_succ, List.getElem?_cons_zero]; exact rfl) rfl) rfl (fun w' hS hV K hK => ?_) ?_
          · have e0 : x 0 = (.pointer (some ⟨w2.heap.size, 0, none⟩)) := hV 0 (by decide)
            have e1 : x 1 = (.int .i64 (P)) := hV 1 (by decide)
            have e2 : x 2 = (.pointer (some ⟨w2.heap.size, 0, none⟩)) := hV 2 (by decide)
            have e3 : x 3 = (.int .i64 (P)) := hV 3 (by decide)
            have e4 : x 4 = (.int .i64 (n)) := hV 4 (by decide)
            obtain ⟨A5, c5, e5, h5⟩ := hV 5 (by decide)
            have e6 : x 6 = (.slice AVU n cVU) := hV 6 (by decide)
            have e7 : x 7 = (.int .i64 (pp)) := hV 7 (by decide)
            obtain ⟨A8, c8, e8, h8⟩ := hV 8 (by decide)
            have e9 : x 9 = (.slice AWU n cWU) := hV 9 (by decide)
            have e10 : x 10 = (.int .i64 (qq)) := hV 10 (by decide)
            have e11 : x 11 = (.int .i64 (-qq)) := hV 11 (by decide)
            obtain ⟨A12, c12, e12, h12⟩ := hV 12 (by decide)
            obtain ⟨q0, q1⟩ := hS.1.two
            go_simp
            exact hK.out _ _ _ rfl rfl ⟨_, _, rfl, h12⟩ (Below.refl _ _)
          simp only [List.setIfInBounds_toArray, List.set_cons_zero, List.set_cons_succ]
          refine fun w' hS hV => ?_
          have e0 : x 0 = (.pointer (some ⟨w2.heap.size, 0, none⟩)) := hV 0 (by decide)
          have e1 : x 1 = (.int .i64 (P)) := hV 1 (by decide)
          have e2 : x 2 = (.pointer (some ⟨w2.heap.size, 0, none⟩)) := hV 2 (by decide)
          have e3 : x 3 = (.int .i64 (P)) := hV 3 (by decide)
          have e4 : x 4 = (.int .i64 (n)) := hV 4 (by decide)
          obtain ⟨A5, c5, e5, h5⟩ := hV 5 (by decide)
          have e6 : x 6 = (.slice AVU n cVU) := hV 6 (by decide)
          have e7 : x 7 = (.int .i64 (pp)) := hV 7 (by decide)
          obtain ⟨A8, c8, e8, h8⟩ := hV 8 (by decide)
          have e9 : x 9 = (.slice AWU n cWU) := hV 9 (by decide)
          have e10 : x 10 = (.int .i64 (qq)) := hV 10 (by decide)
          have e11 : x 11 = (.int .i64 (-qq)) := hV 11 (by decide)
          obtain ⟨A12, c12, e12, h12⟩ := hV 12 (by decide)
          obtain ⟨A13, c13, e13, h13⟩ := hV 13 (by decide)
          simp only [e0, e1, e2, e3, e4, e5, e6, e7, e8, e9, e10, e11, e12, e13]
          clear e0 e1 e2 e3 e4 e5 e6 e7 e8 e9 e10 e11 e12 e13
          refine wpAny_done (by kernel_rfl) ?_ _
          obtain ⟨w27, rfl⟩ : ∃ W, W = w' := ⟨_, rfl⟩
          have hb7 := hS.2
          clear hS kk q0 q1 HP1 HP2 W9
          clear r_u r_v r_w r_p
          replace r_t := r_t.below hb7
          replace hW := hW.trans (hb7.mono hW.size)
          have r_d := h13.rd
          clear h13 hb7
          have hcall := likeInts_any At A13 n n ct c13 TU TU w27 (by omega) (by omega) r_t r_d
          rw [decide_eq_true rfl] at hcall
          clear r_t r_d HT1 HT2 HT3 HT4
          have HBW := Lib.hid (hB3.trans (hW.mono hB3.size))
          unfold cbN
          have hn6 : n = 1 ∨ n = 2 ∨ n = 3 ∨ n = 4 ∨ n = 5 ∨ n = 6 := by omega
          clear HKF HTR HMA HMB HMC HAB HBA HSK HXN HZN HTW HP hW
          rcases hn6 with rfl | rfl | rfl | rfl | rfl | rfl
          all_goals
            go_wp2_with fail
            refine hcall.mono ?_
            rintro e w28 ⟨rfl, j4, rfl⟩
            go_wp2
            go_ret
            exact ⟨rfl, below_drewN HBW.out j4⟩
    · have e1 : ((bbrR P sq xs ys).2 != 0) = true := by rw [bbrR_bad hc]; simp [hc]
      clear r_x r_y r_z
      go_wp2
      go_ret
      exact ⟨rfl, hB8⟩
end Go.Proofs.YtggigolkncckoaaGreat
