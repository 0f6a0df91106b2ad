/-
  LawFnLeftIdeals: part 7 of the texts that the proof needs. No condition.
-/
import Derived.Test.YtmkjdpnoloofjaaGreatV6
namespace Go.Proofs.YtmkjdpnoloofjaaGreat
open Go.RowKit
set_option maxHeartbeats 400000 in
set_option maxRecDepth 8000 in
theorem likeInts_any (A B : Option Addr) (n m c d : Nat) (xs ys : List Int) (w : World) (hn : n ≤ 1099511627776) (hm : m ≤ 1099511627776)
    (ha : Rd w A n (ints xs)) (hb : Rd w B m (ints ys)) :
    Calls Tryz.prog 16 #[.slice A n c, .slice B m d] w fun e w' => e = .returned (.bool (decide (xs = ys))) ∧ ∃ j, w' = w.drewN j := by
 have hxl : xs.length = n := by have := ha.1; rwa [ints_length] at this
 have hyl : ys.length = m := by have := hb.1; rwa [ints_length] at this
 by_cases hnm : n = m
 · subst hnm
   have Hx := Lib.hid hxl; clear hxl
   have Hy := Lib.hid hyl; clear hyl
   go_enter Tryz.func16, Tryz.ntmps16
   go_wp2
   go_loopw [5] (fun i wr => ∃ k j : Nat, k ≤ n ∧ i = .int .i64 k ∧ xs.take k = ys.take k ∧ wr = w.drewN j) (fun i _ => n - (intOf i).toNat)
   case atStart => exact ⟨0, 0, by omega, rfl, by simp, rfl⟩
   case round =>
    obtain ⟨k, j, hk, rfl, hxy, rfl⟩ := hrel
    have H := Lib.hid hxy; clear hxy
    by_cases hlt : k < n
    · obtain ⟨g, o, rfl, hx, hcx⟩ := ha.int hlt
      obtain ⟨g', o', rfl, hy, hcy⟩ := hb.int hlt
      clear ha hb
      go_wp2
      go_quiet (fail)
      go_wp2
      · go_ret
        exact ⟨ret_bool (ne_of_get xs ys k hx hy (by assumption)).symm, _, World.drewN_drewN _ _ _⟩
      · go_roundw
        case rel => exact ⟨k + 1, _, by omega, by go_num, take_succ_eq xs ys k hx hy H.out (by simpa using (by assumption : (xs[k] != ys[k]) = false)), rfl⟩
        case measure => simp [intOf]; omega
    · go_wp2
      go_ret
      refine ⟨ret_bool ?_, _, rfl⟩
      have := H.out
      rw [List.take_of_length_le (by rw [Hx.out]; omega), List.take_of_length_le (by rw [Hy.out]; omega)] at this
      rw [this]; simp
 · have hne : decide (xs = ys) = false := by
    rw [decide_eq_false_iff_not]; rintro rfl; omega
   have Hne := Lib.hid hne; clear hne hxl hyl
   have hb0 : ((n : Int) != (m : Int)) = true := by rw [bne_iff_ne]; omega
   go_enter Tryz.func16, Tryz.ntmps16
   go_wp2
   go_ret
   exact ⟨ret_bool Hne.out.symm, 0, rfl⟩
set_option maxHeartbeats 800000 in
set_option maxRecDepth 8000 in
theorem zero5_any (A : Option Addr) (n c : Nat) (xs : List Int) (w : World) (hn : n ≤ 1099511627776) (ha : Rd w A n (ints xs)) :
    Calls Tryz.prog 57 #[.slice A n c] w fun e w' => e = .returned (.bool (decide (∀ y ∈ xs, y = 0))) ∧ w' = w := by
 have hxl : xs.length = n := by have := ha.1; rwa [ints_length] at this
 have Hx := Lib.hid hxl; clear hxl
 go_enter Tryz.func57, Tryz.ntmps57
 go_wp2
 go_loopw [3] (fun i wr => ∃ k : Nat, k ≤ n ∧ i = .int .i64 k ∧ (∀ y ∈ xs.take k, y = 0) ∧ wr = w) (fun i _ => n - (intOf i).toNat)
 case atStart => exact ⟨0, by omega, rfl, by simp, rfl⟩
 case round =>
  obtain ⟨k, hk, rfl, hxy, rfl⟩ := hrel
  have H := Lib.hid hxy; clear hxy
  by_cases hlt : k < n
  · obtain ⟨g, o, rfl, hx, hcx⟩ := ha.int hlt
    have HM : Hid (xs[k] ∈ xs) := Lib.hid (List.getElem_mem hx)
    have HT : Hid (xs.take (k + 1) = xs.take k ++ [xs[k]]) := Lib.hid (List.take_succ_eq_append_getElem hx)
    obtain ⟨u, hu⟩ : ∃ u, u = xs[k] := ⟨_, rfl⟩
    rw [← hu] at hcx HM HT
    clear hu
    by_cases hz : u = 0
    · have b0 : (u != 0) = false := by simp [hz]
      go_wp2
      go_roundw
      case rel => exact ⟨k + 1, by omega, by go_num, fun y hy => by
       rw [HT.out] at hy
       rcases List.mem_append.1 hy with hy | hy
       · exact H.out y hy
       · rw [List.mem_singleton.1 hy]; exact hz, by trivial⟩
      case measure => simp [intOf]; omega
    · have b0 : (u != 0) = true := by simp [hz]
      go_wp2
      go_ret
      exact ⟨ret_bool (by rw [eq_comm, decide_eq_false_iff_not]; exact fun h => hz (h u HM.out)), rfl⟩
  · go_wp2
    go_ret
    have := H.out
    rw [List.take_of_length_le (by rw [Hx.out]; omega)] at this
    refine ⟨ret_bool ?_, rfl⟩
    rw [eq_comm, decide_eq_true_eq]; exact this
set_option maxHeartbeats 3200000 in
set_option maxRecDepth 8000 in
theorem StructureOf_any (P : Int) (A : Option Addr) (n c : Nat) (sq : List Int) (w : World) (hn : n ≤ 1048576) (ha : Rd w A n (ints sq)) :
    Calls Tryz.prog 48 #[.agg #[.int .i64 P, .slice A n c]] w fun e w' => e = .returned (tup4 (strR P sq)) ∧ Below w.heap.size w w' := by
 have hB0 : Below w.heap.size w (w.alloc (.cells #[.int .i64 P, .slice A n c] 26)) := zG.alloc (Nat.le_refl _) _
 have k0 : Blk (w.alloc (.cells #[.int .i64 P, .slice A n c] 26)) w.heap.size 26 #[.int .i64 P, .slice A n c] := Blk.new _ _ _
 have hreg := checkAlgebra_any P A none n c 0 0 sq [] (w.alloc (.cells #[.int .i64 P, .slice A n c] 26)) hn (by omega) (ha.below hB0) ⟨[], Rd.nil _ _, rfl, fun k h => absurd h (by simp)⟩ (by simp)
 by_cases hr0 : codeA P sq [] = 0
 · rw [hr0] at hreg
   obtain ⟨hcM, h4⟩ := codeA_zero hr0
   obtain ⟨HP, hp, hp2, hd1, hd2, hs, -⟩ := codeM_spec3 hcM
   have hsl := ha.lenI
   have hn4 : n ≤ 4 := by omega
   have hn0 : 0 < n := by omega
   obtain ⟨h, hh⟩ : ∃ h, h = n / 2 := ⟨_, rfl⟩
   obtain ⟨e9, he9⟩ : ∃ e, e = n % 2 := ⟨_, rfl⟩
   have hshl : wrap64 (2 ^ h) = ((pw h : Nat) : Int) := wrap_pw h (by omega)
   have hdv : (n : Int).tdiv 2 = (h : Int) := by rw [Int.tdiv_eq_ediv_of_nonneg (by omega)]; omega
   have hmd : (n : Int).tmod 2 = (e9 : Int) := by rw [Int.tmod_eq_emod_of_nonneg (by omega)]; omega
   have hdv2 : (n : Int) / 2 = (h : Int) := by omega
   have hmd2 : (n : Int) % 2 = (e9 : Int) := by omega
   have he2 : e9 < 2 := by omega
   have HS := Lib.hid hs
   have HSL := Lib.hid hsl
   have HR0 := Lib.hid hr0
   obtain ⟨fs, hfs⟩ : ∃ f, f = fsqL P sq n := ⟨_, rfl⟩
   have HFS : Hid (fsqL P sq n = fs) := Lib.hid hfs.symm
   obtain ⟨sb, hsb⟩ : ∃ b, b = (rootF P fs P.toNat 0).isSome := ⟨_, rfl⟩
   have HSB : Hid ((rootF P fs P.toNat 0).isSome = sb) := Lib.hid hsb.symm
   have HSV : Hid (strV P sq n = if e9 = 0 then (1, ((pw h : Nat) : Int), 1) else if sb = true then (2, ((pw h : Nat) : Int), 1) else (1, ((pw h : Nat) : Int), 2)) := Lib.hid (by unfold strV; rw [HFS.out, ← hsb, ← hh, ← he9])
   clear hs hfs hsb hsl hr0 hd1 hd2 h4 hcM hh he9
   cases hrg : regB sq
   · have HRG := Lib.hid hrg
     clear hrg
     go_enter Tryz.func48, Tryz.ntmps48
     go_wp2_with fail
     refine hreg.mono ?_
     rintro e w2 ⟨rfl, hb2⟩
     have hB2 := hB0.trans (hb2.mono hB0.size)
     have k2 := k0.below hb2 k0.lt
     obtain ⟨q0, q1⟩ := k2.two
     have hrr := regular_any P A n c sq w2 hn (ha.below hB2)
     rw [HRG.out] at hrr
     go_wp2_with fail
     refine hrr.mono ?_
     rintro e w3 ⟨rfl, hb3⟩
     have BB := hB2.trans (hb3.mono hB2.size)
     go_wp2
     exact bodyPost_ret (v := .tuple #[.int .i64 (0), .int .i64 (0), .int .i64 (0), .int .i64 (5)]) (by simp [results, Tryz.results48, go_sem]) rfl ⟨ret_t4 (by rw [strR_irr HR0.out HRG.out]), BB⟩
   · have HRG := Lib.hid hrg
     clear hrg
     have HOK : Hid (strR P sq = (strV P sq n, 0)) := Lib.hid (by rw [strR_ok HR0.out HRG.out, HSL.out])
     go_enter Tryz.func48, Tryz.ntmps48
     go_wp2_with fail
     refine hreg.mono ?_
     rintro e w2 ⟨rfl, hb2⟩
     have hB2 := hB0.trans (hb2.mono hB0.size)
     have k2 := k0.below hb2 k0.lt
     obtain ⟨q0, q1⟩ := k2.two
     have hrr := regular_any P A n c sq w2 hn (ha.below hB2)
     rw [HRG.out] at hrr
     go_wp2_with fail
     refine hrr.mono ?_
     rintro e w3 ⟨rfl, hb3⟩
     have hB3 := hB2.trans (hb3.mono hB2.size)
     have k3 := k2.below hb3 k2.lt
     clear q0 q1 k2 hrr hb3
     obtain ⟨q0, q1⟩ := k3.two
     go_wp2_with fail
     refine (dim_any _ _ _ _ _).mono ?_
     rintro e w4 ⟨rfl, hb4⟩
     have hB4 := hB3.trans (hb4.mono hB3.size)
     have k4 := k3.below hb4 k3.lt
     clear q0 q1 k3 hb4
     obtain ⟨q0, q1⟩ := k4.two
     go_wp2_with fail
     refine (dim_any _ _ _ _ _).mono ?_
     rintro e w5 ⟨rfl, hb5⟩
     have hB5 := hB4.trans (hb5.mono hB4.size)
     have k5 := k4.below hb5 k4.lt
     clear q0 q1 k4 hb5
     obtain ⟨q0, q1⟩ := k5.two
     by_cases he : e9 = 0
     · have e0 : (((e9 : Nat) : Int) == 0) = true := by simp [he]
       have BB := hB5
       go_wp2
       exact bodyPost_ret (v := .tuple #[.int .i64 (1), .int .i64 (((pw h : Nat) : Int)), .int .i64 (1), .int .i64 (0)]) (by simp [results, Tryz.results48, go_sem, hshl]) rfl ⟨ret_t4 (by rw [HOK.out, HSV.out, if_pos he]), BB⟩
     · have e0 : (((e9 : Nat) : Int) == 0) = false := by simp; omega
       go_wp2
       refine wp_obs 6 [[],[0],[],[2],[0,1,2,3],[0,1,2,3,4]] [VIs (.agg #[.int .i64 P, .slice A n c]), VIs (.int .i64 (P)), VIs (.agg #[.int .i64 P, .slice A n c]), VIs (.int .i64 (fs)), VIs (.bool sb), VIs (.bool sb)] (fun w' => Blk w' w.heap.size 26 #[.int .i64 P, .slice A n c] ∧ Below w.heap.size w w') (by kernel_rfl) (by kernel_rfl) (fun _ _ h hb => ⟨h.1.below hb h.1.lt, h.2.trans (hb.mono h.2.size)⟩) (⟨k5.drew, hB5.drew⟩) (fun x => ?_)
       refine zS (fun w' hS hV K hK => ?_) ?_
       · obtain ⟨q0, q1⟩ := hS.1.two; go_simp; exact zO hK
       refine zS (fun w' hS hV K hK => ?_) ?_
       · have e0 := zQ hV 0; obtain ⟨q0, q1⟩ := hS.1.two; go_simp; refine (field_any _ _ _ _ _).mono ?_; rintro e v1 ⟨rfl, hb⟩; exact hK.out _ _ _ rfl rfl rfl hb
       refine zS (fun w' hS hV K hK => ?_) ?_
       · obtain ⟨q0, q1⟩ := hS.1.two; go_simp; exact zO hK
       refine zS (fun w' hS hV K hK => ?_) ?_
       · have e2 := zQ hV 2; obtain ⟨q0, q1⟩ := hS.1.two; go_simp; have hq := fullSquare_any P A n c sq w' hp hp2 hn0 (by omega) (ha.below hS.2) HS.out; rw [HFS.out] at hq; refine hq.mono ?_; rintro e v1 ⟨rfl, hb⟩; exact hK.out _ _ _ rfl rfl rfl hb
       refine zS (fun w' hS hV K hK => ?_) ?_
       · have e1 := zQ hV 1; have e3 := zQ hV 3; obtain ⟨q0, q1⟩ := hS.1.two; go_simp; refine (isSquare_any P fs w' hp hp2).mono ?_; rintro e v1 ⟨rfl, rfl⟩; rw [HSB.out]; exact zO hK
       refine zS (fun w' hS hV K hK => ?_) ?_
       · have e4 := zQ hV 4; obtain ⟨q0, q1⟩ := hS.1.two; go_simp; exact zO hK
       refine fun w' hS hV => ?_
       have e0 := zT hV 0
       have e1 := zT hV 1
       have e2 := zT hV 2
       have e3 := zT hV 3
       have e4 := zT hV 4
       have e5 := zT hV 5
       simp only [e0, e1, e2, e3, e4, e5]
       clear e0 e1 e2 e3 e4 e5
       refine wpAny_done (by kernel_rfl) ?_ _
       have BB := hS.2
       cases sb
       · go_wp2
         exact bodyPost_ret (v := .tuple #[.int .i64 (1), .int .i64 (((pw h : Nat) : Int)), .int .i64 (2), .int .i64 (0)]) (by simp [results, Tryz.results48, go_sem, hshl]) rfl ⟨ret_t4 (by rw [HOK.out, HSV.out, if_neg he]; rfl), BB⟩
       · go_wp2
         exact bodyPost_ret (v := .tuple #[.int .i64 (2), .int .i64 (((pw h : Nat) : Int)), .int .i64 (1), .int .i64 (0)]) (by simp [results, Tryz.results48, go_sem, hshl]) rfl ⟨ret_t4 (by rw [HOK.out, HSV.out, if_neg he]; rfl), BB⟩
 · obtain ⟨r, hr⟩ : ∃ r, r = codeA P sq [] := ⟨_, rfl⟩
   have HR := Lib.hid hr
   have HR0 := Lib.hid hr0
   have b0 : (r != 0) = true := code_ne (by rw [hr]; exact hr0)
   have b1 : (r == 0) = false := by simpa using b0
   rw [← hr] at hreg
   clear hr hr0
   go_enter Tryz.func48, Tryz.ntmps48
   go_wp2_with fail
   refine hreg.mono ?_
   rintro e w2 ⟨rfl, hb2⟩
   have BB := hB0.trans (hb2.mono hB0.size)
   go_wp2
   exact bodyPost_ret (v := .tuple #[.int .i64 (0), .int .i64 (0), .int .i64 (0), .int .i64 (r)]) (by simp [results, Tryz.results48, go_sem]) rfl ⟨ret_t4 (by rw [strR_bad HR0.out, HR.out]), BB⟩
/-- The reduced basis of the left ideal, the basis of the left annihilator. -/
def lidL (P : Int) (sq : List Int) (n : Nat) (xs : List Int) : List (List Int) := basisL P (transL (rmL P sq n xs))
def lanL (P : Int) (sq : List Int) (n : Nat) (xs : List Int) : List (List Int) := kernL P (rmL P sq n xs) (pw n)
def lidR (P : Int) (sq xs : List Int) : List (List Int) × Int := if codeA P sq [xs] = 0 then (lidL P sq sq.length xs, 0) else ([], codeA P sq [xs])
def lanR (P : Int) (sq xs : List Int) : List (List Int) × Int := if codeA P sq [xs] = 0 then (lanL P sq sq.length xs, 0) else ([], codeA P sq [xs])
theorem lidR_ok {P : Int} {sq xs : List Int} (h : codeA P sq [xs] = 0) : lidR P sq xs = (lidL P sq sq.length xs, 0) := by unfold lidR; rw [if_pos h]
theorem lidR_bad {P : Int} {sq xs : List Int} (h : ¬ codeA P sq [xs] = 0) : lidR P sq xs = ([], codeA P sq [xs]) := by unfold lidR; rw [if_neg h]
theorem lanR_ok {P : Int} {sq xs : List Int} (h : codeA P sq [xs] = 0) : lanR P sq xs = (lanL P sq sq.length xs, 0) := by unfold lanR; rw [if_pos h]
theorem lanR_bad {P : Int} {sq xs : List Int} (h : ¬ codeA P sq [xs] = 0) : lanR P sq xs = ([], codeA P sq [xs]) := by unfold lanR; rw [if_neg h]
theorem rm_facts {P : Int} {sq xs : List Int} (hp : 2 ≤ P) (hx : xs.length = pw sq.length) (hxn : NumsL P xs) : Tab P (pw sq.length) (rmL P sq sq.length xs) ∧ (rmL P sq sq.length xs).length = pw sq.length ∧ Tab P (pw sq.length) (transL (rmL P sq sq.length xs)) ∧ (transL (rmL P sq sq.length xs)).length = pw sq.length := by
 obtain ⟨X, hX⟩ : ∃ X : Cl P sq, X.l = xs := ⟨⟨xs, hx, hxn, by omega⟩, rfl⟩
 rw [← hX]
 have h2 := trans_ok (show 0 < P by omega) (rcm_tab hp X) (rcm_len _ _) (pw_pos _)
 have h3 := trans_ok (show 0 < P by omega) h2.1 h2.2 (pw_pos _)
 exact ⟨h2.1, h2.2, h3.1, h3.2⟩
set_option maxHeartbeats 6400000 in
set_option maxRecDepth 8000 in
theorem LeftIdealOf_any (P : Int) (A : Option Addr) (n c : Nat) (sq : List Int) (X : Option Addr) (m cx : Nat) (xs : List Int) (w : World) (hn : n ≤ 1048576) (hm : m ≤ 1048576) (ha : Rd w A n (ints sq)) (hx : Rd w X m (ints xs)) (hcx : m ≤ cx) :
    Calls Tryz.prog 53 #[.agg #[.int .i64 P, .slice A n c], .slice X m cx] w fun e w' => ∃ (A' : Option Addr) (k c' : Nat), e = .returned (.tuple #[.slice A' k c', .int .i64 (lidR P sq xs).2]) ∧ MkII w w' A' k c' (lidR P sq xs).1 := by
 have hB0 : Below w.heap.size w (w.alloc (.cells #[.int .i64 P, .slice A n c] 26)) := zG.alloc (Nat.le_refl _) _
 have k0 : Blk (w.alloc (.cells #[.int .i64 P, .slice A n c] 26)) w.heap.size 26 #[.int .i64 P, .slice A n c] := Blk.new _ _ _
 have hB1 : Below w.heap.size w ((w.alloc (.cells #[.int .i64 P, .slice A n c] 26)).alloc (.cells #[.slice X m cx] 24)) := hB0.alloc (by simp) _
 have k1 : Blk ((w.alloc (.cells #[.int .i64 P, .slice A n c] 26)).alloc (.cells #[.slice X m cx] 24)) w.heap.size 26 #[.int .i64 P, .slice A n c] := k0.alloc _
 have hreg := checkAlgebra_any P A (some ⟨w.heap.size + 1, 0, none⟩) n c 1 1 sq [xs] ((w.alloc (.cells #[.int .i64 P, .slice A n c] 26)).alloc (.cells #[.slice X m cx] 24)) hn (by omega) (ha.below hB1) (rdII_one' (Blk.newAt3 (by simp)) (hx.below hB1) hcx) (all_one (by rw [hx.lenI]; exact hm))
 by_cases hr0 : codeA P sq [xs] = 0
 · rw [hr0] at hreg
   obtain ⟨hcM, h4⟩ := codeA_zero hr0
   obtain ⟨HP, hp, hp2, hd1, hd2, hs, hms⟩ := codeM_spec3 hcM
   obtain ⟨hx1, hxs⟩ := hms xs (by simp)
   have hsl := ha.lenI
   have hmn : m = pw n := by rw [← hx.lenI, hx1, hsl]
   subst hmn
   have hn4 : n ≤ 4 := by omega
   have hn1 : 1 ≤ n := by omega
   have hpw : pw n ≤ 16 := pw_le hn4
   have hpn := pw_pos n
   have HF := rm_facts hp hx1 hxs
   rw [hsl] at HF
   have HT := Lib.hid HF
   obtain ⟨L, hL⟩ : ∃ L, L = lidL P sq n xs := ⟨_, rfl⟩
   have HOK : Hid (lidR P sq xs = (L, 0)) := Lib.hid (by rw [lidR_ok hr0, hsl, hL])
   have HL := Lib.hid hL
   have HS := Lib.hid hs
   have HXS := Lib.hid hxs
   have HPP := Lib.hid HP
   clear hsl hs hxs hx1 hms hd1 hd2 h4 hcM hr0 HF hL HP
   go_enter Tryz.func53, Tryz.ntmps53
   go_wp2_with fail
   refine hreg.mono ?_
   rintro e w2 ⟨rfl, hb2⟩
   have hB2 := hB1.trans (hb2.mono hB1.size)
   have k2 := k1.below hb2 k1.lt
   clear k0 k1 hreg hb2 hB0 hB1
   have HLE : Hid (basisL P (transL (rmL P sq n xs)) = L) := Lib.hid HL.out.symm
   obtain ⟨q0, q1⟩ := k2.two
   go_wp2
   refine wp_obs 9 [[],[0],[],[],[2,3],[2,3,4],[0,1,2,3,4,5],[0,1,2,3,4,5,6],[]] [VIs (.agg #[.int .i64 P, .slice A n c]), VIs (.int .i64 (P)), VIs (.agg #[.int .i64 P, .slice A n c]), VIs (.slice X (pw n) cx), VMat w2 (pw n) (rmL P sq n xs), VMat w2 (pw n) (transL (rmL P sq n xs)), VMat w2 L.length L, VMat w2 L.length L, VIs (.int .i64 0)] (fun w' => Blk w' w.heap.size 26 #[.int .i64 P, .slice A n c] ∧ Below w2.heap.size w2 w') (by kernel_rfl) (by kernel_rfl) (fun _ _ h hb => ⟨h.1.below hb h.1.lt, h.2.trans (hb.mono h.2.size)⟩) (⟨k2.drew, zG.drew⟩) (fun x => ?_)
   refine zS (fun w' hS hV K hK => ?_) ?_
   · obtain ⟨q0, q1⟩ := hS.1.two; go_simp; exact zO hK
   refine zS (fun w' hS hV K hK => ?_) ?_
   · have e0 := zQ hV 0; obtain ⟨q0, q1⟩ := hS.1.two; go_simp; refine (field_any _ _ _ _ _).mono ?_; rintro e v1 ⟨rfl, hb⟩; exact hK.out _ _ _ rfl rfl rfl hb
   refine zS (fun w' hS hV K hK => ?_) ?_
   · obtain ⟨q0, q1⟩ := hS.1.two; go_simp; exact zO hK
   refine zS (fun w' hS hV K hK => ?_) ?_
   · obtain ⟨q0, q1⟩ := hS.1.two; go_simp; exact zO hK
   refine zS (fun w' hS hV K hK => ?_) ?_
   · have e2 := zQ hV 2; have e3 := zQ hV 3; obtain ⟨q0, q1⟩ := hS.1.two; go_simp; refine (rightMatrix_any P A n c sq X cx xs _ hp hp2 (by omega) (ha.below (hB2.trans (hS.2.mono hB2.size))) HS.out (hx.below (hB2.trans (hS.2.mono hB2.size))) HXS.out hcx).mono ?_; rintro e v1 ⟨A2, c2, rfl, hM2⟩; exact hK.out _ _ _ rfl rfl ⟨_, _, rfl, hM2.after hS.2⟩ hM2.b
   refine zS (fun w' hS hV K hK => ?_) ?_
   · obtain ⟨A4, c4, e4, h4⟩ := hV 4 (by decide); obtain ⟨q0, q1⟩ := hS.1.two; go_simp; refine (transpose_any P _ (pw n) _ (rmL P sq n xs) (pw n) _ hpn (by omega) (by omega) h4.rd HT.out.1).mono ?_; rintro e v1 ⟨A2, c2, rfl, hM2⟩; exact hK.out _ _ _ rfl rfl ⟨_, _, rfl, hM2.after hS.2⟩ hM2.b
   refine zS (fun w' hS hV K hK => ?_) ?_
   · have e1 := zQ hV 1; obtain ⟨A4, c4, e4, h4⟩ := hV 4 (by decide); obtain ⟨A5, c5, e5, h5⟩ := hV 5 (by decide); obtain ⟨q0, q1⟩ := hS.1.two; go_simp; have hq := basis_any P A5 (pw n) c5 (transL (rmL P sq n xs)) (pw n) w' HPP.out (by omega) (by omega) h5.rd HT.out.2.2.1; rw [HLE.out] at hq; refine hq.mono ?_; rintro e v1 ⟨A2, c2, rfl, hM2⟩; exact hK.out _ _ _ rfl rfl ⟨_, _, rfl, hM2.after hS.2⟩ hM2.b
   refine zS (fun w' hS hV K hK => ?_) ?_
   · obtain ⟨A4, c4, e4, h4⟩ := hV 4 (by decide); obtain ⟨A5, c5, e5, h5⟩ := hV 5 (by decide); obtain ⟨A6, c6, e6, h6⟩ := hV 6 (by decide); obtain ⟨q0, q1⟩ := hS.1.two; go_simp; exact hK.out _ _ _ rfl rfl ⟨_, _, rfl, h6⟩ zG
   refine zS (fun w' hS hV K hK => ?_) ?_
   · obtain ⟨q0, q1⟩ := hS.1.two; go_simp; exact zO hK
   refine fun w' hS hV => ?_
   have e0 := zT hV 0
   have e1 := zT hV 1
   have e2 := zT hV 2
   have e3 := zT hV 3
   obtain ⟨A4, c4, e4, h4⟩ := hV 4 (by decide)
   obtain ⟨A5, c5, e5, h5⟩ := hV 5 (by decide)
   obtain ⟨A6, c6, e6, h6⟩ := hV 6 (by decide)
   obtain ⟨A7, c7, e7, h7⟩ := hV 7 (by decide)
   have e8 := zT hV 8
   simp only [e0, e1, e2, e3, e4, e5, e6, e7, e8]
   clear e0 e1 e2 e3 e4 e5 e6 e7 e8
   refine wpAny_done (by kernel_rfl) ?_ _
   go_wp2
   go_ret2
   exact aMat3 HOK.out (h7.after hB2)
 · obtain ⟨r, hr⟩ : ∃ r, r = codeA P sq [xs] := ⟨_, rfl⟩
   have HR := Lib.hid hr
   have HR0 := Lib.hid hr0
   have b0 : (r != 0) = true := code_ne (by rw [hr]; exact hr0)
   rw [← hr] at hreg
   clear hr hr0
   go_enter Tryz.func53, Tryz.ntmps53
   go_wp2_with fail
   refine hreg.mono ?_
   rintro e w2 ⟨rfl, hb2⟩
   have hB2 := hB1.trans (hb2.mono hB1.size)
   go_wp2
   go_ret2
   exact noMat3 (by rw [lidR_bad HR0.out, HR.out]) hB2
set_option maxHeartbeats 6400000 in
set_option maxRecDepth 8000 in
theorem LeftAnnihilatorOf_any (P : Int) (A : Option Addr) (n c : Nat) (sq : List Int) (X : Option Addr) (m cx : Nat) (xs : List Int) (w : World) (hn : n ≤ 1048576) (hm : m ≤ 1048576) (ha : Rd w A n (ints sq)) (hx : Rd w X m (ints xs)) (hcx : m ≤ cx) :
    Calls Tryz.prog 55 #[.agg #[.int .i64 P, .slice A n c], .slice X m cx] w fun e w' => ∃ (A' : Option Addr) (k c' : Nat), e = .returned (.tuple #[.slice A' k c', .int .i64 (lanR P sq xs).2]) ∧ MkII w w' A' k c' (lanR P sq xs).1 := by
 have hB0 : Below w.heap.size w (w.alloc (.cells #[.int .i64 P, .slice A n c] 26)) := zG.alloc (Nat.le_refl _) _
 have k0 : Blk (w.alloc (.cells #[.int .i64 P, .slice A n c] 26)) w.heap.size 26 #[.int .i64 P, .slice A n c] := Blk.new _ _ _
 have hB1 : Below w.heap.size w ((w.alloc (.cells #[.int .i64 P, .slice A n c] 26)).alloc (.cells #[.slice X m cx] 24)) := hB0.alloc (by simp) _
 have k1 : Blk ((w.alloc (.cells #[.int .i64 P, .slice A n c] 26)).alloc (.cells #[.slice X m cx] 24)) w.heap.size 26 #[.int .i64 P, .slice A n c] := k0.alloc _
 have hreg := checkAlgebra_any P A (some ⟨w.heap.size + 1, 0, none⟩) n c 1 1 sq [xs] ((w.alloc (.cells #[.int .i64 P, .slice A n c] 26)).alloc (.cells #[.slice X m cx] 24)) hn (by omega) (ha.below hB1) (rdII_one' (Blk.newAt3 (by simp)) (hx.below hB1) hcx) (all_one (by rw [hx.lenI]; exact hm))
 by_cases hr0 : codeA P sq [xs] = 0
 · rw [hr0] at hreg
   obtain ⟨hcM, h4⟩ := codeA_zero hr0
   obtain ⟨HP, hp, hp2, hd1, hd2, hs, hms⟩ := codeM_spec3 hcM
   obtain ⟨hx1, hxs⟩ := hms xs (by simp)
   have hsl := ha.lenI
   have hmn : m = pw n := by rw [← hx.lenI, hx1, hsl]
   subst hmn
   have hn4 : n ≤ 4 := by omega
   have hn1 : 1 ≤ n := by omega
   have hpw : pw n ≤ 16 := pw_le hn4
   have hpn := pw_pos n
   have HF := rm_facts hp hx1 hxs
   rw [hsl] at HF
   have HT := Lib.hid HF
   obtain ⟨L, hL⟩ : ∃ L, L = lanL P sq n xs := ⟨_, rfl⟩
   have HOK : Hid (lanR P sq xs = (L, 0)) := Lib.hid (by rw [lanR_ok hr0, hsl, hL])
   have HL := Lib.hid hL
   have HS := Lib.hid hs
   have HXS := Lib.hid hxs
   have HPP := Lib.hid HP
   clear hsl hs hxs hx1 hms hd1 hd2 h4 hcM hr0 HF hL HP
   go_enter Tryz.func55, Tryz.ntmps55
   go_wp2_with fail
   refine hreg.mono ?_
   rintro e w2 ⟨rfl, hb2⟩
   have hB2 := hB1.trans (hb2.mono hB1.size)
   have k2 := k1.below hb2 k1.lt
   clear k0 k1 hreg hb2 hB0 hB1
   have HLE : Hid (kernL P (rmL P sq n xs) (pw n) = L) := Lib.hid HL.out.symm
   have hshl : IntKind.i64.wrap (2 ^ n) = (pw n : Int) := by rw [IntWalk.i64_left]; exact wrap_pw n (by omega)
   obtain ⟨q0, q1⟩ := k2.two
   go_wp2
   refine wp_obs 11 [[],[0],[],[],[2,3],[],[5],[5,6],[0,1,2,3,4,5,6,7],[0,1,2,3,4,5,6,7,8],[]] [VIs (.agg #[.int .i64 P, .slice A n c]), VIs (.int .i64 (P)), VIs (.agg #[.int .i64 P, .slice A n c]), VIs (.slice X (pw n) cx), VMat w2 (pw n) (rmL P sq n xs), VIs (.agg #[.int .i64 P, .slice A n c]), VIs (.int .i64 (n)), VIs (.int .i64 (pw n)), VMat w2 L.length L, VMat w2 L.length L, VIs (.int .i64 0)] (fun w' => Blk w' w.heap.size 26 #[.int .i64 P, .slice A n c] ∧ Below w2.heap.size w2 w') (by kernel_rfl) (by kernel_rfl) (fun _ _ h hb => ⟨h.1.below hb h.1.lt, h.2.trans (hb.mono h.2.size)⟩) (⟨k2.drew, zG.drew⟩) (fun x => ?_)
   refine zS (fun w' hS hV K hK => ?_) ?_
   · obtain ⟨q0, q1⟩ := hS.1.two; go_simp; exact zO hK
   refine zS (fun w' hS hV K hK => ?_) ?_
   · have e0 := zQ hV 0; obtain ⟨q0, q1⟩ := hS.1.two; go_simp; refine (field_any _ _ _ _ _).mono ?_; rintro e v1 ⟨rfl, hb⟩; exact hK.out _ _ _ rfl rfl rfl hb
   refine zS (fun w' hS hV K hK => ?_) ?_
   · obtain ⟨q0, q1⟩ := hS.1.two; go_simp; exact zO hK
   refine zS (fun w' hS hV K hK => ?_) ?_
   · obtain ⟨q0, q1⟩ := hS.1.two; go_simp; exact zO hK
   refine zS (fun w' hS hV K hK => ?_) ?_
   · have e2 := zQ hV 2; have e3 := zQ hV 3; obtain ⟨q0, q1⟩ := hS.1.two; go_simp; refine (rightMatrix_any P A n c sq X cx xs _ hp hp2 (by omega) (ha.below (hB2.trans (hS.2.mono hB2.size))) HS.out (hx.below (hB2.trans (hS.2.mono hB2.size))) HXS.out hcx).mono ?_; rintro e v1 ⟨A2, c2, rfl, hM2⟩; exact hK.out _ _ _ rfl rfl ⟨_, _, rfl, hM2.after hS.2⟩ hM2.b
   refine zS (fun w' hS hV K hK => ?_) ?_
   · obtain ⟨q0, q1⟩ := hS.1.two; go_simp; exact zO hK
   refine zS (fun w' hS hV K hK => ?_) ?_
   · have e5 := zQ hV 5; obtain ⟨q0, q1⟩ := hS.1.two; go_simp; refine (dim_any _ _ _ _ _).mono ?_; rintro e v1 ⟨rfl, hb⟩; exact hK.out _ _ _ rfl rfl rfl hb
   refine zS (fun w' hS hV K hK => ?_) ?_
   · have e6 := zQ hV 6; obtain ⟨q0, q1⟩ := hS.1.two; go_simp; exact zO hK
   refine zS (fun w' hS hV K hK => ?_) ?_
   · have e1 := zQ hV 1; obtain ⟨A4, c4, e4, h4⟩ := hV 4 (by decide); have e7 := zQ hV 7; obtain ⟨q0, q1⟩ := hS.1.two; go_simp; have hq := kernel_any P A4 (pw n) c4 (rmL P sq n xs) (pw n) w' HPP.out (by omega) (by omega) h4.rd HT.out.1; rw [HLE.out] at hq; refine hq.mono ?_; rintro e v1 ⟨A2, c2, rfl, hM2⟩; exact hK.out _ _ _ rfl rfl ⟨_, _, rfl, hM2.after hS.2⟩ hM2.b
   refine zS (fun w' hS hV K hK => ?_) ?_
   · obtain ⟨A4, c4, e4, h4⟩ := hV 4 (by decide); obtain ⟨A8, c8, e8, h8⟩ := hV 8 (by decide); obtain ⟨q0, q1⟩ := hS.1.two; go_simp; exact hK.out _ _ _ rfl rfl ⟨_, _, rfl, h8⟩ zG
   refine zS (fun w' hS hV K hK => ?_) ?_
   · obtain ⟨q0, q1⟩ := hS.1.two; go_simp; exact zO hK
   refine fun w' hS hV => ?_
   have e0 := zT hV 0
   have e1 := zT hV 1
   have e2 := zT hV 2
   have e3 := zT hV 3
   obtain ⟨A4, c4, e4, h4⟩ := hV 4 (by decide)
   have e5 := zT hV 5
   have e6 := zT hV 6
   have e7 := zT hV 7
   obtain ⟨A8, c8, e8, h8⟩ := hV 8 (by decide)
   obtain ⟨A9, c9, e9, h9⟩ := hV 9 (by decide)
   have e10 := zT hV 10
   simp only [e0, e1, e2, e3, e4, e5, e6, e7, e8, e9, e10]
   clear e0 e1 e2 e3 e4 e5 e6 e7 e8 e9 e10
   refine wpAny_done (by kernel_rfl) ?_ _
   go_wp2
   go_ret2
   exact aMat3 HOK.out (h9.after hB2)
 · obtain ⟨r, hr⟩ : ∃ r, r = codeA P sq [xs] := ⟨_, rfl⟩
   have HR := Lib.hid hr
   have HR0 := Lib.hid hr0
   have b0 : (r != 0) = true := code_ne (by rw [hr]; exact hr0)
   rw [← hr] at hreg
   clear hr hr0
   go_enter Tryz.func55, Tryz.ntmps55
   go_wp2_with fail
   refine hreg.mono ?_
   rintro e w2 ⟨rfl, hb2⟩
   have hB2 := hB1.trans (hb2.mono hB1.size)
   go_wp2
   go_ret2
   exact noMat3 (by rw [lanR_bad HR0.out, HR.out]) hB2
set_option maxHeartbeats 6400000 in
set_option maxRecDepth 8000 in
theorem specLeftAnnihilatorOf_any (P : Int) (A : Option Addr) (n c : Nat) (sq : List Int) (X : Option Addr) (m cx : Nat) (xs : List Int) (w : World) (hn : n ≤ 1048576) (hm : m ≤ 1048576) (ha : Rd w A n (ints sq)) (hx : Rd w X m (ints xs)) (hcx : m ≤ cx) :
    Calls Tryz.prog 56 #[.agg #[.int .i64 P, .slice A n c], .slice X m cx] w fun e w' => ∃ (A' : Option Addr) (k c' : Nat), e = .returned (.tuple #[.slice A' k c', .int .i64 (lanR P sq xs).2]) ∧ MkII w w' A' k c' (lanR P sq xs).1 := by
 have hB0 : Below w.heap.size w (w.alloc (.cells #[.int .i64 P, .slice A n c] 26)) := zG.alloc (Nat.le_refl _) _
 have k0 : Blk (w.alloc (.cells #[.int .i64 P, .slice A n c] 26)) w.heap.size 26 #[.int .i64 P, .slice A n c] := Blk.new _ _ _
 have hB1 : Below w.heap.size w ((w.alloc (.cells #[.int .i64 P, .slice A n c] 26)).alloc (.cells #[.slice X m cx] 24)) := hB0.alloc (by simp) _
 have k1 : Blk ((w.alloc (.cells #[.int .i64 P, .slice A n c] 26)).alloc (.cells #[.slice X m cx] 24)) w.heap.size 26 #[.int .i64 P, .slice A n c] := k0.alloc _
 have hreg := l09Code_any P A (some ⟨w.heap.size + 1, 0, none⟩) n c 1 1 sq [xs] ((w.alloc (.cells #[.int .i64 P, .slice A n c] 26)).alloc (.cells #[.slice X m cx] 24)) hn (by omega) (ha.below hB1) (rdII_one' (Blk.newAt3 (by simp)) (hx.below hB1) hcx) (all_one (by rw [hx.lenI]; exact hm))
 by_cases hr0 : codeA P sq [xs] = 0
 · rw [hr0] at hreg
   obtain ⟨hcM, h4⟩ := codeA_zero hr0
   obtain ⟨HP, hp, hp2, hd1, hd2, hs, hms⟩ := codeM_spec3 hcM
   obtain ⟨hx1, hxs⟩ := hms xs (by simp)
   have hsl := ha.lenI
   have hmn : m = pw n := by rw [← hx.lenI, hx1, hsl]
   subst hmn
   have hn4 : n ≤ 4 := by omega
   have hn1 : 1 ≤ n := by omega
   have hpw : pw n ≤ 16 := pw_le hn4
   have hpn := pw_pos n
   have HF := rm_facts hp hx1 hxs
   rw [hsl] at HF
   have HT := Lib.hid HF
   obtain ⟨L, hL⟩ : ∃ L, L = lanL P sq n xs := ⟨_, rfl⟩
   have HOK : Hid (lanR P sq xs = (L, 0)) := Lib.hid (by rw [lanR_ok hr0, hsl, hL])
   have HL := Lib.hid hL
   have HS := Lib.hid hs
   have HXS := Lib.hid hxs
   have HPP := Lib.hid HP
   clear hsl hs hxs hx1 hms hd1 hd2 h4 hcM hr0 HF hL HP
   go_enter Tryz.func56, Tryz.ntmps56
   go_wp2_with fail
   refine hreg.mono ?_
   rintro e w2 ⟨rfl, hb2⟩
   have hB2 := hB1.trans (hb2.mono hB1.size)
   have k2 := k1.below hb2 k1.lt
   clear k0 k1 hreg hb2 hB0 hB1
   have HLE : Hid (kernL P (rmL P sq n xs) (pw n) = L) := Lib.hid HL.out.symm
   obtain ⟨q0, q1⟩ := k2.two
   go_wp2
   refine wp_obs 8 [[],[0],[],[],[2,3],[0,1,2,3,4],[0,1,2,3,4,5],[]] [VIs (.pointer (some ⟨w.heap.size, 0, none⟩)), VIs (.int .i64 (P)), VIs (.agg #[.int .i64 P, .slice A n c]), VIs (.slice X (pw n) cx), VMat w2 (pw n) (rmL P sq n xs), VMat w2 L.length L, VMat w2 L.length L, VIs (.int .i64 0)] (fun w' => Blk w' w.heap.size 26 #[.int .i64 P, .slice A n c] ∧ Below w2.heap.size w2 w') (by kernel_rfl) (by kernel_rfl) (fun _ _ h hb => ⟨h.1.below hb h.1.lt, h.2.trans (hb.mono h.2.size)⟩) (⟨k2.drew, zG.drew⟩) (fun x => ?_)
   refine zS (fun w' hS hV K hK => ?_) ?_
   · obtain ⟨q0, q1⟩ := hS.1.two; go_simp; exact zO hK
   refine zS (fun w' hS hV K hK => ?_) ?_
   · have e0 := zQ hV 0; obtain ⟨q0, q1⟩ := hS.1.two; go_simp; exact zO hK
   refine zS (fun w' hS hV K hK => ?_) ?_
   · obtain ⟨q0, q1⟩ := hS.1.two; go_simp; exact zO hK
   refine zS (fun w' hS hV K hK => ?_) ?_
   · obtain ⟨q0, q1⟩ := hS.1.two; go_simp; exact zO hK
   refine zS (fun w' hS hV K hK => ?_) ?_
   · have e2 := zQ hV 2; have e3 := zQ hV 3; obtain ⟨q0, q1⟩ := hS.1.two; go_simp; refine (l09Right_any P A n c sq X cx xs _ hp hp2 (by omega) (ha.below (hB2.trans (hS.2.mono hB2.size))) HS.out (hx.below (hB2.trans (hS.2.mono hB2.size))) HXS.out hcx).mono ?_; rintro e v1 ⟨A2, c2, rfl, hM2⟩; exact hK.out _ _ _ rfl rfl ⟨_, _, rfl, hM2.after hS.2⟩ hM2.b
   refine zS (fun w' hS hV K hK => ?_) ?_
   · have e1 := zQ hV 1; obtain ⟨A4, c4, e4, h4⟩ := hV 4 (by decide); obtain ⟨q0, q1⟩ := hS.1.two; go_simp; have hq := l02Kernel_any P A4 (pw n) c4 (rmL P sq n xs) (pw n) w' HPP.out hpn (by omega) (by omega) h4.rd HT.out.1; rw [HLE.out] at hq; refine hq.mono ?_; rintro e v1 ⟨A2, c2, rfl, hM2⟩; exact hK.out _ _ _ rfl rfl ⟨_, _, rfl, hM2.after hS.2⟩ hM2.b
   refine zS (fun w' hS hV K hK => ?_) ?_
   · obtain ⟨A4, c4, e4, h4⟩ := hV 4 (by decide); obtain ⟨A5, c5, e5, h5⟩ := hV 5 (by decide); obtain ⟨q0, q1⟩ := hS.1.two; go_simp; exact hK.out _ _ _ rfl rfl ⟨_, _, rfl, h5⟩ zG
   refine zS (fun w' hS hV K hK => ?_) ?_
   · obtain ⟨q0, q1⟩ := hS.1.two; go_simp; exact zO hK
   refine fun w' hS hV => ?_
   have e0 := zT hV 0
   have e1 := zT hV 1
   have e2 := zT hV 2
   have e3 := zT hV 3
   obtain ⟨A4, c4, e4, h4⟩ := hV 4 (by decide)
   obtain ⟨A5, c5, e5, h5⟩ := hV 5 (by decide)
   obtain ⟨A6, c6, e6, h6⟩ := hV 6 (by decide)
   have e7 := zT hV 7
   simp only [e0, e1, e2, e3, e4, e5, e6, e7]
   clear e0 e1 e2 e3 e4 e5 e6 e7
   refine wpAny_done (by kernel_rfl) ?_ _
   go_wp2
   go_ret2
   exact aMat3 HOK.out (h6.after hB2)
 · obtain ⟨r, hr⟩ : ∃ r, r = codeA P sq [xs] := ⟨_, rfl⟩
   have HR := Lib.hid hr
   have HR0 := Lib.hid hr0
   have b0 : (r != 0) = true := code_ne (by rw [hr]; exact hr0)
   rw [← hr] at hreg
   clear hr hr0
   go_enter Tryz.func56, Tryz.ntmps56
   go_wp2_with fail
   refine hreg.mono ?_
   rintro e w2 ⟨rfl, hb2⟩
   have hB2 := hB1.trans (hb2.mono hB1.size)
   go_wp2
   go_ret2
   exact noMat3 (by rw [lanR_bad HR0.out, HR.out]) hB2
set_option maxHeartbeats 6400000 in
set_option maxRecDepth 8000 in
theorem l09Ideal_any (P : Int) (A : Option Addr) (n c : Nat) (sq : List Int) (X : Option Addr) (cx : Nat) (xs : List Int) (w : World) (HP : isP P = true) (hn : n ≤ 4) (ha : Rd w A n (ints sq)) (hs : NumsL P sq) (hx : Rd w X (pw n) (ints xs)) (hxs : NumsL P xs) (hcx : pw n ≤ cx) :
    Calls Tryz.prog 156 #[.agg #[.int .i64 P, .slice A n c], .slice X (pw n) cx] w fun e w' => ∃ (A' : Option Addr) (c' : Nat), e = .returned (.slice A' (lidL P sq n xs).length c') ∧ MkII w w' A' (lidL P sq n xs).length c' (lidL P sq n xs) := by
 have hB0 : Below w.heap.size w (w.alloc (.cells #[.int .i64 P, .slice A n c] 26)) := zG.alloc (Nat.le_refl _) _
 have k0 : Blk (w.alloc (.cells #[.int .i64 P, .slice A n c] 26)) w.heap.size 26 #[.int .i64 P, .slice A n c] := Blk.new _ _ _
 obtain ⟨hp3, hp2⟩ := isP_ge HP
 have hp : 2 ≤ P := by omega
 have hsl := ha.lenI
 have hpw : pw n ≤ 16 := pw_le hn
 have hpn := pw_pos n
 have HF := rm_facts (P := P) (sq := sq) (xs := xs) hp (by rw [hsl]; exact hx.lenI) hxs
 rw [hsl] at HF
 have HT := Lib.hid HF
 obtain ⟨L, hL⟩ : ∃ L, L = lidL P sq n xs := ⟨_, rfl⟩
 rw [← hL]
 have HLE : Hid (basisL P (transL (rmL P sq n xs)) = L) := Lib.hid hL.symm
 have HS := Lib.hid hs
 have HXS := Lib.hid hxs
 have HPP := Lib.hid HP
 clear hsl hs hxs HF hL HP
 go_enter Tryz.func156, Tryz.ntmps156
 obtain ⟨w2, hw2⟩ : ∃ W, W = (w.alloc (.cells #[.int .i64 P, .slice A n c] 26)) := ⟨_, rfl⟩
 have hB2 : Below w.heap.size w w2 := hw2 ▸ hB0
 have k2 : Blk w2 w.heap.size 26 #[.int .i64 P, .slice A n c] := hw2 ▸ k0
 clear hB0 k0
 obtain ⟨q0, q1⟩ := k2.two
 go_wp2
 rw [← hw2]
 clear hw2
 refine wp_obs 8 [[],[0],[],[],[2,3],[2,3,4],[0,1,2,3,4,5],[0,1,2,3,4,5,6]] [VIs (.pointer (some ⟨w.heap.size, 0, none⟩)), VIs (.int .i64 (P)), VIs (.agg #[.int .i64 P, .slice A n c]), VIs (.slice X (pw n) cx), VMat w2 (pw n) (rmL P sq n xs), VMat w2 (pw n) (transL (rmL P sq n xs)), VMat w2 L.length L, VMat w2 L.length L] (fun w' => Blk w' w.heap.size 26 #[.int .i64 P, .slice A n c] ∧ Below w2.heap.size w2 w') (by kernel_rfl) (by kernel_rfl) (fun _ _ h hb => ⟨h.1.below hb h.1.lt, h.2.trans (hb.mono h.2.size)⟩) (⟨k2.drew, zG.drew⟩) (fun x => ?_)
 refine zS (fun w' hS hV K hK => ?_) ?_
 · obtain ⟨q0, q1⟩ := hS.1.two; go_simp; exact zO hK
 refine zS (fun w' hS hV K hK => ?_) ?_
 · have e0 := zQ hV 0; obtain ⟨q0, q1⟩ := hS.1.two; go_simp; exact zO hK
 refine zS (fun w' hS hV K hK => ?_) ?_
 · obtain ⟨q0, q1⟩ := hS.1.two; go_simp; exact zO hK
 refine zS (fun w' hS hV K hK => ?_) ?_
 · obtain ⟨q0, q1⟩ := hS.1.two; go_simp; exact zO hK
 refine zS (fun w' hS hV K hK => ?_) ?_
 · have e2 := zQ hV 2; have e3 := zQ hV 3; obtain ⟨q0, q1⟩ := hS.1.two; go_simp; refine (l09Right_any P A n c sq X cx xs _ hp hp2 (by omega) (ha.below (hB2.trans (hS.2.mono hB2.size))) HS.out (hx.below (hB2.trans (hS.2.mono hB2.size))) HXS.out hcx).mono ?_; rintro e v1 ⟨A2, c2, rfl, hM2⟩; exact hK.out _ _ _ rfl rfl ⟨_, _, rfl, hM2.after hS.2⟩ hM2.b
 refine zS (fun w' hS hV K hK => ?_) ?_
 · obtain ⟨A4, c4, e4, h4⟩ := hV 4 (by decide); obtain ⟨q0, q1⟩ := hS.1.two; go_simp; refine (l02Turn_any P _ (pw n) _ (rmL P sq n xs) (pw n) _ hpn (by omega) (by omega) h4.rd HT.out.1).mono ?_; rintro e v1 ⟨A2, c2, rfl, hM2⟩; exact hK.out _ _ _ rfl rfl ⟨_, _, rfl, hM2.after hS.2⟩ hM2.b
 refine zS (fun w' hS hV K hK => ?_) ?_
 · have e1 := zQ hV 1; obtain ⟨A4, c4, e4, h4⟩ := hV 4 (by decide); obtain ⟨A5, c5, e5, h5⟩ := hV 5 (by decide); obtain ⟨q0, q1⟩ := hS.1.two; go_simp; have hq := l02Basis_any P A5 (pw n) c5 (transL (rmL P sq n xs)) (pw n) w' HPP.out (by omega) (by omega) h5.rd HT.out.2.2.1; rw [HLE.out] at hq; refine hq.mono ?_; rintro e v1 ⟨A2, c2, rfl, hM2⟩; exact hK.out _ _ _ rfl rfl ⟨_, _, rfl, hM2.after hS.2⟩ hM2.b
 refine zS (fun w' hS hV K hK => ?_) ?_
 · obtain ⟨A4, c4, e4, h4⟩ := hV 4 (by decide); obtain ⟨A5, c5, e5, h5⟩ := hV 5 (by decide); obtain ⟨A6, c6, e6, h6⟩ := hV 6 (by decide); obtain ⟨q0, q1⟩ := hS.1.two; go_simp; exact hK.out _ _ _ rfl rfl ⟨_, _, rfl, h6⟩ zG
 refine fun w' hS hV => ?_
 have e0 := zT hV 0
 have e1 := zT hV 1
 have e2 := zT hV 2
 have e3 := zT hV 3
 obtain ⟨A4, c4, e4, h4⟩ := hV 4 (by decide)
 obtain ⟨A5, c5, e5, h5⟩ := hV 5 (by decide)
 obtain ⟨A6, c6, e6, h6⟩ := hV 6 (by decide)
 obtain ⟨A7, c7, e7, h7⟩ := hV 7 (by decide)
 simp only [e0, e1, e2, e3, e4, e5, e6, e7]
 clear e0 e1 e2 e3 e4 e5 e6 e7
 refine wpAny_done (by kernel_rfl) ?_ _
 go_wp2
 go_ret
 exact ⟨_, _, rfl, h7.after hB2⟩
set_option maxHeartbeats 6400000 in
set_option maxRecDepth 8000 in
theorem specLeftIdealOf_any (P : Int) (A : Option Addr) (n c : Nat) (sq : List Int) (X : Option Addr) (m cx : Nat) (xs : List Int) (w : World) (hn : n ≤ 1048576) (hm : m ≤ 1048576) (ha : Rd w A n (ints sq)) (hx : Rd w X m (ints xs)) (hcx : m ≤ cx) :
    Calls Tryz.prog 54 #[.agg #[.int .i64 P, .slice A n c], .slice X m cx] w fun e w' => ∃ (A' : Option Addr) (k c' : Nat), e = .returned (.tuple #[.slice A' k c', .int .i64 (lidR P sq xs).2]) ∧ MkII w w' A' k c' (lidR P sq xs).1 := by
 have hB0 : Below w.heap.size w (w.alloc (.cells #[.int .i64 P, .slice A n c] 26)) := zG.alloc (Nat.le_refl _) _
 have k0 : Blk (w.alloc (.cells #[.int .i64 P, .slice A n c] 26)) w.heap.size 26 #[.int .i64 P, .slice A n c] := Blk.new _ _ _
 have hB1 : Below w.heap.size w ((w.alloc (.cells #[.int .i64 P, .slice A n c] 26)).alloc (.cells #[.slice X m cx] 24)) := hB0.alloc (by simp) _
 have k1 : Blk ((w.alloc (.cells #[.int .i64 P, .slice A n c] 26)).alloc (.cells #[.slice X m cx] 24)) w.heap.size 26 #[.int .i64 P, .slice A n c] := k0.alloc _
 have hreg := l09Code_any P A (some ⟨w.heap.size + 1, 0, none⟩) n c 1 1 sq [xs] ((w.alloc (.cells #[.int .i64 P, .slice A n c] 26)).alloc (.cells #[.slice X m cx] 24)) hn (by omega) (ha.below hB1) (rdII_one' (Blk.newAt3 (by simp)) (hx.below hB1) hcx) (all_one (by rw [hx.lenI]; exact hm))
 by_cases hr0 : codeA P sq [xs] = 0
 · rw [hr0] at hreg
   obtain ⟨hcM, h4⟩ := codeA_zero hr0
   obtain ⟨HP, hp, hp2, hd1, hd2, hs, hms⟩ := codeM_spec3 hcM
   obtain ⟨hx1, hxs⟩ := hms xs (by simp)
   have hsl := ha.lenI
   have hmn : m = pw n := by rw [← hx.lenI, hx1, hsl]
   subst hmn
   have hn4 : n ≤ 4 := by omega
   have hn1 : 1 ≤ n := by omega
   have hpw : pw n ≤ 16 := pw_le hn4
   have hpn := pw_pos n
   have HF := rm_facts hp hx1 hxs
   rw [hsl] at HF
   have HT := Lib.hid HF
   obtain ⟨L, hL⟩ : ∃ L, L = lidL P sq n xs := ⟨_, rfl⟩
   have HOK : Hid (lidR P sq xs = (L, 0)) := Lib.hid (by rw [lidR_ok hr0, hsl, hL])
   have HL := Lib.hid hL
   have HS := Lib.hid hs
   have HXS := Lib.hid hxs
   have HPP := Lib.hid HP
   clear hsl hs hxs hx1 hms hd1 hd2 h4 hcM hr0 HF hL HP
   go_enter Tryz.func54, Tryz.ntmps54
   go_wp2_with fail
   refine hreg.mono ?_
   rintro e w2 ⟨rfl, hb2⟩
   have hB2 := hB1.trans (hb2.mono hB1.size)
   have k2 := k1.below hb2 k1.lt
   clear k0 k1 hreg hb2 hB0 hB1
   have hcall := l09Ideal_any P A n c sq X cx xs w2 HPP.out hn4 (ha.below hB2) HS.out (hx.below hB2) HXS.out hcx
   rw [← HL.out] at hcall
   obtain ⟨q0, q1⟩ := k2.two
   go_wp2_with fail
   refine hcall.mono ?_
   rintro e w3 ⟨A3, c3, rfl, hM3⟩
   have hLT : Tab P (pw n) L := by rw [HL.out]; exact basisL_tab (by omega) _ HT.out.2.2.1
   have hLN : L.length ≤ 16 := by rw [HL.out]; exact Nat.le_trans (basisL_len (by omega) _ HT.out.2.2.1).2 (by rw [HT.out.2.2.2]; exact hpw)
   have hcall2 := l01Own2_any P A3 L.length c3 L (pw n) w3 (by omega) (by omega) hM3.rd hLT
   have hB3 := hB2.trans (hM3.b.mono hB2.size)
   clear hcall q0 q1 hM3
   go_wp2_with fail
   refine hcall2.mono ?_
   rintro e w4 ⟨A4, c4, rfl, hM4⟩
   go_wp2
   go_ret2
   exact aMat3 HOK.out (hM4.after hB3)
 · obtain ⟨r, hr⟩ : ∃ r, r = codeA P sq [xs] := ⟨_, rfl⟩
   have HR := Lib.hid hr
   have HR0 := Lib.hid hr0
   have b0 : (r != 0) = true := code_ne (by rw [hr]; exact hr0)
   rw [← hr] at hreg
   clear hr hr0
   go_enter Tryz.func54, Tryz.ntmps54
   go_wp2_with fail
   refine hreg.mono ?_
   rintro e w2 ⟨rfl, hb2⟩
   have hB2 := hB1.trans (hb2.mono hB1.size)
   go_wp2
   go_ret2
   exact noMat3 (by rw [lidR_bad HR0.out, HR.out]) hB2
set_option maxHeartbeats 3200000 in
set_option maxRecDepth 8000 in
theorem MinimalIdealSize_any (P : Int) (A : Option Addr) (n c : Nat) (sq : List Int) (w : World) (hn : n ≤ 1048576) (ha : Rd w A n (ints sq)) :
    Calls Tryz.prog 60 #[.agg #[.int .i64 P, .slice A n c]] w fun e w' => e = .returned (.tuple #[.int .i64 (wrap64 ((strR P sq).1.2.1 * (strR P sq).1.2.2)), .int .i64 (strR P sq).2]) ∧ Below w.heap.size w w' := by
 have hB0 : Below w.heap.size w (w.alloc (.cells #[.int .i64 P, .slice A n c] 26)) := zG.alloc (Nat.le_refl _) _
 have k0 : Blk (w.alloc (.cells #[.int .i64 P, .slice A n c] 26)) w.heap.size 26 #[.int .i64 P, .slice A n c] := Blk.new _ _ _
 have hcall := StructureOf_any P A n c sq (w.alloc (.cells #[.int .i64 P, .slice A n c] 26)) hn (ha.below hB0)
 unfold tup4 at hcall
 obtain ⟨⟨⟨b, r, d⟩, z⟩, hR⟩ : ∃ R, R = strR P sq := ⟨_, rfl⟩
 rw [← hR] at hcall ⊢
 clear hR
 obtain ⟨q0, q1⟩ := k0.two
 go_enter Tryz.func60, Tryz.ntmps60
 go_wp2_with fail
 refine hcall.mono ?_
 rintro e w2 ⟨rfl, hb2⟩
 have hB2 := hB0.trans (hb2.mono hB0.size)
 go_wp2
 go_ret2
 exact ⟨rfl, hB2⟩
/-- Has it an inverse? -/
def hasB (P : Int) (sq : List Int) (n : Nat) (xs : List Int) : Bool := (solR P (lmL P sq n xs) (bladeL n 0) (pw n)).2
def hinR (P : Int) (sq xs : List Int) : Bool × Int := if codeA P sq [xs] = 0 then (hasB P sq sq.length xs, 0) else (false, codeA P sq [xs])
theorem hinR_ok {P : Int} {sq xs : List Int} (h : codeA P sq [xs] = 0) : hinR P sq xs = (hasB P sq sq.length xs, 0) := by unfold hinR; rw [if_pos h]
theorem hinR_bad {P : Int} {sq xs : List Int} (h : ¬ codeA P sq [xs] = 0) : hinR P sq xs = (false, codeA P sq [xs]) := by unfold hinR; rw [if_neg h]
/-- The value is a tuple of something and a truth value. -/
def VTb (b : Bool) : VP := ⟨fun v _ => ∃ (A : Value) (_ : Unit), v = .tuple #[A, .bool b] ∧ True, fun _ _ _ h _ => h⟩
theorem lm_facts {P : Int} {sq xs : List Int} (hp : 2 ≤ P) (hx : xs.length = pw sq.length) (hxn : NumsL P xs) : Tab P (pw sq.length) (lcolL P sq sq.length xs) ∧ Tab P (pw sq.length) (lmL P sq sq.length xs) ∧ (lmL P sq sq.length xs).length = pw sq.length := by
 obtain ⟨X, hX⟩ : ∃ X : Cl P sq, X.l = xs := ⟨⟨xs, hx, hxn, by omega⟩, rfl⟩
 rw [← hX]
 have h1 := lcol_tab hp X
 have h2 := trans_ok (show 0 < P by omega) h1 (lcol_len _ _) (pw_pos _)
 exact ⟨h1, h2.1, h2.2⟩
set_option maxHeartbeats 6400000 in
set_option maxRecDepth 8000 in
theorem SpaceInverse_any (P : Int) (A : Option Addr) (n c : Nat) (sq : List Int) (X : Option Addr) (cx : Nat) (xs : List Int) (w : World) (HP : isP P = true) (hn : n ≤ 4) (ha : Rd w A n (ints sq)) (hs : NumsL P sq) (hx : Rd w X (pw n) (ints xs)) (hxs : NumsL P xs) (hcx : pw n ≤ cx) :
    Calls Tryz.prog 160 #[.agg #[.int .i64 P, .slice A n c], .slice X (pw n) cx] w fun e w' => ∃ u : Value, e = .returned (.tuple #[u, .bool (hasB P sq n xs)]) ∧ Below w.heap.size w w' := by
 have hB0 : Below w.heap.size w (w.alloc (.cells #[.int .i64 P, .slice A n c] 26)) := zG.alloc (Nat.le_refl _) _
 have k0 : Blk (w.alloc (.cells #[.int .i64 P, .slice A n c] 26)) w.heap.size 26 #[.int .i64 P, .slice A n c] := Blk.new _ _ _
 obtain ⟨hp3, hp2⟩ := isP_ge HP
 have hp : 2 ≤ P := by omega
 have hsl := ha.lenI
 have hpw : pw n ≤ 16 := pw_le hn
 have hpn := pw_pos n
 have HF := lm_facts (P := P) (sq := sq) (xs := xs) hp (by rw [hsl]; exact hx.lenI) hxs
 rw [hsl] at HF
 have HCT := Lib.hid HF.1
 have HLT := Lib.hid HF.2.1
 have HXL := Lib.hid hx.lenI
 have HXS := Lib.hid hxs
 have HS := Lib.hid hs
 have HPP := Lib.hid HP
 obtain ⟨hb9, hhb⟩ : ∃ b, b = hasB P sq n xs := ⟨_, rfl⟩
 have HB9 : Hid ((solR P (lmL P sq n xs) (bladeL n 0) (pw n)).2 = hb9) := Lib.hid hhb.symm
 rw [← hhb]
 have hB4 := hB0.alloc hB0.size (.cells #[] 24)
 have k4 := k0.alloc (.cells #[] 24)
 have hM4 : MkII w ((w.alloc (.cells #[.int .i64 P, .slice A n c] 26)).alloc (.cells #[] 24)) (some ⟨(w.alloc (.cells #[.int .i64 P, .slice A n c] 26)).heap.size, 0, none⟩) 0 0 [] := MkII.empty hB0
 clear hsl HF hxs hs HP hhb
 go_enter Tryz.func160, Tryz.ntmps160
 go_wp2
 go_loopw [6, 11] (fun out i wr => ∃ (k : Nat) (A' : Option Addr) (c' : Nat), k ≤ pw n ∧ i = .int .i64 k ∧ out = .slice A' k c' ∧ MkII w wr A' k c' (tab k fun m => mulL P sq xs (unitRow (pw n) m)) ∧ Blk wr w.heap.size 26 #[.int .i64 P, .slice A n c]) (fun _ i _ => pw n - (intOf i).toNat)
 case atStart => exact ⟨0, _, _, by omega, rfl, rfl, by simpa [tab] using hM4, k4⟩
 case round =>
  obtain ⟨k, A', c', hk, rfl, rfl, hM, k6⟩ := hrel
  clear hM4 k4 hB4 k0
  by_cases hlt : k < pw n
  · have HXR := Lib.hid (hx.below hM.b)
    have HAR := Lib.hid (ha.below hM.b)
    have HAL : Hid (∀ ys ∈ [xs, unitRow (pw n) k], NumsL P ys ∧ ys.length = pw n) := Lib.hid (all_two ⟨HXS.out, HXL.out⟩ ⟨unitRow_nums hp _ k, unitRow_len _ k⟩)
    have HTL : Hid (timesL P sq n [xs, unitRow (pw n) k] = mulL P sq xs (unitRow (pw n) k)) := Lib.hid (timesL_two P sq n xs (unitRow (pw n) k) HXL.out HXS.out)
    have hcc' : Hid ((tab (k + 1) fun m => mulL P sq xs (unitRow (pw n) m)) = (tab k fun m => mulL P sq xs (unitRow (pw n) m)) ++ [mulL P sq xs (unitRow (pw n) k)]) := Lib.hid (by rw [tab_succ])
    have HMM := Lib.hid hM
    clear hM
    obtain ⟨q0, q1⟩ := k6.two
    go_wp2
    refine wp_obs 9 [[],[],[],[],[],[3,4],[2,3,4,5],[1,2,3,4,5,6],[1,2,3,4,5,6,7],[0,1,2,3,4,5,6,7,8],[0,1,2,3,4,5,6,7,8,9]] [VIs (.slice A' k c'), VIs (.agg #[.int .i64 P, .slice A n c]), VIs (.slice X (pw n) cx), VIs (.agg #[.int .i64 P, .slice A n c]), VIs (.int .i64 (k)), VSl wr (pw n) (unitRow (pw n) k), VRow 2 [xs, unitRow (pw n) k], VSl wr (pw n) (mulL P sq xs (unitRow (pw n) k)), VNew wr (pw n) (mulL P sq xs (unitRow (pw n) k))] (fun w' => Blk w' w.heap.size 26 #[.int .i64 P, .slice A n c] ∧ Below wr.heap.size wr w') (by kernel_rfl) (by kernel_rfl) (fun _ _ h hb => ⟨h.1.below hb h.1.lt, h.2.trans (hb.mono h.2.size)⟩) (⟨k6.drew, zG.drew⟩) (fun x => ?_)
    refine zS (fun w' hS hV K hK => ?_) ?_
    · obtain ⟨q0, q1⟩ := hS.1.two; go_simp; exact zO hK
    refine zS (fun w' hS hV K hK => ?_) ?_
    · obtain ⟨q0, q1⟩ := hS.1.two; go_simp; exact zO hK
    refine zS (fun w' hS hV K hK => ?_) ?_
    · obtain ⟨q0, q1⟩ := hS.1.two; go_simp; exact zO hK
    refine zS (fun w' hS hV K hK => ?_) ?_
    · obtain ⟨q0, q1⟩ := hS.1.two; go_simp; exact zO hK
    refine zS (fun w' hS hV K hK => ?_) ?_
    · obtain ⟨q0, q1⟩ := hS.1.two; go_simp; exact zO hK
    refine zS (fun w' hS hV K hK => ?_) ?_
    · have e3 := zQ hV 3; have e4 := zQ hV 4; obtain ⟨q0, q1⟩ := hS.1.two; go_simp; refine (blade_any P A n c k w' (by omega) hlt).mono ?_; rintro e v1 ⟨A9, c9, rfl, hM⟩; exact hK.out _ _ _ rfl rfl ⟨_, _, rfl, hM.after hS.2⟩ hM.b
    refine zS (fun w' hS hV K hK => ?_) ?_
    · have e2 := zQ hV 2; obtain ⟨A5, c5, e5, h5⟩ := hV 5 (by decide); obtain ⟨q0, q1⟩ := hS.1.two; go_simp; exact hK.out _ _ _ rfl rfl ⟨_, _, rfl, rdII_two (Blk.new w' 24 _) ((HXR.out.below hS.2).below (zG.alloc (Nat.le_refl _) _)) (h5.rd.below (zG.alloc (Nat.le_refl _) _)) hcx h5.2.cap⟩ (zG.alloc (Nat.le_refl _) _)
    refine zS (fun w' hS hV K hK => ?_) ?_
    · have e1 := zQ hV 1; obtain ⟨A5, c5, e5, h5⟩ := hV 5 (by decide); obtain ⟨A6, c6, e6, h6⟩ := hV 6 (by decide); obtain ⟨q0, q1⟩ := hS.1.two; go_simp; have htm := times_any P A n c sq A6 2 c6 [xs, unitRow (pw n) k] w' (by omega) hp2 (by omega) (by omega) (HAR.out.below hS.2) HS.out h6 HAL.out; rw [HTL.out] at htm; refine htm.mono ?_; rintro e v1 ⟨A9, c9, rfl, hM⟩; exact hK.out _ _ _ rfl rfl ⟨_, _, rfl, hM.after hS.2⟩ hM.b
    refine zS (fun w' hS hV K hK => ?_) ?_
    · obtain ⟨A5, c5, e5, h5⟩ := hV 5 (by decide); obtain ⟨A6, c6, e6, h6⟩ := hV 6 (by decide); obtain ⟨A7, c7, e7, h7⟩ := hV 7 (by decide); obtain ⟨q0, q1⟩ := hS.1.two; go_simp; exact hK.out _ _ _ rfl rfl ⟨_, _, _, rfl, Blk.new _ _ _, h7.below (zG.alloc (Nat.le_refl _) _)⟩ (zG.alloc (Nat.le_refl _) _)
    refine fun w' hS hV => ?_
    have e0 := zT hV 0
    have e1 := zT hV 1
    have e2 := zT hV 2
    have e3 := zT hV 3
    have e4 := zT hV 4
    obtain ⟨A5, c5, e5, h5⟩ := hV 5 (by decide)
    obtain ⟨A6, c6, e6, h6⟩ := hV 6 (by decide)
    obtain ⟨A7, c7, e7, h7⟩ := hV 7 (by decide)
    obtain ⟨g8, A8, c8, e8, b8, h8⟩ := hV 8 (by decide)
    simp only [e0, e1, e2, e3, e4, e5, e6, e7, e8]
    clear e0 e1 e2 e3 e4 e5 e6 e7 e8
    have k7 := hS.1
    have s2 := hS.2
    refine any_plain (j := 9) (by kernel_rfl) (Eq.trans (by simp only [zA, zB, zC]; exact rfl) rfl) rfl (fun K hK => ?_)
    refine wp_appRow w wr w' _ _ rfl A' k c' _ A8 (pw n) c8 _ HMM.out h8 (by omega) g8 b8 (by rfl) (by rfl) ?_
    intro A20 c20 w20 hM20 hg20 hat20
    refine hK.out _ _ ?_
    simp only [Act.put, zD, zE, zF]
    refine any_one (j := 10) (by kernel_rfl) (Eq.trans (by simp only [zA, zB, zC]; exact rfl) rfl) (fun K hK => ?_)
    go_simp
    refine hK.out _ _ (wpAny_done (by kernel_rfl) ?_ _)
    have k8 := k7.grown hg20 ((HMM.out.below s2).ne_blk k7 (by decide))
    clear hg20 hat20 s2 k7 hS q0 q1
    go_wp2
    go_roundw
    case rel => exact ⟨k + 1, A20, c20, by omega, by go_num, rfl, by rw [hcc'.out]; exact hM20, k8⟩
    case measure => simp [intOf]; omega
  · obtain rfl : k = pw n := by omega
    have hrd : RdII wr A' (pw n) (lcolL P sq n xs) := hM.rd
    have hBw := hM.b
    clear hM
    obtain ⟨q0, q1⟩ := k6.two
    go_wp2
    refine wp_obs 11 [[],[0],[],[2],[],[4],[0,1,2,3,4,5],[0,1,2,3,4,5,6],[0,1,2,3,4,5,6],[0,1,2,3,4,5,6,7],[0,1,2,3,4,5,6,8]] [VIs (.agg #[.int .i64 P, .slice A n c]), VIs (.int .i64 (P)), VIs (.slice A' (pw n) c'), VMat wr (pw n) (lmL P sq n xs), VIs (.agg #[.int .i64 P, .slice A n c]), VSl wr (pw n) (bladeL n 0), VTb hb9, VAny, VIs (.bool hb9), VAny, VIs (.bool hb9)] (fun w' => Blk w' w.heap.size 26 #[.int .i64 P, .slice A n c] ∧ Below wr.heap.size wr w') (by kernel_rfl) (by kernel_rfl) (fun _ _ h hb => ⟨h.1.below hb h.1.lt, h.2.trans (hb.mono h.2.size)⟩) (⟨k6.drew, zG.drew⟩) (fun x => ?_)
    refine zS (fun w' hS hV K hK => ?_) ?_
    · obtain ⟨q0, q1⟩ := hS.1.two; go_simp; exact zO hK
    refine zS (fun w' hS hV K hK => ?_) ?_
    · have e0 := zQ hV 0; obtain ⟨q0, q1⟩ := hS.1.two; go_simp; refine (field_any _ _ _ _ _).mono ?_; rintro e v1 ⟨rfl, hb⟩; exact hK.out _ _ _ rfl rfl rfl hb
    refine zS (fun w' hS hV K hK => ?_) ?_
    · obtain ⟨q0, q1⟩ := hS.1.two; go_simp; exact zO hK
    refine zS (fun w' hS hV K hK => ?_) ?_
    · have e2 := zQ hV 2; obtain ⟨q0, q1⟩ := hS.1.two; go_simp; refine (transpose_any P A' (pw n) c' (lcolL P sq n xs) (pw n) w' hpn (by omega) (by omega) (hrd.below hS.2) HCT.out).mono ?_; rintro e v1 ⟨A9, c9, rfl, hM⟩; exact hK.out _ _ _ rfl rfl ⟨_, _, rfl, hM.after hS.2⟩ hM.b
    refine zS (fun w' hS hV K hK => ?_) ?_
    · obtain ⟨q0, q1⟩ := hS.1.two; go_simp; exact zO hK
    refine zS (fun w' hS hV K hK => ?_) ?_
    · have e4 := zQ hV 4; obtain ⟨q0, q1⟩ := hS.1.two; go_simp; refine (one_any P A n c w' (by omega)).mono ?_; rintro e v1 ⟨A9, c9, rfl, hM⟩; exact hK.out _ _ _ rfl rfl ⟨_, _, rfl, hM.after hS.2⟩ hM.b
    refine zS (fun w' hS hV K hK => ?_) ?_
    · have e1 := zQ hV 1; obtain ⟨A3, c3, e3, h3⟩ := hV 3 (by decide); obtain ⟨A5, c5, e5, h5⟩ := hV 5 (by decide); obtain ⟨q0, q1⟩ := hS.1.two; go_simp; refine (solve_any P A3 (pw n) c3 (lmL P sq n xs) (pw n) A5 c5 (bladeL n 0) w' HPP.out hpn (by omega) hpn (by omega) h3.rd HLT.out h5.rd (bladeL_nums hp n 0)).mono ?_; rintro e v1 ⟨A9, k9, c9, rfl, hM⟩; rw [HB9.out]; exact hK.out _ _ _ rfl rfl ⟨_, (), rfl, trivial⟩ hM.b
    refine zS (fun w' hS hV K hK => ?_) ?_
    · obtain ⟨A3, c3, e3, h3⟩ := hV 3 (by decide); obtain ⟨A5, c5, e5, h5⟩ := hV 5 (by decide); obtain ⟨A6, c6, e6, h6⟩ := hV 6 (by decide); obtain ⟨q0, q1⟩ := hS.1.two; go_simp; exact hK.out _ _ _ rfl rfl trivial zG
    refine zS (fun w' hS hV K hK => ?_) ?_
    · obtain ⟨A3, c3, e3, h3⟩ := hV 3 (by decide); obtain ⟨A5, c5, e5, h5⟩ := hV 5 (by decide); obtain ⟨A6, c6, e6, h6⟩ := hV 6 (by decide); obtain ⟨q0, q1⟩ := hS.1.two; go_simp; exact zO hK
    refine zS (fun w' hS hV K hK => ?_) ?_
    · obtain ⟨A3, c3, e3, h3⟩ := hV 3 (by decide); obtain ⟨A5, c5, e5, h5⟩ := hV 5 (by decide); obtain ⟨A6, c6, e6, h6⟩ := hV 6 (by decide); obtain ⟨q0, q1⟩ := hS.1.two; go_simp; exact hK.out _ _ _ rfl rfl trivial zG
    refine zS (fun w' hS hV K hK => ?_) ?_
    · obtain ⟨A3, c3, e3, h3⟩ := hV 3 (by decide); obtain ⟨A5, c5, e5, h5⟩ := hV 5 (by decide); obtain ⟨A6, c6, e6, h6⟩ := hV 6 (by decide); have e8 := zQ hV 8; obtain ⟨q0, q1⟩ := hS.1.two; go_simp; exact zO hK
    refine fun w' hS hV => ?_
    have e0 := zT hV 0
    have e1 := zT hV 1
    have e2 := zT hV 2
    obtain ⟨A3, c3, e3, h3⟩ := hV 3 (by decide)
    have e4 := zT hV 4
    obtain ⟨A5, c5, e5, h5⟩ := hV 5 (by decide)
    obtain ⟨A6, c6, e6, h6⟩ := hV 6 (by decide)
    have e8 := zT hV 8
    have e10 := zT hV 10
    simp only [e0, e1, e2, e3, e4, e5, e6, e8, e10]
    clear e0 e1 e2 e3 e4 e5 e6 e8 e10
    refine wpAny_done (by kernel_rfl) ?_ _
    go_wp2
    go_ret2
    exact ⟨⟨_, rfl⟩, hBw.trans (hS.2.mono hBw.size)⟩
set_option maxHeartbeats 6400000 in
set_option maxRecDepth 8000 in
theorem HasInverse_any (P : Int) (A : Option Addr) (n c : Nat) (sq : List Int) (X : Option Addr) (m cx : Nat) (xs : List Int) (w : World) (hn : n ≤ 1048576) (hm : m ≤ 1048576) (ha : Rd w A n (ints sq)) (hx : Rd w X m (ints xs)) (hcx : m ≤ cx) :
    Calls Tryz.prog 59 #[.agg #[.int .i64 P, .slice A n c], .slice X m cx] w fun e w' => e = .returned (.tuple #[.bool (hinR P sq xs).1, .int .i64 (hinR P sq xs).2]) ∧ Below w.heap.size w w' := by
 have hB0 : Below w.heap.size w (w.alloc (.cells #[.int .i64 P, .slice A n c] 26)) := zG.alloc (Nat.le_refl _) _
 have k0 : Blk (w.alloc (.cells #[.int .i64 P, .slice A n c] 26)) w.heap.size 26 #[.int .i64 P, .slice A n c] := Blk.new _ _ _
 have hB1 : Below w.heap.size w ((w.alloc (.cells #[.int .i64 P, .slice A n c] 26)).alloc (.cells #[.slice X m cx] 24)) := hB0.alloc (by simp) _
 have k1 : Blk ((w.alloc (.cells #[.int .i64 P, .slice A n c] 26)).alloc (.cells #[.slice X m cx] 24)) w.heap.size 26 #[.int .i64 P, .slice A n c] := k0.alloc _
 have hreg := checkAlgebra_any P A (some ⟨w.heap.size + 1, 0, none⟩) n c 1 1 sq [xs] ((w.alloc (.cells #[.int .i64 P, .slice A n c] 26)).alloc (.cells #[.slice X m cx] 24)) hn (by omega) (ha.below hB1) (rdII_one' (Blk.newAt3 (by simp)) (hx.below hB1) hcx) (all_one (by rw [hx.lenI]; exact hm))
 by_cases hr0 : codeA P sq [xs] = 0
 · rw [hr0] at hreg
   obtain ⟨hcM, h4⟩ := codeA_zero hr0
   obtain ⟨HP, hp, hp2, hd1, hd2, hs, hms⟩ := codeM_spec3 hcM
   obtain ⟨hx1, hxs⟩ := hms xs (by simp)
   have hsl := ha.lenI
   have hmn : m = pw n := by rw [← hx.lenI, hx1, hsl]
   subst hmn
   have HOK : Hid (hinR P sq xs = (hasB P sq n xs, 0)) := Lib.hid (by rw [hinR_ok hr0, hsl])
   have hn4 : n ≤ 4 := by omega
   go_enter Tryz.func59, Tryz.ntmps59
   go_wp2_with fail
   refine hreg.mono ?_
   rintro e w2 ⟨rfl, hb2⟩
   have hB2 := hB1.trans (hb2.mono hB1.size)
   have k2 := k1.below hb2 k1.lt
   have hcall := SpaceInverse_any P A n c sq X cx xs w2 HP hn4 (ha.below hB2) hs (hx.below hB2) hxs hcx
   clear k0 k1 hreg hb2 hB0 hB1 hms hxs hx1 hr0 hcM
   obtain ⟨q0, q1⟩ := k2.two
   go_wp2_with fail
   refine hcall.mono ?_
   rintro e w3 ⟨u, rfl, hb3⟩
   go_wp2
   go_ret2
   exact ⟨ret_bi3 HOK.out, hB2.trans (hb3.mono hB2.size)⟩
 · obtain ⟨r, hr⟩ : ∃ r, r = codeA P sq [xs] := ⟨_, rfl⟩
   have HR := Lib.hid hr
   have HR0 := Lib.hid hr0
   have b0 : (r != 0) = true := code_ne (by rw [hr]; exact hr0)
   rw [← hr] at hreg
   clear hr hr0
   go_enter Tryz.func59, Tryz.ntmps59
   go_wp2_with fail
   refine hreg.mono ?_
   rintro e w2 ⟨rfl, hb2⟩
   have hB2 := hB1.trans (hb2.mono hB1.size)
   go_wp2
   go_ret2
   exact ⟨ret_bi3 (by rw [hinR_bad HR0.out, HR.out]), hB2⟩
end Go.Proofs.YtmkjdpnoloofjaaGreat
namespace Go.Proofs.YtmkjdpnoloofjaaGreat
section
variable {p : Int} {sq : List Int}
/-- The products of the basis with a multivector. -/
def rcC (hp : 0 < p) (X : Cl p sq) : List (Cl p sq) := (List.range (pw sq.length)).map fun m => Cl.at_ hp m * X
theorem rcC_rows (h2 : 2 ≤ p) (hp : 0 < p) (X : Cl p sq) : rowsC (rcC hp X) = rcmL p sq sq.length X.l := by
 unfold rowsC rcC rcmL tab
 rw [List.map_map]
 refine List.map_congr_left fun m hm => ?_
 show (Cl.at_ hp m * X : Cl p sq).l = _
 rw [Cl.mul_l, Cl.at_l hp h2 (List.mem_range.1 hm)]
theorem rcC_sp (hp : 0 < p) (X z : Cl p sq) : SpC (rcC hp X) (z * X) := by
 have e : z * X = Cl.sum hp (pw sq.length) fun m => z.co m * Cl.at_ hp m * X := by
  have h := congrArg (fun y => y * X) (Cl.at_sum hp z)
  rw [Cl.mul_suml] at h
  exact h
 rw [e]
 refine SpC.of_sum hp _ _ _ fun m hm => ?_
 rw [Cl.sm_mul]
 exact (SpC.mem (List.mem_map.2 ⟨m, List.mem_range.2 hm, rfl⟩)).sm _
theorem rcC_ex (hp : 0 < p) {X z : Cl p sq} (h : SpC (rcC hp X) z) : ∃ Y : Cl p sq, z = Y * X := by
 refine SpC.ind hp (fun z => ∃ Y : Cl p sq, z = Y * X) ⟨Cl.zero hp, (Cl.zero_mul hp X).symm⟩ ?_ ?_ ?_ h
 · rintro _ _ ⟨a, rfl⟩ ⟨b, rfl⟩
   exact ⟨a + b, (Cl.add_mul a b X).symm⟩
 · rintro k _ ⟨a, rfl⟩
   exact ⟨k * a, (Cl.sm_mul k a X).symm⟩
 · intro d hd
   obtain ⟨m, _, rfl⟩ := List.mem_map.1 hd
   exact ⟨_, rfl⟩
/-- The reduced basis of the left ideal, as multivectors. -/
theorem lid_bas (hP : isP p = true) (hp : 0 < p) (X : Cl p sq) : ∃ E : List (Cl p sq), rowsC E = lidL p sq sq.length X.l ∧ Bas (SpC (rcC hp X)) E := by
 have h3 := isP_ge hP
 have h2 : 2 ≤ p := by omega
 have hT := rcm_tab h2 X
 have hl := rcm_len (p := p) (sq := sq) sq.length X.l
 have htt : transL (rmL p sq sq.length X.l) = rcmL p sq sq.length X.l := trans_trans hT (by rw [hl]; exact pw_pos _) (pw_pos _) hp
 have hTD := rowsC_tab (rcC hp X)
 obtain ⟨E, hE⟩ := lift_rows hp (basisL p (rowsC (rcC hp X))) (basisL_tab hp _ hTD)
 obtain ⟨h1, h2'⟩ := basisL_in hP (rowsC (rcC hp X)) hTD
 refine ⟨E, by rw [hE, rcC_rows h2 hp]; unfold lidL; rw [htt], ?_, fun z => ?_⟩
 · unfold IndC; rw [hE]; exact (basisL_red hP _ hTD).ind
 · unfold SpC; rw [hE]; exact ⟨h2'.sp, h1.sp⟩
/-- What a row of the annihilator makes 0. -/
theorem lan_zero (hP : isP p = true) (hp : 0 < p) (X z : Cl p sq) : Sp p (pw sq.length) (lanL p sq sq.length X.l) (fun q => z.co q) ↔ z * X = Cl.zero hp := by
 have h3 := isP_ge hP
 have h2 : 2 ≤ p := by omega
 obtain ⟨hT, hl, _, _⟩ := rm_facts (P := p) (sq := sq) h2 X.len X.nums
 unfold lanL
 rw [kernL_sp hP hT]
 unfold Orth
 rw [hl]
 constructor
 · intro h
   refine Cl.same fun q hq => ?_
   rw [rm_co h2 X z hq, h q hq, Cl.zero_co hp hq]
 · intro h r hr
   rw [← rm_co h2 X z hr, h, Cl.zero_co hp hr]
theorem lan_row (hP : isP p = true) {xs : List Int} (hx : xs.length = pw sq.length) (hxn : NumsL p xs) {i : Nat} (hi : i < (lanL p sq sq.length xs).length) :
    ((lanL p sq sq.length xs).getD i []).length = pw sq.length ∧ NumsL p ((lanL p sq sq.length xs).getD i []) ∧ ∀ y ∈ mulL p sq ((lanL p sq sq.length xs).getD i []) xs, y = 0 := by
 have h3 := isP_ge hP
 have hp : 0 < p := by omega
 have hT : Tab p (pw sq.length) (lanL p sq sq.length xs) := kernL_tab (by omega) _ _
 obtain ⟨h1, h2⟩ := hT.row hi
 refine ⟨h1, h2, ?_⟩
 obtain ⟨z, hz⟩ : ∃ z : Cl p sq, z.l = (lanL p sq sq.length xs).getD i [] := ⟨⟨_, h1, h2, hp⟩, rfl⟩
 obtain ⟨X, hX⟩ : ∃ X : Cl p sq, X.l = xs := ⟨⟨_, hx, hxn, hp⟩, rfl⟩
 have h := (lan_zero hP hp X z).1 (Sp.congr (Sp.row (by rw [hX]; exact hi)) fun q _ => by unfold Cl.co; rw [hz, hX]; rfl)
 rw [← hz, ← hX, ← Cl.mul_l, h]
 exact Cl.zero_all hp
theorem lid_lan (hP : isP p = true) {xs : List Int} (hx : xs.length = pw sq.length) (hxn : NumsL p xs) : (lidL p sq sq.length xs).length + (lanL p sq sq.length xs).length = pw sq.length := by
 have h3 := isP_ge hP
 obtain ⟨hT, hl, _, _⟩ := rm_facts (P := p) (sq := sq) (by omega) hx hxn
 have h1 := kernL_dim hP hT
 have h2 := rank_trans hP hT (by rw [hl]; exact pw_pos _) (pw_pos _)
 unfold lidL lanL
 omega
/-- Products with the multivector are in the ideal. -/
theorem lid_span (hP : isP p = true) {xs zs : List Int} (hx : xs.length = pw sq.length) (hxn : NumsL p xs) (hz : zs.length = pw sq.length) (hzn : NumsL p zs) :
    (basisL p (lidL p sq sq.length xs ++ [mulL p sq zs xs])).length = (basisL p (lidL p sq sq.length xs)).length ∧ ((lidL p sq sq.length xs).length = 0 → ∀ y ∈ mulL p sq zs xs, y = 0) := by
 have h3 := isP_ge hP
 have hp : 0 < p := by omega
 obtain ⟨z, rfl⟩ : ∃ z : Cl p sq, z.l = zs := ⟨⟨_, hz, hzn, hp⟩, rfl⟩
 obtain ⟨X, rfl⟩ : ∃ X : Cl p sq, X.l = xs := ⟨⟨_, hx, hxn, hp⟩, rfl⟩
 obtain ⟨E, hE, hB⟩ := lid_bas hP hp X
 have h := (hB.2 _).1 (rcC_sp hp X z)
 unfold SpC at h
 have hT := rowsC_tab E
 rw [hE] at h hT
 refine ⟨span_len hP hT ⟨(mulL_len _ _ _ _).trans z.len, mulL_nums hp _ _ _⟩ (by rw [← Cl.mul_l]; exact h), fun h0 => ?_⟩
 have hn : lidL p sq sq.length X.l = [] := List.eq_nil_of_length_eq_zero h0
 rw [hn] at h
 have : z * X = Cl.zero hp := Cl.same fun q hq => by rw [Sp.nil h q hq, Cl.zero_co hp hq]
 rw [← Cl.mul_l, this]
 exact Cl.zero_all hp
/-- There is an inverse exactly if the annihilator is 0. -/
theorem has_lan (hP : isP p = true) {xs : List Int} (hx : xs.length = pw sq.length) (hxn : NumsL p xs) : hasB p sq sq.length xs = decide ((lanL p sq sq.length xs).length = 0) := by
 have h3 := isP_ge hP
 have hp : 0 < p := by omega
 have h2 : 2 ≤ p := by omega
 obtain ⟨X, rfl⟩ : ∃ X : Cl p sq, X.l = xs := ⟨⟨_, hx, hxn, hp⟩, rfl⟩
 obtain ⟨_, hT, hl⟩ := lm_facts (P := p) (sq := sq) h2 X.len X.nums
 have hone : ∀ i, i < pw sq.length → (bladeL sq.length 0).getD i 0 % p = (Cl.one hp : Cl p sq).co i % p := fun i hi => by
  have : (Cl.one hp : Cl p sq).l = bladeL sq.length 0 := Cl.one_l h2
  unfold Cl.co; rw [this]
 have hbn := bladeL_nums (p := p) h2 sq.length 0
 have hkt : Red (pw sq.length) (lanL p sq sq.length X.l) := kernL_red hP _ _
 have hkT : Tab p (pw sq.length) (lanL p sq sq.length X.l) := kernL_tab h2 _ _
 cases he : endB (basisL p (augL (lmL p sq sq.length X.l) (bladeL sq.length 0))) (pw sq.length) (basisL p (augL (lmL p sq sq.length X.l) (bladeL sq.length 0))).length with
 | false =>
  have hb : hasB p sq sq.length X.l = true := by unfold hasB solR; rw [he]; rfl
  rw [hb]
  have hs := sol_ok hP hT hbn he
  rw [hl] at hs
  obtain ⟨y, hy⟩ : ∃ y, y = solTo (basisL p (augL (lmL p sq sq.length X.l) (bladeL sq.length 0))) (pw sq.length) (basisL p (augL (lmL p sq sq.length X.l) (bladeL sq.length 0))).length := ⟨_, rfl⟩
  rw [← hy] at hs
  obtain ⟨Y, hY⟩ : ∃ Y : Cl p sq, Y.l = y := ⟨⟨y, by rw [hy]; exact solTo_len _ _ _, by rw [hy]; exact solTo_nums hp (basisL_tab hp _ (augL_tab hp hT hbn)) _ _, hp⟩, rfl⟩
  have hXY : X * Y = Cl.one hp := Cl.same fun r hr => by
   have e : (sumTo (pw sq.length) fun q => ent (lmL p sq sq.length X.l) r q * Y.co q) = sumTo (pw sq.length) fun q => ent (lmL p sq sq.length X.l) r q * y.getD q 0 := sumTo_congr fun q _ => by
    unfold Cl.co; rw [hY]
   rw [lm_co h2 X Y hr, e]
   exact (hs r hr).trans (hone r hr)
  have h0 : (lanL p sq sq.length X.l).length = 0 := by
   refine Nat.eq_zero_of_not_pos fun hpos => ?_
   obtain ⟨h1, h2'⟩ := hkT.row hpos
   obtain ⟨z, hz⟩ : ∃ z : Cl p sq, z.l = (lanL p sq sq.length X.l).getD 0 [] := ⟨⟨_, h1, h2', hp⟩, rfl⟩
   have hzX := (lan_zero hP hp X z).1 (Sp.congr (Sp.row hpos) fun q _ => by unfold Cl.co; rw [hz]; rfl)
   have hz0 : z = Cl.zero hp := by rw [← Cl.mul_one hp z, ← hXY, ← Cl.mul_assoc, hzX, Cl.zero_mul]
   have h1' := hkt.one 0 hpos
   have hlt := hkt.lt 0 hpos
   have : z.co (ld (lanL p sq sq.length X.l) 0) = 1 := by unfold Cl.co; rw [hz]; exact h1'
   have h9 := Cl.zero_co (sq := sq) hp hlt
   rw [← hz0, this, Int.emod_eq_of_lt (by omega) (by omega)] at h9
   omega
  rw [h0]; rfl
 | true =>
  have hb : hasB p sq sq.length X.l = false := by unfold hasB solR; rw [he]; rfl
  rw [hb]
  refine (decide_eq_false fun h0 => ?_).symm
  obtain ⟨E, hE, hB⟩ := lid_bas hP hp X
  have hEl : E.length = pw sq.length := by
   have := lid_lan hP X.len X.nums
   rw [h0, ← hE, rowsC_len] at this
   omega
  have h1 : SpC E (Cl.one hp) := Classical.byContradiction fun hn => by
   have hI := hB.1.snoc hP hn
   have hTE := rowsC_tab (E ++ [Cl.one hp])
   have h5 := Ind.basis hP hTE hI
   have h6 := (basisL_red hP _ hTE).len
   rw [h5, rowsC_len, List.length_append, hEl] at h6
   have h7 : pw sq.length + 1 ≤ pw sq.length := by simpa using h6
   omega
  obtain ⟨Y, hY⟩ := rcC_ex hp ((hB.2 _).2 h1)
  have hXY := Cl.inv_two hp hY.symm
  exact sol_no hP hT hbn he (fun q => Y.co q) fun i hi => by
   rw [hl] at hi
   rw [← lm_co h2 X Y hi, hXY, hone i hi]
/-- The dimension of the ideal. -/
theorem lid_dim (hP : isP p = true) (h1 : 1 ≤ sq.length) (h4 : sq.length ≤ 4) (hr : ∀ i, i < sq.length → sq.getD i 0 % p ≠ 0) {xs : List Int} (hx : xs.length = pw sq.length) (hxn : NumsL p xs) :
    (((lidL p sq sq.length xs).length : Nat) : Int) % ((strV p sq sq.length).2.1 * (strV p sq sq.length).2.2) = 0 ∧ 0 < (strV p sq sq.length).2.1 * (strV p sq sq.length).2.2 ∧ (strV p sq sq.length).2.1 * (strV p sq sq.length).2.2 ≤ 4 := by
 have h3 := isP_ge hP
 have hp : 0 < p := by omega
 obtain ⟨X, rfl⟩ : ∃ X : Cl p sq, X.l = xs := ⟨⟨_, hx, hxn, hp⟩, rfl⟩
 obtain ⟨E, hE, hB⟩ := lid_bas hP hp X
 have := ideal_dim hP h1 h4 hr hB fun y z hz => by
  obtain ⟨Y, rfl⟩ := rcC_ex hp hz
  rw [← Cl.mul_assoc]
  exact rcC_sp hp X _
 rwa [← rowsC_len, hE] at this
end
end Go.Proofs.YtmkjdpnoloofjaaGreat
namespace Go.Proofs.YtmkjdpnoloofjaaGreat
open Go.RowKit
/-- The root of a vector's norm, or a number that is not above 0. -/
def vrtL (P : Int) (sq : List Int) (n : Nat) (vs : List Int) : Int := rootI (rootF P (pairL P sq (partL n vs) (partL n vs)) P.toNat 0)
/-- The idempotent of a vector. -/
def vidL (P : Int) (sq : List Int) (n : Nat) (vs : List Int) : List Int := plusL P (scaleL P (bladeL n 0) (invF P 2)) vs (invF P 2 * invF P (vrtL P sq n vs) % P)
def vidR (P : Int) (sq vs : List Int) : List Int × Int := if codeA P sq [vs] = 0 then (if decide (vs = partG vs 1) && decide (0 < vrtL P sq sq.length vs) then (vidL P sq sq.length vs, 0) else ([], 5)) else ([], codeA P sq [vs])
theorem vidR_ok {P : Int} {sq vs : List Int} (h : codeA P sq [vs] = 0) (h1 : decide (vs = partG vs 1) = true) (h2 : 0 < vrtL P sq sq.length vs) : vidR P sq vs = (vidL P sq sq.length vs, 0) := by unfold vidR; rw [if_pos h, h1, decide_eq_true h2]; rfl
theorem vidR_no {P : Int} {sq vs : List Int} (h : codeA P sq [vs] = 0) (h1 : (decide (vs = partG vs 1) && decide (0 < vrtL P sq sq.length vs)) = false) : vidR P sq vs = ([], 5) := by unfold vidR; rw [if_pos h, h1]; rfl
theorem vidR_bad {P : Int} {sq vs : List Int} (h : ¬ codeA P sq [vs] = 0) : vidR P sq vs = ([], codeA P sq [vs]) := by unfold vidR; rw [if_neg h]
theorem vrt_small {P : Int} (hp : 2 ≤ P) (sq : List Int) (n : Nat) (vs : List Int) : vrtL P sq n vs < P := by
 unfold vrtL
 cases hr : rootF P (pairL P sq (partL n vs) (partL n vs)) P.toNat 0 with
 | none => simp only [rootI]; omega
 | some r => have := (rootF_spec P _ _ _ _ hr).2.1; simp only [rootI]; omega
set_option maxHeartbeats 6400000 in
set_option maxRecDepth 8000 in
theorem specVectorIdempotent_any (P : Int) (A : Option Addr) (n c : Nat) (sq : List Int) (X : Option Addr) (m cx : Nat) (xs : List Int) (w : World) (hn : n ≤ 1048576) (hm : m ≤ 1048576) (ha : Rd w A n (ints sq)) (hx : Rd w X m (ints xs)) (hcx : m ≤ cx) :
    Calls Tryz.prog 70 #[.agg #[.int .i64 P, .slice A n c], .slice X m cx] w fun e w' => ∃ (A' : Option Addr) (k c' : Nat), e = .returned (.tuple #[.slice A' k c', .int .i64 (vidR P sq xs).2]) ∧ MkI w w' A' k c' (vidR P sq xs).1 := by
 have hB0 : Below w.heap.size w (w.alloc (.cells #[.int .i64 P, .slice A n c] 26)) := zG.alloc (Nat.le_refl _) _
 have k0 : Blk (w.alloc (.cells #[.int .i64 P, .slice A n c] 26)) w.heap.size 26 #[.int .i64 P, .slice A n c] := Blk.new _ _ _
 have hB1 : Below w.heap.size w ((w.alloc (.cells #[.int .i64 P, .slice A n c] 26)).alloc (.cells #[.slice X m cx] 24)) := hB0.alloc (by simp) _
 have k1 : Blk ((w.alloc (.cells #[.int .i64 P, .slice A n c] 26)).alloc (.cells #[.slice X m cx] 24)) w.heap.size 26 #[.int .i64 P, .slice A n c] := k0.alloc _
 have hreg := l09Code_any P A (some ⟨w.heap.size + 1, 0, none⟩) n c 1 1 sq [xs] ((w.alloc (.cells #[.int .i64 P, .slice A n c] 26)).alloc (.cells #[.slice X m cx] 24)) hn (by omega) (ha.below hB1) (rdII_one' (Blk.newAt3 (by simp)) (hx.below hB1) hcx) (all_one (by rw [hx.lenI]; exact hm))
 by_cases hr0 : codeA P sq [xs] = 0
 · rw [hr0] at hreg
   obtain ⟨hcM, h4⟩ := codeA_zero hr0
   obtain ⟨HP, hp, hp2, hd1, hd2, hs, hms⟩ := codeM_spec3 hcM
   obtain ⟨hx1, hxs⟩ := hms xs (by simp)
   have hsl := ha.lenI
   have hmn : m = pw n := by rw [← hx.lenI, hx1, hsl]
   subst hmn
   have hn4 : n ≤ 4 := by omega
   have hpw : pw n ≤ 16 := pw_le hn4
   have hpn := pw_pos n
   have hp3 := (isP_ge HP).1
   have HS := Lib.hid hs
   have HXS := Lib.hid hxs
   have HPP := Lib.hid HP
   have HR0 := Lib.hid hr0
   have HSL := Lib.hid hsl
   have HLN : Hid (NumsL P (partL n xs)) := Lib.hid (partL_nums (by omega) n xs hxs)
   obtain ⟨rt, hrt⟩ : ∃ r, r = vrtL P sq n xs := ⟨_, rfl⟩
   have HRT : Hid (rootI (rootF P (pairL P sq (partL n xs) (partL n xs)) P.toNat 0) = rt) := Lib.hid hrt.symm
   have HRE := Lib.hid hrt
   have HRS : Hid (rt < P) := Lib.hid (by rw [hrt]; exact vrt_small hp sq n xs)
   clear hsl hs hxs hx1 hms hd1 hd2 h4 hcM hr0 HP hrt
   go_enter Tryz.func70, Tryz.ntmps70
   go_wp2_with fail
   refine hreg.mono ?_
   rintro e w2 ⟨rfl, hb2⟩
   have hB2 := hB1.trans (hb2.mono hB1.size)
   have k2 := k1.below hb2 k1.lt
   clear k0 k1 hreg hb2 hB0 hB1
   obtain ⟨q0, q1⟩ := k2.two
   go_wp2_with fail
   refine (l04List_any P A n c X cx xs w2 (by omega) (hx.below hB2)).mono ?_
   rintro e w3 ⟨AL, cL, rfl, hL3⟩
   have hB3 := hB2.trans (hL3.b.mono hB2.size)
   have k3 := k2.below hL3.b k2.lt
   have HB3 := Lib.hid hB3
   have HL3 : Hid (MkI w2 w3 AL n cL (partL n xs)) := Lib.hid hL3
   clear k2 hB2 hL3 q0 q1
   obtain ⟨q0, q1⟩ := k3.two
   go_wp2
   refine wp_obs 8 [[],[0],[],[],[],[2,3,4],[0,1,2,3,4,5],[0,1,2,3,4,5,6]] [VIs (.pointer (some ⟨w.heap.size, 0, none⟩)), VIs (.int .i64 (P)), VIs (.agg #[.int .i64 P, .slice A n c]), VIs (.slice AL n cL), VIs (.slice AL n cL), VIs (.int .i64 (pairL P sq (partL n xs) (partL n xs))), VIs (.int .i64 (rt)), VIs (.int .i64 (rt))] (fun w' => Blk w' w.heap.size 26 #[.int .i64 P, .slice A n c] ∧ Below w3.heap.size w3 w') (by kernel_rfl) (by kernel_rfl) (fun _ _ h hb => ⟨h.1.below hb h.1.lt, h.2.trans (hb.mono h.2.size)⟩) (⟨k3.drew, zG.drew⟩) (fun x => ?_)
   refine zS (fun w' hS hV K hK => ?_) ?_
   · obtain ⟨q0, q1⟩ := hS.1.two; go_simp; exact zO hK
   refine zS (fun w' hS hV K hK => ?_) ?_
   · have e0 := zQ hV 0; obtain ⟨q0, q1⟩ := hS.1.two; go_simp; exact zO hK
   refine zS (fun w' hS hV K hK => ?_) ?_
   · obtain ⟨q0, q1⟩ := hS.1.two; go_simp; exact zO hK
   refine zS (fun w' hS hV K hK => ?_) ?_
   · obtain ⟨q0, q1⟩ := hS.1.two; go_simp; exact zO hK
   refine zS (fun w' hS hV K hK => ?_) ?_
   · obtain ⟨q0, q1⟩ := hS.1.two; go_simp; exact zO hK
   refine zS (fun w' hS hV K hK => ?_) ?_
   · have e2 := zQ hV 2; have e3 := zQ hV 3; have e4 := zQ hV 4; obtain ⟨q0, q1⟩ := hS.1.two; go_simp; refine (l03Pair_any P A n c sq AL cL (partL n xs) AL cL (partL n xs) w' hp hp2 (by omega) (ha.below (HB3.out.trans (hS.2.mono HB3.out.size))) HS.out (HL3.out.rd.below hS.2) HLN.out (HL3.out.rd.below hS.2) HLN.out).mono ?_; rintro e v1 ⟨rfl, hb⟩; exact hK.out _ _ _ rfl rfl rfl hb
   refine zS (fun w' hS hV K hK => ?_) ?_
   · have e1 := zQ hV 1; have e5 := zQ hV 5; obtain ⟨q0, q1⟩ := hS.1.two; go_simp; refine (l01Root_any P (pairL P sq (partL n xs) (partL n xs)) w' hp hp2).mono ?_; rintro e v1 ⟨rfl, rfl⟩; rw [HRT.out]; exact zO hK
   refine zS (fun w' hS hV K hK => ?_) ?_
   · have e6 := zQ hV 6; obtain ⟨q0, q1⟩ := hS.1.two; go_simp; exact zO hK
   refine fun w' hS hV => ?_
   have e0 := zT hV 0
   have e1 := zT hV 1
   have e2 := zT hV 2
   have e3 := zT hV 3
   have e4 := zT hV 4
   have e5 := zT hV 5
   have e6 := zT hV 6
   have e7 := zT hV 7
   simp only [e0, e1, e2, e3, e4, e5, e6, e7]
   clear e0 e1 e2 e3 e4 e5 e6 e7
   refine wpAny_done (by kernel_rfl) ?_ _
   have hb4 := hS.2
   have k4 := hS.1
   have hB4 := hB3.trans (hb4.mono hB3.size)
   obtain ⟨w4, hw4⟩ : ∃ W, W = w' := ⟨_, rfl⟩
   rw [← hw4] at hb4 k4 hB4 ⊢
   clear hS hw4 k3 q0 q1 hB3 hb4 HL3 HB3
   have hpt := l04Part_any X (pw n) cx xs 1 w4 (by omega) (by omega) (hx.below hB4)
   go_wp2_with fail
   refine hpt.mono ?_
   rintro e w5 ⟨A5, c5, rfl, hM5⟩
   have hB5 := hB4.trans (hM5.b.mono hB4.size)
   have k5 := k4.below hM5.b k4.lt
   obtain ⟨sb, hsb⟩ : ∃ b, b = decide (xs = partG xs 1) := ⟨_, rfl⟩
   have hsm := l01Same_b X A5 (pw n) (pw n) cx c5 xs (partG xs 1) w5 (by omega) (by omega) (hx.below hB5) hM5.rd hsb.symm
   have HSB := Lib.hid hsb.symm
   clear hpt k4 hB4 hsb
   go_wp2_with fail
   refine hsm.mono ?_
   rintro e w6 ⟨rfl, j6, rfl⟩
   have hb6 := below_drewN (Below.refl w5.heap.size w5) j6
   have hB6 := hB5.trans (hb6.mono hB5.size)
   have k6 := k5.below hb6 k5.lt
   obtain ⟨w7, hw7⟩ : ∃ W, W = w5.drewN j6 := ⟨_, rfl⟩
   rw [← hw7] at hB6 k6 ⊢
   clear hw7 hsm hM5 k5 hB5 hb6
   cases sb
   · have HNO : Hid (vidR P sq xs = ([], 5)) := Lib.hid (by rw [vidR_no HR0.out (by rw [HSB.out]; rfl)])
     go_wp2
     go_ret2
     exact noRow3 HNO.out hB6
   · by_cases hr : rt ≤ 0
     · have d0 : decide (rt ≤ 0) = true := by simpa using hr
       have HNO : Hid (vidR P sq xs = ([], 5)) := Lib.hid (by rw [vidR_no HR0.out (by rw [HSL.out, ← HRE.out, HSB.out, show decide (0 < rt) = false from decide_eq_false (by omega)]; rfl)])
       go_wp2
       go_ret2
       exact noRow3 HNO.out hB6
     · have d0 : decide (rt ≤ 0) = false := by simp; omega
       have HRP : Hid (0 < rt) := Lib.hid (by omega)
       have hin := l01Inv_any P 2 w7 HPP.out (by omega) (by omega)
       obtain ⟨hf, hhf⟩ : ∃ f, f = invF P 2 := ⟨_, rfl⟩
       obtain ⟨iv, hiv⟩ : ∃ f, f = invF P rt := ⟨_, rfl⟩
       obtain ⟨f1, f2, -⟩ := inv_spec HPP.out (show (0 : Int) < 2 by omega) (by omega)
       obtain ⟨g1, g2, -⟩ := inv_spec HPP.out HRP.out HRS.out
       rw [← hhf] at hin f1 f2
       rw [← hiv] at g1 g2
       have HIV : Hid (invF P rt = iv) := Lib.hid hiv.symm
       have HHF : Hid (0 ≤ hf ∧ hf < P) := Lib.hid ⟨by omega, f2⟩
       have hm0 : 0 ≤ hf * iv := Int.mul_nonneg (by omega) (by omega)
       have hm1 : hf * iv ≤ 13 * 13 := Int.mul_le_mul (by omega) (by omega) (by omega) (by omega)
       have HW9 : Hid (IntKind.i64.wrap (hf * iv) = hf * iv) := Lib.hid (i64_fit _ (by omega) (by omega))
       have HW8 : Hid ((hf * iv).tmod P = hf * iv % P) := Lib.hid (Int.tmod_eq_emod_of_nonneg hm0)
       have HMD : Hid (0 ≤ hf * iv % P ∧ hf * iv % P ≤ 1000) := Lib.hid ⟨Int.emod_nonneg _ (by omega), by have := Int.emod_lt_of_pos (hf * iv) (show 0 < P by omega); omega⟩
       have HB7 := Lib.hid hB6
       have HOK : Hid (vidR P sq xs = (plusL P (scaleL P (bladeL n 0) hf) xs (hf * iv % P), 0)) := Lib.hid (by
        rw [vidR_ok HR0.out HSB.out (by rw [HSL.out, ← HRE.out]; exact HRP.out), HSL.out]
        unfold vidL
        rw [← HRE.out, HIV.out, ← hhf])
       clear hhf hiv f1 f2 g1 g2 hm0 hm1 hr
       obtain ⟨q0, q1⟩ := k6.two
       go_wp2_with fail
       refine hin.mono ?_
       rintro e w8 ⟨rfl, rfl⟩
       have k7 := k6
       clear hin
       go_wp2
       refine wp_obs 21 [[],[0],[],[2],[],[4],[],[2,3,4,5,6],[],[],[],[10],[],[10,11,12],[9,10,11,12,13],[],[15],[9,10,11,12,13,14,15,16],[0,1,2,3,4,5,6,7,8,9,10,11,12,13,14,15,16,17],[0,1,2,3,4,5,6,7,8,9,10,11,12,13,14,15,16,17,18],[]] [VIs (.pointer (some ⟨w.heap.size, 0, none⟩)), VIs (.int .i64 (P)), VIs (.pointer (some ⟨w.heap.size, 0, none⟩)), VIs (.int .i64 (P)), VIs (.agg #[.int .i64 P, .slice A n c]), VSl w7 (pw n) (bladeL n 0), VIs (.int .i64 (hf)), VSl w7 (pw n) (scaleL P (bladeL n 0) hf), VIs (.slice X (pw n) cx), VIs (.int .i64 (hf)), VIs (.pointer (some ⟨w.heap.size, 0, none⟩)), VIs (.int .i64 (P)), VIs (.int .i64 (rt)), VIs (.int .i64 (iv)), VIs (.int .i64 (hf * iv)), VIs (.pointer (some ⟨w.heap.size, 0, none⟩)), VIs (.int .i64 (P)), VIs (.int .i64 (hf * iv % P)), VSl w7 (pw n) (plusL P (scaleL P (bladeL n 0) hf) xs (hf * iv % P)), VSl w7 (pw n) (plusL P (scaleL P (bladeL n 0) hf) xs (hf * iv % P)), VIs (.int .i64 0)] (fun w' => Blk w' w.heap.size 26 #[.int .i64 P, .slice A n c] ∧ Below w7.heap.size w7 w') (by kernel_rfl) (by kernel_rfl) (fun _ _ h hb => ⟨h.1.below hb h.1.lt, h.2.trans (hb.mono h.2.size)⟩) (⟨k7.drew, zG.drew⟩) (fun x => ?_)
       refine zS (fun w' hS hV K hK => ?_) ?_
       · obtain ⟨q0, q1⟩ := hS.1.two; go_simp; exact zO hK
       refine zS (fun w' hS hV K hK => ?_) ?_
       · have e0 := zQ hV 0; obtain ⟨q0, q1⟩ := hS.1.two; go_simp; exact zO hK
       refine zS (fun w' hS hV K hK => ?_) ?_
       · obtain ⟨q0, q1⟩ := hS.1.two; go_simp; exact zO hK
       refine zS (fun w' hS hV K hK => ?_) ?_
       · have e2 := zQ hV 2; obtain ⟨q0, q1⟩ := hS.1.two; go_simp; exact zO hK
       refine zS (fun w' hS hV K hK => ?_) ?_
       · obtain ⟨q0, q1⟩ := hS.1.two; go_simp; exact zO hK
       refine zS (fun w' hS hV K hK => ?_) ?_
       · have e4 := zQ hV 4; obtain ⟨q0, q1⟩ := hS.1.two; go_simp; refine (l04One_any P A n c w' (by omega)).mono ?_; rintro e v1 ⟨A2, c2, rfl, hM⟩; exact hK.out _ _ _ rfl rfl ⟨_, _, rfl, hM.after hS.2⟩ hM.b
       refine zS (fun w' hS hV K hK => ?_) ?_
       · obtain ⟨q0, q1⟩ := hS.1.two; go_simp; exact zO hK
       refine zS (fun w' hS hV K hK => ?_) ?_
       · have e3 := zQ hV 3; obtain ⟨A5, c5, e5, h5⟩ := hV 5 (by decide); have e6 := zQ hV 6; obtain ⟨q0, q1⟩ := hS.1.two; go_simp; refine (l02Scale_any P A5 (pw n) c5 hf (bladeL n 0) w' hp hp2 (by omega) h5.rd (bladeL_nums hp _ _) HHF.out.1 (by have := HHF.out.2; omega)).mono ?_; rintro e v1 ⟨A2, c2, rfl, hM⟩; exact hK.out _ _ _ rfl rfl ⟨_, _, rfl, hM.after hS.2⟩ hM.b
       refine zS (fun w' hS hV K hK => ?_) ?_
       · obtain ⟨q0, q1⟩ := hS.1.two; go_simp; exact zO hK
       refine zS (fun w' hS hV K hK => ?_) ?_
       · obtain ⟨q0, q1⟩ := hS.1.two; go_simp; exact zO hK
       refine zS (fun w' hS hV K hK => ?_) ?_
       · obtain ⟨q0, q1⟩ := hS.1.two; go_simp; exact zO hK
       refine zS (fun w' hS hV K hK => ?_) ?_
       · have e10 := zQ hV 10; obtain ⟨q0, q1⟩ := hS.1.two; go_simp; exact zO hK
       refine zS (fun w' hS hV K hK => ?_) ?_
       · obtain ⟨q0, q1⟩ := hS.1.two; go_simp; exact zO hK
       refine zS (fun w' hS hV K hK => ?_) ?_
       · have e11 := zQ hV 11; have e12 := zQ hV 12; obtain ⟨q0, q1⟩ := hS.1.two; go_simp; have hiv := l01Inv_any P rt w' HPP.out HRP.out HRS.out; rw [HIV.out] at hiv; refine hiv.mono ?_; rintro e v1 ⟨rfl, rfl⟩; exact zO hK
       refine zS (fun w' hS hV K hK => ?_) ?_
       · have e9 := zQ hV 9; have e13 := zQ hV 13; obtain ⟨q0, q1⟩ := hS.1.two; have W9 := HW9.out; go_simp; exact zO hK
       refine zS (fun w' hS hV K hK => ?_) ?_
       · obtain ⟨q0, q1⟩ := hS.1.two; go_simp; exact zO hK
       refine zS (fun w' hS hV K hK => ?_) ?_
       · have e15 := zQ hV 15; obtain ⟨q0, q1⟩ := hS.1.two; go_simp; exact zO hK
       refine zS (fun w' hS hV K hK => ?_) ?_
       · have e14 := zQ hV 14
         have e16 := zQ hV 16
         obtain ⟨q0, q1⟩ := hS.1.two
         have W8 := HW8.out
         have P0 : ¬ P = 0 := by omega
         go_simp
         exact zO hK
       refine zS (fun w' hS hV K hK => ?_) ?_
       · have e1 := zQ hV 1; obtain ⟨A5, c5, e5, h5⟩ := hV 5 (by decide); obtain ⟨A7, c7, e7, h7⟩ := hV 7 (by decide); have e8 := zQ hV 8; have e17 := zQ hV 17; obtain ⟨q0, q1⟩ := hS.1.two; go_simp; refine (l02Plus_any P A7 (pw n) c7 X (pw n) cx (hf * iv % P) (scaleL P (bladeL n 0) hf) xs w' hp hp2 (by omega) (Nat.le_refl _) h7.rd (scaleL_nums (by omega) _ _) (hx.below (HB7.out.trans (hS.2.mono HB7.out.size))) HXS.out HMD.out.1 HMD.out.2).mono ?_; rintro e v1 ⟨A2, c2, rfl, hM⟩; exact hK.out _ _ _ rfl rfl ⟨_, _, rfl, hM.after hS.2⟩ hM.b
       refine zS (fun w' hS hV K hK => ?_) ?_
       · obtain ⟨A5, c5, e5, h5⟩ := hV 5 (by decide); obtain ⟨A7, c7, e7, h7⟩ := hV 7 (by decide); obtain ⟨A18, c18, e18, h18⟩ := hV 18 (by decide); obtain ⟨q0, q1⟩ := hS.1.two; go_simp; exact hK.out _ _ _ rfl rfl ⟨_, _, rfl, h18⟩ zG
       refine zS (fun w' hS hV K hK => ?_) ?_
       · obtain ⟨q0, q1⟩ := hS.1.two; go_simp; exact zO hK
       refine fun w' hS hV => ?_
       have e0 := zT hV 0
       have e1 := zT hV 1
       have e2 := zT hV 2
       have e3 := zT hV 3
       have e4 := zT hV 4
       obtain ⟨A5, c5, e5, h5⟩ := hV 5 (by decide)
       have e6 := zT hV 6
       obtain ⟨A7, c7, e7, h7⟩ := hV 7 (by decide)
       have e8 := zT hV 8
       have e9 := zT hV 9
       have e10 := zT hV 10
       have e11 := zT hV 11
       have e12 := zT hV 12
       have e13 := zT hV 13
       have e14 := zT hV 14
       have e15 := zT hV 15
       have e16 := zT hV 16
       have e17 := zT hV 17
       obtain ⟨A18, c18, e18, h18⟩ := hV 18 (by decide)
       obtain ⟨A19, c19, e19, h19⟩ := hV 19 (by decide)
       have e20 := zT hV 20
       simp only [e0, e1, e2, e3, e4, e5, e6, e7, e8, e9, e10, e11, e12, e13, e14, e15, e16, e17, e18, e19, e20]
       clear e0 e1 e2 e3 e4 e5 e6 e7 e8 e9 e10 e11 e12 e13 e14 e15 e16 e17 e18 e19 e20
       refine wpAny_done (by kernel_rfl) ?_ _
       go_wp2
       go_ret2
       have hM9 := h19.after hB6
       rw [HOK.out]
       exact ⟨_, _, _, rfl, hM9⟩
 · obtain ⟨r, hr⟩ : ∃ r, r = codeA P sq [xs] := ⟨_, rfl⟩
   have HR := Lib.hid hr
   have HR0 := Lib.hid hr0
   have b0 : (r != 0) = true := code_ne (by rw [hr]; exact hr0)
   rw [← hr] at hreg
   clear hr hr0
   go_enter Tryz.func70, Tryz.ntmps70
   go_wp2_with fail
   refine hreg.mono ?_
   rintro e w2 ⟨rfl, hb2⟩
   have hB2 := hB1.trans (hb2.mono hB1.size)
   go_wp2
   go_ret2
   exact noRow3 (by rw [vidR_bad HR0.out, HR.out]) hB2
/-- A space and a list, drawn. -/
def Drew1 (w : World) (e : Ending) (w' : World) : Prop := ∃ (P : Int) (A : Option Addr) (n c : Nat) (sq : List Int) (A1 : Option Addr) (m1 c1 : Nat) (xs : List Int), e = .returned (.tuple #[.agg #[.int .i64 P, .slice A n c], .slice A1 m1 c1]) ∧ P ≤ 17 ∧ n ≤ 7 ∧ m1 ≤ 100 ∧ Own w' w.heap.size 2 A n c (ints sq) ∧ Own w' w.heap.size 2 A1 m1 c1 (ints xs) ∧ Below w.heap.size w w'
theorem vidL_ok {P : Int} (hp : 2 ≤ P) (sq : List Int) (n : Nat) (vs : List Int) : (vidL P sq n vs).length = pw n ∧ NumsL P (vidL P sq n vs) := by
 unfold vidL
 exact ⟨by rw [plusL_len, scaleL_len, bladeL_len], plusL_nums (by omega) _ _ _⟩
theorem vidR_zero {P : Int} {sq vs : List Int} (h : (vidR P sq vs).2 = 0) : (vidR P sq vs).1 = vidL P sq sq.length vs := by
 unfold vidR at h ⊢
 by_cases h1 : codeA P sq [vs] = 0
 · rw [if_pos h1] at h ⊢
   cases h2 : (decide (vs = partG vs 1) && decide (0 < vrtL P sq sq.length vs))
   · rw [h2] at h; simp at h
   · rfl
 · rw [if_neg h1] at h; exact absurd h h1
/-- The value is a tuple of a list, made since the heap had B blocks, and a code; where the code is 0 the list is a multivector. -/
def VTc (B : Nat) (P : Int) (n : Nat) : VP := ⟨fun v w => ∃ (A : Option Addr) (k c : Nat) (xs : List Int) (z : Int), v = .tuple #[.slice A k c, .int .i64 z] ∧ Own w B 2 A k c (ints xs) ∧ (z = 0 → xs.length = pw n ∧ NumsL P xs), fun _ _ _ ⟨A, k, c, xs, z, e, h, hz⟩ hb => ⟨A, k, c, xs, z, e, h.below hb, hz⟩⟩
/-- The parts of a tuple. -/
def tupA : Value → Value
 | .tuple vs => vs.getD 0 undef
 | v => v
def tupB : Value → Value
 | .tuple vs => vs.getD 1 undef
 | v => v
set_option maxHeartbeats 12800000 in
set_option maxRecDepth 8000 in
theorem l09Draw_any (B : Option Addr) (nb cb : Nat) (bs : List Int) (w : World) (hnb : nb ≤ 4096) (r : Rd w B nb (bs.map (Value.int .u8))) (hbs : ∀ b ∈ bs, 0 ≤ b ∧ b < 256) (hbg : ∀ a, B = some a → a.block < w.heap.size) :
    Calls Tryz.prog 148 #[.slice B nb cb] w (Drew1 w) := by
 have hB0 : Below w.heap.size w (w.alloc (.cells #[.int .i64 0, .slice none 0 0] 26)) := zG.alloc (Nat.le_refl _) _
 have k0 : Blk (w.alloc (.cells #[.int .i64 0, .slice none 0 0] 26)) w.heap.size 26 #[.int .i64 0, .slice none 0 0] := Blk.new _ _ _
 have hfr := from__any B nb cb bs (w.alloc (.cells #[.int .i64 0, .slice none 0 0] 26)) hnb (r.below hB0) hbs (fun a e => by have := hbg a e; simp; omega)
 go_enter Tryz.func148, Tryz.ntmps148
 go_wp2_with fail
 refine hfr.mono ?_
 rintro e w2 ⟨g, rfl, hg, hs2, hb2⟩
 have k2 := k0.below hb2 k0.lt
 have hB2 := hB0.trans (hb2.mono hB0.size)
 have hw := hB2.size
 have hgw : w.heap.size ≤ g := Nat.le_trans hB0.size hg
 clear hfr hb2 k0 hB0 hg
 have d1 := (Dr.refl hs2).alloc (.cells #[.int .i64 2, .int .i64 3, .int .i64 3, .int .i64 4] 2)
 have hpk := pick_any g w2.heap.size [2, 3, 3, 4] _ d1.s' (Blk.new w2 2 _) (by decide) (by decide)
 replace k2 := k2.alloc (.cells #[.int .i64 2, .int .i64 3, .int .i64 3, .int .i64 4] 2)
 go_wp2_with fail
 refine hpk.mono ?_
 rintro e w3 ⟨r0, hr0, rfl, hd3⟩
 have hr1 : 2 ≤ r0 ∧ r0 ≤ 4 := by simp at hr0; omega
 obtain ⟨mn, rfl⟩ : ∃ mn : Nat, r0 = mn := ⟨r0.toNat, by omega⟩
 replace d1 := d1.trans hd3
 replace k2 := k2.dr hd3 (by decide)
 have han := l03Any_any g mn w3 d1.s' (by omega) (by omega)
 clear hpk hd3 hr0
 go_wp2_with fail
 refine han.mono ?_
 rintro e w4 ⟨P, A, n, c, sq, rfl, hP3, hP13, hn1, hn2, hO, hd4⟩
 have oq := (hO.base (Nat.le_trans hw d1.size)).below (zG.alloc (Nat.le_refl _) (.cells #[.int .i64 P, .slice A n c] 26))
 have k5 := Blk.new w4 26 #[.int .i64 P, .slice A n c]
 have kr := (k2.dr hd4 (by decide)).alloc (.cells #[.int .i64 P, .slice A n c] 26)
 have d := (d1.trans hd4).alloc (.cells #[.int .i64 P, .slice A n c] 26)
 have hb5 : w2.heap.size ≤ w4.heap.size := (d1.trans hd4).size
 have hb6 : w.heap.size < w4.heap.size := Nat.lt_of_lt_of_le (show w.heap.size < w3.heap.size from k2.lt) hd4.size
 have hnx := next_any g 16 _ d.s' (by omega)
 clear han hO hd4 d1 k2
 go_wp2_with fail
 refine hnx.mono ?_
 rintro e w5 ⟨r16, rfl, _, _, hd5⟩
 replace k5 := k5.dr hd5 (by decide)
 replace kr := kr.dr hd5 (by decide)
 replace oq := oq.dr hd5 (by decide)
 replace d := d.trans hd5
 obtain ⟨b5, hb5e⟩ : ∃ b, b = w4.heap.size := ⟨_, rfl⟩
 rw [← hb5e] at k5 hb5 hb6 ⊢
 clear hnx hd5 hb5e
 have hP : P ≤ 17 := by omega
 have hn : n ≤ 7 := by omega
 clear hP3 hP13 hn1 hn2 hr1
 by_cases h16 : r16 = 0
 · have e16 : (r16 == 0) = true := by simp [h16]
   have hsp := l03Spoil_any g w5 d.s'
   go_wp2_with fail
   refine hsp.mono ?_
   clear oq
   rintro e w6 ⟨P, A, n, c, sq, rfl, hP, hn, hO', hd6⟩
   replace k5 := k5.dr hd6 (by decide)
   replace kr := kr.dr hd6 (by decide)
   have oq := hO'.base (Nat.le_trans hw d.size)
   replace d := d.trans hd6
   obtain ⟨q0, q1⟩ := k5.two
   have f0 := k5.frozen 0
   have f1 := k5.frozen 1
   clear hsp hO' hd6
   have kr9 := (kr.far (p := ⟨b5, 0, none⟩) (show w.heap.size ≠ b5 by omega) (.int .i64 P)).far (p := ⟨b5, 1, none⟩) (show w.heap.size ≠ b5 by omega) (.slice A n c)
   have oq9 := (oq.far k5 (by decide) 0 (.int .i64 P)).far (k5.set_ 0 (.int .i64 P)) (by decide) 1 (.slice A n c)
   have d9 := (d.setNew hb5 0 (.int .i64 P)).setNew hb5 1 (.slice A n c)
   have k9 := k5.stored (p' := P) (A' := A) (n' := n) (c' := c)
   go_wp2_with fail
   obtain ⟨wz, hwz⟩ : ∃ W, W = (w6.setCell ⟨b5, 0, none⟩ (.int .i64 P)).setCell ⟨b5, 1, none⟩ (.slice A n c) := ⟨_, rfl⟩
   rw [← hwz] at k9 kr9 oq9 d9 ⊢
   clear k5 kr oq d q0 q1 f0 f1 hwz
   have k5 := k9
   have kr := kr9
   have oq := oq9
   have d := d9
   clear k9 kr9 oq9 d9 e16 h16
   have hsp := l04Spoil_any g P A n c sq wz d.s' (by omega) (oq.base (Nat.zero_le _))
   refine hsp.mono ?_
   rintro e w9 ⟨X, m, cx, rfl, hm, ⟨xs, ho9⟩, hd9⟩
   have ox := ho9.base (Nat.le_trans hw d.size)
   replace k5 := k5.dr hd9 (by decide)
   replace kr := kr.dr hd9 (by decide)
   replace oq := oq.dr hd9 (by decide)
   replace d := d.trans hd9
   clear hsp ho9 hd9
   obtain ⟨q0, q1⟩ := k5.two
   cases hmu : (isSp P sq && isMu P sq xs)
   · have hi := l04Is_b P A X n c m cx sq xs w9 (by omega) (by omega) oq.rd ox.rd hmu
     clear hmu
     go_wp2_with fail
     refine hi.mono ?_
     rintro e w10 ⟨rfl, hb⟩
     replace k5 := k5.below hb k5.lt
     replace kr := kr.below hb kr.lt
     replace oq := oq.below hb
     replace ox := ox.below hb
     replace d := d.then hb
     clear hi hb q0 q1
     obtain ⟨q0, q1⟩ := k5.two
     obtain ⟨p0, p1⟩ := kr.two
     have f0 := kr.frozen 0
     have f1 := kr.frozen 1
     go_wp2
     exact bodyPost_ret (v := .tuple #[.agg #[.int .i64 P, .slice A n c], .slice X m cx]) (by simp [results, Tryz.results148, go_sem, p0, p1]) rfl ⟨P, A, n, c, sq, X, m, cx, xs, rfl, hP, hn, by omega, (oq.far kr (by decide) 0 _).far (kr.set_ 0 (.int .i64 P)) (by decide) 1 _, (ox.far kr (by decide) 0 _).far (kr.set_ 0 (.int .i64 P)) (by decide) 1 _, hB2.trans (((d.b.mono hgw).setCell (p := ⟨w.heap.size, 0, none⟩) (Nat.le_refl _) _).setCell (p := ⟨w.heap.size, 1, none⟩) (Nat.le_refl _) _)⟩
   · have hi := l04Is_b P A X n c m cx sq xs w9 (by omega) (by omega) oq.rd ox.rd hmu
     have HM : Hid (isP P = true ∧ n ≤ 6 ∧ NumsL P sq ∧ xs.length = pw n ∧ NumsL P xs) := Lib.hid (by
      rw [Bool.and_eq_true] at hmu
      obtain ⟨g1, g2, g3, g4⟩ := isSp_dim hmu.1
      have g5 := hmu.2
      unfold isMu at g5
      rw [Bool.and_eq_true, beq_iff_eq] at g5
      rw [oq.rd.lenI] at g3
      exact ⟨g1, g3, nums_numsL g4, by have := g5.1; rw [oq.rd.lenI] at this; omega, nums_numsL g5.2⟩)
     clear hmu
     go_wp2_with fail
     refine hi.mono ?_
     rintro e w10 ⟨rfl, hb⟩
     replace k5 := k5.below hb k5.lt
     replace kr := kr.below hb kr.lt
     replace oq := oq.below hb
     replace ox := ox.below hb
     replace d := d.then hb
     clear hi hb q0 q1
     obtain ⟨hp3, hp2⟩ := isP_ge HM.out.1
     have HP2 : Hid (2 ≤ P) := Lib.hid (by omega)
     have HSL : Hid (sq.length = n) := Lib.hid oq.rd.lenI
     obtain ⟨q0, q1⟩ := k5.two
     by_cases h4 : n ≤ 4
     · have d4 : decide ((n : Int) ≤ 4) = true := by simp; omega
       have hnx := next_any g 3 w10 d.s' (by omega)
       go_wp2_with fail
       refine hnx.mono ?_
       rintro e w11 ⟨r3, rfl, _, _, hd3⟩
       replace k5 := k5.dr hd3 (by decide)
       replace kr := kr.dr hd3 (by decide)
       replace oq := oq.dr hd3 (by decide)
       replace ox := ox.dr hd3 (by decide)
       replace d := d.trans hd3
       clear hnx hd3 q0 q1
       by_cases h3 : r3 = 0
       · have e3 : (r3 == 0) = true := by simp [h3]
         have hpw : pw n ≤ 16 := pw_le h4
         obtain ⟨q0, q1⟩ := k5.two
         go_wp2
         refine wp_obsR 16 (Dr g 144) [[], [], [], [], [3], [], [5], [5, 6], [2, 3, 4, 5, 6, 7], [1, 2, 3, 4, 5, 6, 7, 8], [0, 1, 2, 3, 4, 5, 6, 7, 8, 9], [0, 1, 2, 3, 4, 5, 6, 7, 8, 9, 10], [0, 1, 2, 3, 4, 5, 6, 7, 8, 9, 10, 11], [0, 1, 2, 3, 4, 5, 6, 7, 8, 9, 10, 11], [0, 1, 2, 3, 4, 5, 6, 7, 8, 9, 10, 11, 12], [0, 1, 2, 3, 4, 5, 6, 7, 8, 9, 10, 11, 13]] [[], [], [], [], [], [], [], [], [99], [], [], [], [], [], [], []] (fun x => [VIs (.agg #[.int .i64 P, .slice A n c]), VIs (.agg #[.int .i64 P, .slice A n c]), VIs (.pointer (some ⟨g, 0, none⟩)), VIs (.pointer (some ⟨b5, 0, none⟩)), VIs (.int .i64 (P)), VIs (.pointer (some ⟨b5, 1, none⟩)), VIs (.slice A n c), VIs (.int .i64 (n)), VLs w.heap.size n P, VLs w.heap.size (pw n) P, VTc w.heap.size P n, VTc w.heap.size P n, VIs (tupA (x 11)), VIs (tupB (x 11)), VIs (tupA (x 11)), VIs (tupB (x 11))]) (fun w' => Blk w' b5 26 #[.int .i64 P, .slice A n c] ∧ Blk w' w.heap.size 26 #[.int .i64 0, .slice none 0 0] ∧ Own w' w.heap.size 2 A n c (ints sq) ∧ Own w' w.heap.size 2 X m cx (ints xs) ∧ Dr g 144 w2 w') (by kernel_rfl) (by kernel_rfl) (fun x x' j hx => by
             rcases j with _ | _ | _ | _ | _ | _ | _ | _ | _ | _ | _ | _ | _ | _ | _ | _ | j
             · rfl
             · rfl
             · rfl
             · rfl
             · rfl
             · rfl
             · rfl
             · rfl
             · rfl
             · rfl
             · rfl
             · rfl
             · rw [hx 11 (by decide)]
             · rw [hx 11 (by decide)]
             · rw [hx 11 (by decide)]
             · rw [hx 11 (by decide)]
             · rfl)
          (weak_ofR [0, 1, 2, 3, 4, 5, 6, 7, 8, 12, 13, 14, 15] (by decide) (fun k hk x v w w' hp hr => by
           simp only [List.mem_cons, zJ, or_false] at hk
           rcases hk with rfl | rfl | rfl | rfl | rfl | rfl | rfl | rfl | rfl | rfl | rfl | rfl | rfl
           · exact hp
           · exact hp
           · exact hp
           · exact hp
           · exact hp
           · exact hp
           · exact hp
           · exact hp
           · exact VLs.dr hp hr (by decide)
           · exact hp
           · exact hp
           · exact hp
           · exact hp)) (fun j _ _ h hb => hb.either (fun hb => ⟨h.1.below hb h.1.lt, h.2.1.below hb h.2.1.lt, h.2.2.1.below hb, h.2.2.2.1.below hb, h.2.2.2.2.then hb⟩) (fun hr => ⟨h.1.dr hr (by decide), h.2.1.dr hr (by decide), h.2.2.1.dr hr (by decide), h.2.2.2.1.dr hr (by decide), h.2.2.2.2.trans hr⟩)) (⟨k5.drew, kr.drew, oq.below zG.drew, ox.below zG.drew, d.then zG.drew⟩) (fun x => ?_)
         refine zSR (fun w' hS hV K hK => ?_) ?_
         · obtain ⟨q0, q1⟩ := hS.1.two; go_simp; exact hK.out _ _ _ rfl rfl rfl zG
         refine zSR (fun w' hS hV K hK => ?_) ?_
         · obtain ⟨q0, q1⟩ := hS.1.two; go_simp; exact hK.out _ _ _ rfl rfl rfl zG
         refine zSR (fun w' hS hV K hK => ?_) ?_
         · obtain ⟨q0, q1⟩ := hS.1.two; go_simp; exact hK.out _ _ _ rfl rfl rfl zG
         refine zSR (fun w' hS hV K hK => ?_) ?_
         · obtain ⟨q0, q1⟩ := hS.1.two; go_simp; exact hK.out _ _ _ rfl rfl rfl zG
         refine zSR (fun w' hS hV K hK => ?_) ?_
         · have e3 := zQ hV 3; obtain ⟨q0, q1⟩ := hS.1.two; go_simp; exact hK.out _ _ _ rfl rfl rfl zG
         refine zSR (fun w' hS hV K hK => ?_) ?_
         · obtain ⟨q0, q1⟩ := hS.1.two; go_simp; exact hK.out _ _ _ rfl rfl rfl zG
         refine zSR (fun w' hS hV K hK => ?_) ?_
         · have e5 := zQ hV 5; obtain ⟨q0, q1⟩ := hS.1.two; go_simp; exact hK.out _ _ _ rfl rfl rfl zG
         refine zSR (fun w' hS hV K hK => ?_) ?_
         · have e6 := zQ hV 6; obtain ⟨q0, q1⟩ := hS.1.two; go_simp; exact hK.out _ _ _ rfl rfl rfl zG
         refine zSR (fun w' hS hV K hK => ?_) ?_
         · have e2 := zQ hV 2; have e4 := zQ hV 4; have e7 := zQ hV 7; obtain ⟨q0, q1⟩ := hS.1.two; go_simp; refine (nextList_any g P n w' hS.2.2.2.2.s' (by omega) (by omega)).mono ?_; rintro e v1 ⟨A9, c9, xs9, rfl, hl9, hx9, ho9, hd9⟩; exact hK.out _ _ _ rfl rfl ⟨_, _, xs9, rfl, hl9, nums_of (by omega) hx9, ho9.base (Nat.le_trans hw hS.2.2.2.2.size)⟩ (StepR.rel rfl hd9)
         refine zSR (fun w' hS hV K hK => ?_) ?_
         · have e1 := zQ hV 1; obtain ⟨A8, c8, X8, e8, l8, u8, h8⟩ := hV 8 (by decide); obtain ⟨q0, q1⟩ := hS.1.two; go_simp; refine (l04Vector_any P A n c A8 c8 X8 w' (by omega) h8.rd).mono ?_; rintro e v1 ⟨A9, c9, rfl, hM⟩; exact hK.out _ _ _ rfl rfl ⟨_, _, _, rfl, vecTo_len _ _ _, vecTo_nums (by omega) n X8 u8 n, hM.2.base (Nat.le_trans hw hS.2.2.2.2.size)⟩ hM.b
         refine zSR (fun w' hS hV K hK => ?_) ?_
         · have e0 := zQ hV 0; obtain ⟨A8, c8, X8, e8, l8, u8, h8⟩ := hV 8 (by decide); obtain ⟨A9, c9, X9, e9, l9, u9, h9⟩ := hV 9 (by decide); obtain ⟨q0, q1⟩ := hS.1.two; go_simp; refine (specVectorIdempotent_any P A n c sq A9 (pw n) c9 X9 w' (by omega) (by omega) hS.2.2.1.rd h9.rd h9.cap).mono ?_; rintro e v1 ⟨A9, k9, c9, rfl, hM⟩; exact hK.out _ _ _ rfl rfl ⟨_, _, _, _, _, rfl, hM.2.base (Nat.le_trans hw hS.2.2.2.2.size), fun hz => by rw [vidR_zero hz, HSL.out]; exact vidL_ok HP2.out sq n _⟩ hM.b
         refine zSR (fun w' hS hV K hK => ?_) ?_
         · obtain ⟨A8, c8, X8, e8, l8, u8, h8⟩ := hV 8 (by decide); obtain ⟨A9, c9, X9, e9, l9, u9, h9⟩ := hV 9 (by decide); obtain ⟨A10, k10, c10, X10, z10, e10, h10, y10⟩ := hV 10 (by decide); obtain ⟨q0, q1⟩ := hS.1.two; go_simp; exact hK.out _ _ _ rfl rfl ⟨_, _, _, _, _, rfl, h10, y10⟩ zG
         refine zSR (fun w' hS hV K hK => ?_) ?_
         · obtain ⟨A8, c8, X8, e8, l8, u8, h8⟩ := hV 8 (by decide); obtain ⟨A9, c9, X9, e9, l9, u9, h9⟩ := hV 9 (by decide); obtain ⟨A10, k10, c10, X10, z10, e10, h10, y10⟩ := hV 10 (by decide); obtain ⟨A11, k11, c11, X11, z11, e11, h11, y11⟩ := hV 11 (by decide); obtain ⟨q0, q1⟩ := hS.1.two; go_simp; exact hK.out _ _ _ rfl rfl (by rw [e11]; rfl) zG
         refine zSR (fun w' hS hV K hK => ?_) ?_
         · obtain ⟨A8, c8, X8, e8, l8, u8, h8⟩ := hV 8 (by decide); obtain ⟨A9, c9, X9, e9, l9, u9, h9⟩ := hV 9 (by decide); obtain ⟨A10, k10, c10, X10, z10, e10, h10, y10⟩ := hV 10 (by decide); obtain ⟨A11, k11, c11, X11, z11, e11, h11, y11⟩ := hV 11 (by decide); obtain ⟨q0, q1⟩ := hS.1.two; go_simp; exact hK.out _ _ _ rfl rfl (by rw [e11]; rfl) zG
         refine zSR (fun w' hS hV K hK => ?_) ?_
         · obtain ⟨A8, c8, X8, e8, l8, u8, h8⟩ := hV 8 (by decide); obtain ⟨A9, c9, X9, e9, l9, u9, h9⟩ := hV 9 (by decide); obtain ⟨A10, k10, c10, X10, z10, e10, h10, y10⟩ := hV 10 (by decide); obtain ⟨A11, k11, c11, X11, z11, e11, h11, y11⟩ := hV 11 (by decide); have e12 : x 12 = .slice A11 k11 c11 := (hV 12 (by decide)).trans (by rw [e11]; rfl); obtain ⟨q0, q1⟩ := hS.1.two; go_simp; exact hK.out _ _ _ rfl rfl (by rw [e11]; rfl) zG
         refine zSR (fun w' hS hV K hK => ?_) ?_
         · obtain ⟨A8, c8, X8, e8, l8, u8, h8⟩ := hV 8 (by decide); obtain ⟨A9, c9, X9, e9, l9, u9, h9⟩ := hV 9 (by decide); obtain ⟨A10, k10, c10, X10, z10, e10, h10, y10⟩ := hV 10 (by decide); obtain ⟨A11, k11, c11, X11, z11, e11, h11, y11⟩ := hV 11 (by decide); have e13 : x 13 = .int .i64 z11 := (hV 13 (by decide)).trans (by rw [e11]; rfl); obtain ⟨q0, q1⟩ := hS.1.two; go_simp; exact hK.out _ _ _ rfl rfl (by rw [e11]; rfl) zG
         refine fun w' hS hV => ?_
         have e0 := zQ hV 0
         have e1 := zQ hV 1
         have e2 := zQ hV 2
         have e3 := zQ hV 3
         have e4 := zQ hV 4
         have e5 := zQ hV 5
         have e6 := zQ hV 6
         have e7 := zQ hV 7
         obtain ⟨A8, c8, X8, e8, l8, u8, h8⟩ := hV 8 (by decide)
         obtain ⟨A9, c9, X9, e9, l9, u9, h9⟩ := hV 9 (by decide)
         obtain ⟨A10, k10, c10, X10, z10, e10, h10, y10⟩ := hV 10 (by decide)
         obtain ⟨A11, k11, c11, X11, z11, e11, h11, y11⟩ := hV 11 (by decide)
         have e12 : x 12 = .slice A11 k11 c11 := (hV 12 (by decide)).trans (by rw [e11]; rfl)
         have e13 : x 13 = .int .i64 z11 := (hV 13 (by decide)).trans (by rw [e11]; rfl)
         have e14 : x 14 = .slice A11 k11 c11 := (hV 14 (by decide)).trans (by rw [e11]; rfl)
         have e15 : x 15 = .int .i64 z11 := (hV 15 (by decide)).trans (by rw [e11]; rfl)
         simp only [e0, e1, e2, e3, e4, e5, e6, e7, e8, e9, e10, e11, e12, e13, e14, e15]
         clear e0 e1 e2 e3 e4 e5 e6 e7 e8 e9 e10 e11 e12 e13 e14 e15
         refine wpAny_done (by kernel_rfl) ?_ _
         obtain ⟨wv, hwv⟩ : ∃ W, W = w' := ⟨_, rfl⟩
         replace k5 := hS.1
         replace kr := hS.2.1
         replace oq := hS.2.2.1
         replace ox := hS.2.2.2.1
         replace d := hS.2.2.2.2
         obtain ⟨E, hEe⟩ : ∃ E, E = A11 := ⟨_, rfl⟩
         obtain ⟨ke, hke⟩ : ∃ E, E = k11 := ⟨_, rfl⟩
         obtain ⟨ce, hce⟩ : ∃ E, E = c11 := ⟨_, rfl⟩
         obtain ⟨es, hes⟩ : ∃ E, E = X11 := ⟨_, rfl⟩
         obtain ⟨z, hze⟩ : ∃ E, E = z11 := ⟨_, rfl⟩
         have oe := h11
         have HZ := Lib.hid y11
         rw [← hEe, ← hke, ← hce, ← hes] at oe
         rw [← hes, ← hze] at HZ
         rw [← hEe, ← hke, ← hce, ← hze]
         rw [← hwv] at k5 kr oq ox d oe ⊢
         clear hwv hS hEe hke hce hes hze q0 q1
         by_cases hz : z = 0
         · have ez : (z == 0) = true := by simp [hz]
           have hEN := HZ.out hz
           obtain rfl : m = pw n := by rw [← ox.rd.lenI]; exact HM.out.2.2.2.1
           obtain rfl : ke = pw n := by rw [← oe.rd.lenI]; exact hEN.1
           have HEN := Lib.hid hEN
           clear hEN hz
           obtain ⟨q0, q1⟩ := k5.two
           have HOE := Lib.hid oe
           have HD0 := Lib.hid d
           go_wp2
           refine wp_obsR 5 (Dr g 144) [[], [], [], [], [1, 2, 3], [0, 1, 2, 3, 4], [0, 1, 2, 3, 4]] [[], [], [], [], []] (fun x => [VIs (.agg #[.int .i64 P, .slice A n c]), VIs (.agg #[.int .i64 P, .slice A n c]), VIs (.slice X (pw n) cx), VIs (.slice E (pw n) ce), VLs w.heap.size (pw n) P]) (fun w' => Blk w' b5 26 #[.int .i64 P, .slice A n c] ∧ Blk w' w.heap.size 26 #[.int .i64 0, .slice none 0 0] ∧ (Own w' w.heap.size 2 A n c (ints sq) ∧ Own w' w.heap.size 2 E (pw n) ce (ints es)) ∧ Own w' w.heap.size 2 X (pw n) cx (ints xs) ∧ Dr g 144 w2 w') (by kernel_rfl) (by kernel_rfl) (fun x x' j hx => by
               rcases j with _ | _ | _ | _ | _ | j
               · rfl
               · rfl
               · rfl
               · rfl
               · rfl
               · rfl)
            (weak_ofR [0, 1, 2, 3] (by decide) (fun k hk x v w w' hp hr => by
             simp only [List.mem_cons, zJ, or_false] at hk
             rcases hk with rfl | rfl | rfl | rfl
             · exact hp
             · exact hp
             · exact hp
             · exact hp)) (fun j _ _ h hb => hb.either (fun hb => ⟨h.1.below hb h.1.lt, h.2.1.below hb h.2.1.lt, ⟨h.2.2.1.1.below hb, h.2.2.1.2.below hb⟩, h.2.2.2.1.below hb, h.2.2.2.2.then hb⟩) (fun hr => ⟨h.1.dr hr (by decide), h.2.1.dr hr (by decide), ⟨h.2.2.1.1.dr hr (by decide), h.2.2.1.2.dr hr (by decide)⟩, h.2.2.2.1.dr hr (by decide), h.2.2.2.2.trans hr⟩)) (⟨k5.drew, kr.drew, ⟨oq.below zG.drew, oe.below zG.drew⟩, ox.below zG.drew, d.then zG.drew⟩) (fun x => ?_)
           refine zSR (fun w' hS hV K hK => ?_) ?_
           · obtain ⟨q0, q1⟩ := hS.1.two; go_simp; exact hK.out _ _ _ rfl rfl rfl zG
           refine zSR (fun w' hS hV K hK => ?_) ?_
           · obtain ⟨q0, q1⟩ := hS.1.two; go_simp; exact hK.out _ _ _ rfl rfl rfl zG
           refine zSR (fun w' hS hV K hK => ?_) ?_
           · obtain ⟨q0, q1⟩ := hS.1.two; go_simp; exact hK.out _ _ _ rfl rfl rfl zG
           refine zSR (fun w' hS hV K hK => ?_) ?_
           · obtain ⟨q0, q1⟩ := hS.1.two; go_simp; exact hK.out _ _ _ rfl rfl rfl zG
           refine zSR (fun w' hS hV K hK => ?_) ?_
           · have e1 := zQ hV 1; have e2 := zQ hV 2; have e3 := zQ hV 3; obtain ⟨q0, q1⟩ := hS.1.two; go_simp; have ht := l04Times_any P A n c sq X cx xs E ce es w' HP2.out (by omega) (by omega) hS.2.2.1.1.rd HM.out.2.2.1 hS.2.2.2.1.rd HM.out.2.2.2.2 hS.2.2.1.2.rd HEN.out.2; refine ht.mono ?_; rintro e v1 ⟨A9, c9, rfl, hM⟩; exact hK.out _ _ _ rfl rfl ⟨_, _, _, rfl, by rw [prodL_len]; exact HM.out.2.2.2.1, prodL_nums _ _ _ _ (by omega), hM.2.base (Nat.le_trans hw hS.2.2.2.2.size)⟩ hM.b
           refine fun w' hS hV => ?_
           have e0 := zQ hV 0
           have e1 := zQ hV 1
           have e2 := zQ hV 2
           have e3 := zQ hV 3
           obtain ⟨A4, c4, X4, e4, l4, u4, h4⟩ := hV 4 (by decide)
           simp only [e0, e1, e2, e3, e4]
           clear e0 e1 e2 e3 e4
           replace k5 := hS.1
           replace kr := hS.2.1
           replace oq := hS.2.2.1.1
           replace d := hS.2.2.2.2
           clear q0 q1
           have ox := h4
           obtain ⟨p0, p1⟩ := kr.two
           have f0 := kr.frozen 0
           have f1 := kr.frozen 1
           refine any_one (j := 5) (by kernel_rfl) (Eq.trans (by simp only [zA, zB, zC]; exact rfl) rfl) (fun K hK => ?_)
           go_simp
           refine hK.out _ _ (any_one (j := 6) (by kernel_rfl) (Eq.trans (by simp only [zA, zB, zC]; exact rfl) rfl) (fun K hK => ?_))
           go_simp
           refine hK.out _ _ (wpAny_done (by kernel_rfl) ?_ _)
           go_wp2
           exact bodyPost_ret (v := .tuple #[.agg #[.int .i64 P, .slice A n c], .slice A4 (pw n) c4]) (by simp [results, Tryz.results148, go_sem, p0, p1]) rfl ⟨P, A, n, c, sq, A4, (pw n), c4, X4, rfl, hP, hn, by omega, (oq.far kr (by decide) 0 _).far (kr.set_ 0 (.int .i64 P)) (by decide) 1 _, (ox.far kr (by decide) 0 _).far (kr.set_ 0 (.int .i64 P)) (by decide) 1 _, hB2.trans (((d.b.mono hgw).setCell (p := ⟨w.heap.size, 0, none⟩) (Nat.le_refl _) _).setCell (p := ⟨w.heap.size, 1, none⟩) (Nat.le_refl _) _)⟩
         · have ez : (z == 0) = false := by simp [hz]
           obtain ⟨q0, q1⟩ := k5.two
           obtain ⟨p0, p1⟩ := kr.two
           have f0 := kr.frozen 0
           have f1 := kr.frozen 1
           go_wp2
           exact bodyPost_ret (v := .tuple #[.agg #[.int .i64 P, .slice A n c], .slice X m cx]) (by simp [results, Tryz.results148, go_sem, p0, p1]) rfl ⟨P, A, n, c, sq, X, m, cx, xs, rfl, hP, hn, by omega, (oq.far kr (by decide) 0 _).far (kr.set_ 0 (.int .i64 P)) (by decide) 1 _, (ox.far kr (by decide) 0 _).far (kr.set_ 0 (.int .i64 P)) (by decide) 1 _, hB2.trans (((d.b.mono hgw).setCell (p := ⟨w.heap.size, 0, none⟩) (Nat.le_refl _) _).setCell (p := ⟨w.heap.size, 1, none⟩) (Nat.le_refl _) _)⟩
       · have e3 : (r3 == 0) = false := by simp [h3]
         obtain ⟨q0, q1⟩ := k5.two
         obtain ⟨p0, p1⟩ := kr.two
         have f0 := kr.frozen 0
         have f1 := kr.frozen 1
         go_wp2
         exact bodyPost_ret (v := .tuple #[.agg #[.int .i64 P, .slice A n c], .slice X m cx]) (by simp [results, Tryz.results148, go_sem, p0, p1]) rfl ⟨P, A, n, c, sq, X, m, cx, xs, rfl, hP, hn, by omega, (oq.far kr (by decide) 0 _).far (kr.set_ 0 (.int .i64 P)) (by decide) 1 _, (ox.far kr (by decide) 0 _).far (kr.set_ 0 (.int .i64 P)) (by decide) 1 _, hB2.trans (((d.b.mono hgw).setCell (p := ⟨w.heap.size, 0, none⟩) (Nat.le_refl _) _).setCell (p := ⟨w.heap.size, 1, none⟩) (Nat.le_refl _) _)⟩
     · have d4 : decide ((n : Int) ≤ 4) = false := by simp; omega
       obtain ⟨q0, q1⟩ := k5.two
       obtain ⟨p0, p1⟩ := kr.two
       have f0 := kr.frozen 0
       have f1 := kr.frozen 1
       go_wp2
       exact bodyPost_ret (v := .tuple #[.agg #[.int .i64 P, .slice A n c], .slice X m cx]) (by simp [results, Tryz.results148, go_sem, p0, p1]) rfl ⟨P, A, n, c, sq, X, m, cx, xs, rfl, hP, hn, by omega, (oq.far kr (by decide) 0 _).far (kr.set_ 0 (.int .i64 P)) (by decide) 1 _, (ox.far kr (by decide) 0 _).far (kr.set_ 0 (.int .i64 P)) (by decide) 1 _, hB2.trans (((d.b.mono hgw).setCell (p := ⟨w.heap.size, 0, none⟩) (Nat.le_refl _) _).setCell (p := ⟨w.heap.size, 1, none⟩) (Nat.le_refl _) _)⟩
 · have e16 : (r16 == 0) = false := by simp [h16]
   obtain ⟨wz, hwz⟩ : ∃ W, W = w5 := ⟨_, rfl⟩
   rw [← hwz] at k5 kr oq d ⊢
   clear hwz h16
   have hsp := l04Spoil_any g P A n c sq wz d.s' (by omega) (oq.base (Nat.zero_le _))
   obtain ⟨q0, q1⟩ := k5.two
   go_wp2_with fail
   refine hsp.mono ?_
   rintro e w9 ⟨X, m, cx, rfl, hm, ⟨xs, ho9⟩, hd9⟩
   have ox := ho9.base (Nat.le_trans hw d.size)
   replace k5 := k5.dr hd9 (by decide)
   replace kr := kr.dr hd9 (by decide)
   replace oq := oq.dr hd9 (by decide)
   replace d := d.trans hd9
   clear hsp ho9 hd9 q0 q1
   obtain ⟨q0, q1⟩ := k5.two
   cases hmu : (isSp P sq && isMu P sq xs)
   · have hi := l04Is_b P A X n c m cx sq xs w9 (by omega) (by omega) oq.rd ox.rd hmu
     clear hmu
     go_wp2_with fail
     refine hi.mono ?_
     rintro e w10 ⟨rfl, hb⟩
     replace k5 := k5.below hb k5.lt
     replace kr := kr.below hb kr.lt
     replace oq := oq.below hb
     replace ox := ox.below hb
     replace d := d.then hb
     clear hi hb q0 q1
     obtain ⟨q0, q1⟩ := k5.two
     obtain ⟨p0, p1⟩ := kr.two
     have f0 := kr.frozen 0
     have f1 := kr.frozen 1
     go_wp2
     exact bodyPost_ret (v := .tuple #[.agg #[.int .i64 P, .slice A n c], .slice X m cx]) (by simp [results, Tryz.results148, go_sem, p0, p1]) rfl ⟨P, A, n, c, sq, X, m, cx, xs, rfl, hP, hn, by omega, (oq.far kr (by decide) 0 _).far (kr.set_ 0 (.int .i64 P)) (by decide) 1 _, (ox.far kr (by decide) 0 _).far (kr.set_ 0 (.int .i64 P)) (by decide) 1 _, hB2.trans (((d.b.mono hgw).setCell (p := ⟨w.heap.size, 0, none⟩) (Nat.le_refl _) _).setCell (p := ⟨w.heap.size, 1, none⟩) (Nat.le_refl _) _)⟩
   · have hi := l04Is_b P A X n c m cx sq xs w9 (by omega) (by omega) oq.rd ox.rd hmu
     have HM : Hid (isP P = true ∧ n ≤ 6 ∧ NumsL P sq ∧ xs.length = pw n ∧ NumsL P xs) := Lib.hid (by
      rw [Bool.and_eq_true] at hmu
      obtain ⟨g1, g2, g3, g4⟩ := isSp_dim hmu.1
      have g5 := hmu.2
      unfold isMu at g5
      rw [Bool.and_eq_true, beq_iff_eq] at g5
      rw [oq.rd.lenI] at g3
      exact ⟨g1, g3, nums_numsL g4, by have := g5.1; rw [oq.rd.lenI] at this; omega, nums_numsL g5.2⟩)
     clear hmu
     go_wp2_with fail
     refine hi.mono ?_
     rintro e w10 ⟨rfl, hb⟩
     replace k5 := k5.below hb k5.lt
     replace kr := kr.below hb kr.lt
     replace oq := oq.below hb
     replace ox := ox.below hb
     replace d := d.then hb
     clear hi hb q0 q1
     obtain ⟨hp3, hp2⟩ := isP_ge HM.out.1
     have HP2 : Hid (2 ≤ P) := Lib.hid (by omega)
     have HSL : Hid (sq.length = n) := Lib.hid oq.rd.lenI
     obtain ⟨q0, q1⟩ := k5.two
     by_cases h4 : n ≤ 4
     · have d4 : decide ((n : Int) ≤ 4) = true := by simp; omega
       have hnx := next_any g 3 w10 d.s' (by omega)
       go_wp2_with fail
       refine hnx.mono ?_
       rintro e w11 ⟨r3, rfl, _, _, hd3⟩
       replace k5 := k5.dr hd3 (by decide)
       replace kr := kr.dr hd3 (by decide)
       replace oq := oq.dr hd3 (by decide)
       replace ox := ox.dr hd3 (by decide)
       replace d := d.trans hd3
       clear hnx hd3 q0 q1
       by_cases h3 : r3 = 0
       · have e3 : (r3 == 0) = true := by simp [h3]
         have hpw : pw n ≤ 16 := pw_le h4
         obtain ⟨q0, q1⟩ := k5.two
         go_wp2
         refine wp_obsR 16 (Dr g 144) [[], [], [], [], [3], [], [5], [5, 6], [2, 3, 4, 5, 6, 7], [1, 2, 3, 4, 5, 6, 7, 8], [0, 1, 2, 3, 4, 5, 6, 7, 8, 9], [0, 1, 2, 3, 4, 5, 6, 7, 8, 9, 10], [0, 1, 2, 3, 4, 5, 6, 7, 8, 9, 10, 11], [0, 1, 2, 3, 4, 5, 6, 7, 8, 9, 10, 11], [0, 1, 2, 3, 4, 5, 6, 7, 8, 9, 10, 11, 12], [0, 1, 2, 3, 4, 5, 6, 7, 8, 9, 10, 11, 13]] [[], [], [], [], [], [], [], [], [99], [], [], [], [], [], [], []] (fun x => [VIs (.agg #[.int .i64 P, .slice A n c]), VIs (.agg #[.int .i64 P, .slice A n c]), VIs (.pointer (some ⟨g, 0, none⟩)), VIs (.pointer (some ⟨b5, 0, none⟩)), VIs (.int .i64 (P)), VIs (.pointer (some ⟨b5, 1, none⟩)), VIs (.slice A n c), VIs (.int .i64 (n)), VLs w.heap.size n P, VLs w.heap.size (pw n) P, VTc w.heap.size P n, VTc w.heap.size P n, VIs (tupA (x 11)), VIs (tupB (x 11)), VIs (tupA (x 11)), VIs (tupB (x 11))]) (fun w' => Blk w' b5 26 #[.int .i64 P, .slice A n c] ∧ Blk w' w.heap.size 26 #[.int .i64 0, .slice none 0 0] ∧ Own w' w.heap.size 2 A n c (ints sq) ∧ Own w' w.heap.size 2 X m cx (ints xs) ∧ Dr g 144 w2 w') (by kernel_rfl) (by kernel_rfl) (fun x x' j hx => by
             rcases j with _ | _ | _ | _ | _ | _ | _ | _ | _ | _ | _ | _ | _ | _ | _ | _ | j
             · rfl
             · rfl
             · rfl
             · rfl
             · rfl
             · rfl
             · rfl
             · rfl
             · rfl
             · rfl
             · rfl
             · rfl
             · rw [hx 11 (by decide)]
             · rw [hx 11 (by decide)]
             · rw [hx 11 (by decide)]
             · rw [hx 11 (by decide)]
             · rfl)
          (weak_ofR [0, 1, 2, 3, 4, 5, 6, 7, 8, 12, 13, 14, 15] (by decide) (fun k hk x v w w' hp hr => by
           simp only [List.mem_cons, zJ, or_false] at hk
           rcases hk with rfl | rfl | rfl | rfl | rfl | rfl | rfl | rfl | rfl | rfl | rfl | rfl | rfl
           · exact hp
           · exact hp
           · exact hp
           · exact hp
           · exact hp
           · exact hp
           · exact hp
           · exact hp
           · exact VLs.dr hp hr (by decide)
           · exact hp
           · exact hp
           · exact hp
           · exact hp)) (fun j _ _ h hb => hb.either (fun hb => ⟨h.1.below hb h.1.lt, h.2.1.below hb h.2.1.lt, h.2.2.1.below hb, h.2.2.2.1.below hb, h.2.2.2.2.then hb⟩) (fun hr => ⟨h.1.dr hr (by decide), h.2.1.dr hr (by decide), h.2.2.1.dr hr (by decide), h.2.2.2.1.dr hr (by decide), h.2.2.2.2.trans hr⟩)) (⟨k5.drew, kr.drew, oq.below zG.drew, ox.below zG.drew, d.then zG.drew⟩) (fun x => ?_)
         refine zSR (fun w' hS hV K hK => ?_) ?_
         · obtain ⟨q0, q1⟩ := hS.1.two; go_simp; exact hK.out _ _ _ rfl rfl rfl zG
         refine zSR (fun w' hS hV K hK => ?_) ?_
         · obtain ⟨q0, q1⟩ := hS.1.two; go_simp; exact hK.out _ _ _ rfl rfl rfl zG
         refine zSR (fun w' hS hV K hK => ?_) ?_
         · obtain ⟨q0, q1⟩ := hS.1.two; go_simp; exact hK.out _ _ _ rfl rfl rfl zG
         refine zSR (fun w' hS hV K hK => ?_) ?_
         · obtain ⟨q0, q1⟩ := hS.1.two; go_simp; exact hK.out _ _ _ rfl rfl rfl zG
         refine zSR (fun w' hS hV K hK => ?_) ?_
         · have e3 := zQ hV 3; obtain ⟨q0, q1⟩ := hS.1.two; go_simp; exact hK.out _ _ _ rfl rfl rfl zG
         refine zSR (fun w' hS hV K hK => ?_) ?_
         · obtain ⟨q0, q1⟩ := hS.1.two; go_simp; exact hK.out _ _ _ rfl rfl rfl zG
         refine zSR (fun w' hS hV K hK => ?_) ?_
         · have e5 := zQ hV 5; obtain ⟨q0, q1⟩ := hS.1.two; go_simp; exact hK.out _ _ _ rfl rfl rfl zG
         refine zSR (fun w' hS hV K hK => ?_) ?_
         · have e6 := zQ hV 6; obtain ⟨q0, q1⟩ := hS.1.two; go_simp; exact hK.out _ _ _ rfl rfl rfl zG
         refine zSR (fun w' hS hV K hK => ?_) ?_
         · have e2 := zQ hV 2; have e4 := zQ hV 4; have e7 := zQ hV 7; obtain ⟨q0, q1⟩ := hS.1.two; go_simp; refine (nextList_any g P n w' hS.2.2.2.2.s' (by omega) (by omega)).mono ?_; rintro e v1 ⟨A9, c9, xs9, rfl, hl9, hx9, ho9, hd9⟩; exact hK.out _ _ _ rfl rfl ⟨_, _, xs9, rfl, hl9, nums_of (by omega) hx9, ho9.base (Nat.le_trans hw hS.2.2.2.2.size)⟩ (StepR.rel rfl hd9)
         refine zSR (fun w' hS hV K hK => ?_) ?_
         · have e1 := zQ hV 1; obtain ⟨A8, c8, X8, e8, l8, u8, h8⟩ := hV 8 (by decide); obtain ⟨q0, q1⟩ := hS.1.two; go_simp; refine (l04Vector_any P A n c A8 c8 X8 w' (by omega) h8.rd).mono ?_; rintro e v1 ⟨A9, c9, rfl, hM⟩; exact hK.out _ _ _ rfl rfl ⟨_, _, _, rfl, vecTo_len _ _ _, vecTo_nums (by omega) n X8 u8 n, hM.2.base (Nat.le_trans hw hS.2.2.2.2.size)⟩ hM.b
         refine zSR (fun w' hS hV K hK => ?_) ?_
         · have e0 := zQ hV 0; obtain ⟨A8, c8, X8, e8, l8, u8, h8⟩ := hV 8 (by decide); obtain ⟨A9, c9, X9, e9, l9, u9, h9⟩ := hV 9 (by decide); obtain ⟨q0, q1⟩ := hS.1.two; go_simp; refine (specVectorIdempotent_any P A n c sq A9 (pw n) c9 X9 w' (by omega) (by omega) hS.2.2.1.rd h9.rd h9.cap).mono ?_; rintro e v1 ⟨A9, k9, c9, rfl, hM⟩; exact hK.out _ _ _ rfl rfl ⟨_, _, _, _, _, rfl, hM.2.base (Nat.le_trans hw hS.2.2.2.2.size), fun hz => by rw [vidR_zero hz, HSL.out]; exact vidL_ok HP2.out sq n _⟩ hM.b
         refine zSR (fun w' hS hV K hK => ?_) ?_
         · obtain ⟨A8, c8, X8, e8, l8, u8, h8⟩ := hV 8 (by decide); obtain ⟨A9, c9, X9, e9, l9, u9, h9⟩ := hV 9 (by decide); obtain ⟨A10, k10, c10, X10, z10, e10, h10, y10⟩ := hV 10 (by decide); obtain ⟨q0, q1⟩ := hS.1.two; go_simp; exact hK.out _ _ _ rfl rfl ⟨_, _, _, _, _, rfl, h10, y10⟩ zG
         refine zSR (fun w' hS hV K hK => ?_) ?_
         · obtain ⟨A8, c8, X8, e8, l8, u8, h8⟩ := hV 8 (by decide); obtain ⟨A9, c9, X9, e9, l9, u9, h9⟩ := hV 9 (by decide); obtain ⟨A10, k10, c10, X10, z10, e10, h10, y10⟩ := hV 10 (by decide); obtain ⟨A11, k11, c11, X11, z11, e11, h11, y11⟩ := hV 11 (by decide); obtain ⟨q0, q1⟩ := hS.1.two; go_simp; exact hK.out _ _ _ rfl rfl (by rw [e11]; rfl) zG
         refine zSR (fun w' hS hV K hK => ?_) ?_
         · obtain ⟨A8, c8, X8, e8, l8, u8, h8⟩ := hV 8 (by decide); obtain ⟨A9, c9, X9, e9, l9, u9, h9⟩ := hV 9 (by decide); obtain ⟨A10, k10, c10, X10, z10, e10, h10, y10⟩ := hV 10 (by decide); obtain ⟨A11, k11, c11, X11, z11, e11, h11, y11⟩ := hV 11 (by decide); obtain ⟨q0, q1⟩ := hS.1.two; go_simp; exact hK.out _ _ _ rfl rfl (by rw [e11]; rfl) zG
         refine zSR (fun w' hS hV K hK => ?_) ?_
         · obtain ⟨A8, c8, X8, e8, l8, u8, h8⟩ := hV 8 (by decide); obtain ⟨A9, c9, X9, e9, l9, u9, h9⟩ := hV 9 (by decide); obtain ⟨A10, k10, c10, X10, z10, e10, h10, y10⟩ := hV 10 (by decide); obtain ⟨A11, k11, c11, X11, z11, e11, h11, y11⟩ := hV 11 (by decide); have e12 : x 12 = .slice A11 k11 c11 := (hV 12 (by decide)).trans (by rw [e11]; rfl); obtain ⟨q0, q1⟩ := hS.1.two; go_simp; exact hK.out _ _ _ rfl rfl (by rw [e11]; rfl) zG
         refine zSR (fun w' hS hV K hK => ?_) ?_
         · obtain ⟨A8, c8, X8, e8, l8, u8, h8⟩ := hV 8 (by decide); obtain ⟨A9, c9, X9, e9, l9, u9, h9⟩ := hV 9 (by decide); obtain ⟨A10, k10, c10, X10, z10, e10, h10, y10⟩ := hV 10 (by decide); obtain ⟨A11, k11, c11, X11, z11, e11, h11, y11⟩ := hV 11 (by decide); have e13 : x 13 = .int .i64 z11 := (hV 13 (by decide)).trans (by rw [e11]; rfl); obtain ⟨q0, q1⟩ := hS.1.two; go_simp; exact hK.out _ _ _ rfl rfl (by rw [e11]; rfl) zG
         refine fun w' hS hV => ?_
         have e0 := zQ hV 0
         have e1 := zQ hV 1
         have e2 := zQ hV 2
         have e3 := zQ hV 3
         have e4 := zQ hV 4
         have e5 := zQ hV 5
         have e6 := zQ hV 6
         have e7 := zQ hV 7
         obtain ⟨A8, c8, X8, e8, l8, u8, h8⟩ := hV 8 (by decide)
         obtain ⟨A9, c9, X9, e9, l9, u9, h9⟩ := hV 9 (by decide)
         obtain ⟨A10, k10, c10, X10, z10, e10, h10, y10⟩ := hV 10 (by decide)
         obtain ⟨A11, k11, c11, X11, z11, e11, h11, y11⟩ := hV 11 (by decide)
         have e12 : x 12 = .slice A11 k11 c11 := (hV 12 (by decide)).trans (by rw [e11]; rfl)
         have e13 : x 13 = .int .i64 z11 := (hV 13 (by decide)).trans (by rw [e11]; rfl)
         have e14 : x 14 = .slice A11 k11 c11 := (hV 14 (by decide)).trans (by rw [e11]; rfl)
         have e15 : x 15 = .int .i64 z11 := (hV 15 (by decide)).trans (by rw [e11]; rfl)
         simp only [e0, e1, e2, e3, e4, e5, e6, e7, e8, e9, e10, e11, e12, e13, e14, e15]
         clear e0 e1 e2 e3 e4 e5 e6 e7 e8 e9 e10 e11 e12 e13 e14 e15
         refine wpAny_done (by kernel_rfl) ?_ _
         obtain ⟨wv, hwv⟩ : ∃ W, W = w' := ⟨_, rfl⟩
         replace k5 := hS.1
         replace kr := hS.2.1
         replace oq := hS.2.2.1
         replace ox := hS.2.2.2.1
         replace d := hS.2.2.2.2
         obtain ⟨E, hEe⟩ : ∃ E, E = A11 := ⟨_, rfl⟩
         obtain ⟨ke, hke⟩ : ∃ E, E = k11 := ⟨_, rfl⟩
         obtain ⟨ce, hce⟩ : ∃ E, E = c11 := ⟨_, rfl⟩
         obtain ⟨es, hes⟩ : ∃ E, E = X11 := ⟨_, rfl⟩
         obtain ⟨z, hze⟩ : ∃ E, E = z11 := ⟨_, rfl⟩
         have oe := h11
         have HZ := Lib.hid y11
         rw [← hEe, ← hke, ← hce, ← hes] at oe
         rw [← hes, ← hze] at HZ
         rw [← hEe, ← hke, ← hce, ← hze]
         rw [← hwv] at k5 kr oq ox d oe ⊢
         clear hwv hS hEe hke hce hes hze q0 q1
         by_cases hz : z = 0
         · have ez : (z == 0) = true := by simp [hz]
           have hEN := HZ.out hz
           obtain rfl : m = pw n := by rw [← ox.rd.lenI]; exact HM.out.2.2.2.1
           obtain rfl : ke = pw n := by rw [← oe.rd.lenI]; exact hEN.1
           have HEN := Lib.hid hEN
           clear hEN hz
           obtain ⟨q0, q1⟩ := k5.two
           have HOE := Lib.hid oe
           have HD0 := Lib.hid d
           go_wp2
           refine wp_obsR 5 (Dr g 144) [[], [], [], [], [1, 2, 3], [0, 1, 2, 3, 4], [0, 1, 2, 3, 4]] [[], [], [], [], []] (fun x => [VIs (.agg #[.int .i64 P, .slice A n c]), VIs (.agg #[.int .i64 P, .slice A n c]), VIs (.slice X (pw n) cx), VIs (.slice E (pw n) ce), VLs w.heap.size (pw n) P]) (fun w' => Blk w' b5 26 #[.int .i64 P, .slice A n c] ∧ Blk w' w.heap.size 26 #[.int .i64 0, .slice none 0 0] ∧ (Own w' w.heap.size 2 A n c (ints sq) ∧ Own w' w.heap.size 2 E (pw n) ce (ints es)) ∧ Own w' w.heap.size 2 X (pw n) cx (ints xs) ∧ Dr g 144 w2 w') (by kernel_rfl) (by kernel_rfl) (fun x x' j hx => by
               rcases j with _ | _ | _ | _ | _ | j
               · rfl
               · rfl
               · rfl
               · rfl
               · rfl
               · rfl)
            (weak_ofR [0, 1, 2, 3] (by decide) (fun k hk x v w w' hp hr => by
             simp only [List.mem_cons, zJ, or_false] at hk
             rcases hk with rfl | rfl | rfl | rfl
             · exact hp
             · exact hp
             · exact hp
             · exact hp)) (fun j _ _ h hb => hb.either (fun hb => ⟨h.1.below hb h.1.lt, h.2.1.below hb h.2.1.lt, ⟨h.2.2.1.1.below hb, h.2.2.1.2.below hb⟩, h.2.2.2.1.below hb, h.2.2.2.2.then hb⟩) (fun hr => ⟨h.1.dr hr (by decide), h.2.1.dr hr (by decide), ⟨h.2.2.1.1.dr hr (by decide), h.2.2.1.2.dr hr (by decide)⟩, h.2.2.2.1.dr hr (by decide), h.2.2.2.2.trans hr⟩)) (⟨k5.drew, kr.drew, ⟨oq.below zG.drew, oe.below zG.drew⟩, ox.below zG.drew, d.then zG.drew⟩) (fun x => ?_)
           refine zSR (fun w' hS hV K hK => ?_) ?_
           · obtain ⟨q0, q1⟩ := hS.1.two; go_simp; exact hK.out _ _ _ rfl rfl rfl zG
           refine zSR (fun w' hS hV K hK => ?_) ?_
           · obtain ⟨q0, q1⟩ := hS.1.two; go_simp; exact hK.out _ _ _ rfl rfl rfl zG
           refine zSR (fun w' hS hV K hK => ?_) ?_
           · obtain ⟨q0, q1⟩ := hS.1.two; go_simp; exact hK.out _ _ _ rfl rfl rfl zG
           refine zSR (fun w' hS hV K hK => ?_) ?_
           · obtain ⟨q0, q1⟩ := hS.1.two; go_simp; exact hK.out _ _ _ rfl rfl rfl zG
           refine zSR (fun w' hS hV K hK => ?_) ?_
           · have e1 := zQ hV 1; have e2 := zQ hV 2; have e3 := zQ hV 3; obtain ⟨q0, q1⟩ := hS.1.two; go_simp; have ht := l04Times_any P A n c sq X cx xs E ce es w' HP2.out (by omega) (by omega) hS.2.2.1.1.rd HM.out.2.2.1 hS.2.2.2.1.rd HM.out.2.2.2.2 hS.2.2.1.2.rd HEN.out.2; refine ht.mono ?_; rintro e v1 ⟨A9, c9, rfl, hM⟩; exact hK.out _ _ _ rfl rfl ⟨_, _, _, rfl, by rw [prodL_len]; exact HM.out.2.2.2.1, prodL_nums _ _ _ _ (by omega), hM.2.base (Nat.le_trans hw hS.2.2.2.2.size)⟩ hM.b
           refine fun w' hS hV => ?_
           have e0 := zQ hV 0
           have e1 := zQ hV 1
           have e2 := zQ hV 2
           have e3 := zQ hV 3
           obtain ⟨A4, c4, X4, e4, l4, u4, h4⟩ := hV 4 (by decide)
           simp only [e0, e1, e2, e3, e4]
           clear e0 e1 e2 e3 e4
           replace k5 := hS.1
           replace kr := hS.2.1
           replace oq := hS.2.2.1.1
           replace d := hS.2.2.2.2
           clear q0 q1
           have ox := h4
           obtain ⟨p0, p1⟩ := kr.two
           have f0 := kr.frozen 0
           have f1 := kr.frozen 1
           refine any_one (j := 5) (by kernel_rfl) (Eq.trans (by simp only [zA, zB, zC]; exact rfl) rfl) (fun K hK => ?_)
           go_simp
           refine hK.out _ _ (any_one (j := 6) (by kernel_rfl) (Eq.trans (by simp only [zA, zB, zC]; exact rfl) rfl) (fun K hK => ?_))
           go_simp
           refine hK.out _ _ (wpAny_done (by kernel_rfl) ?_ _)
           go_wp2
           exact bodyPost_ret (v := .tuple #[.agg #[.int .i64 P, .slice A n c], .slice A4 (pw n) c4]) (by simp [results, Tryz.results148, go_sem, p0, p1]) rfl ⟨P, A, n, c, sq, A4, (pw n), c4, X4, rfl, hP, hn, by omega, (oq.far kr (by decide) 0 _).far (kr.set_ 0 (.int .i64 P)) (by decide) 1 _, (ox.far kr (by decide) 0 _).far (kr.set_ 0 (.int .i64 P)) (by decide) 1 _, hB2.trans (((d.b.mono hgw).setCell (p := ⟨w.heap.size, 0, none⟩) (Nat.le_refl _) _).setCell (p := ⟨w.heap.size, 1, none⟩) (Nat.le_refl _) _)⟩
         · have ez : (z == 0) = false := by simp [hz]
           obtain ⟨q0, q1⟩ := k5.two
           obtain ⟨p0, p1⟩ := kr.two
           have f0 := kr.frozen 0
           have f1 := kr.frozen 1
           go_wp2
           exact bodyPost_ret (v := .tuple #[.agg #[.int .i64 P, .slice A n c], .slice X m cx]) (by simp [results, Tryz.results148, go_sem, p0, p1]) rfl ⟨P, A, n, c, sq, X, m, cx, xs, rfl, hP, hn, by omega, (oq.far kr (by decide) 0 _).far (kr.set_ 0 (.int .i64 P)) (by decide) 1 _, (ox.far kr (by decide) 0 _).far (kr.set_ 0 (.int .i64 P)) (by decide) 1 _, hB2.trans (((d.b.mono hgw).setCell (p := ⟨w.heap.size, 0, none⟩) (Nat.le_refl _) _).setCell (p := ⟨w.heap.size, 1, none⟩) (Nat.le_refl _) _)⟩
       · have e3 : (r3 == 0) = false := by simp [h3]
         obtain ⟨q0, q1⟩ := k5.two
         obtain ⟨p0, p1⟩ := kr.two
         have f0 := kr.frozen 0
         have f1 := kr.frozen 1
         go_wp2
         exact bodyPost_ret (v := .tuple #[.agg #[.int .i64 P, .slice A n c], .slice X m cx]) (by simp [results, Tryz.results148, go_sem, p0, p1]) rfl ⟨P, A, n, c, sq, X, m, cx, xs, rfl, hP, hn, by omega, (oq.far kr (by decide) 0 _).far (kr.set_ 0 (.int .i64 P)) (by decide) 1 _, (ox.far kr (by decide) 0 _).far (kr.set_ 0 (.int .i64 P)) (by decide) 1 _, hB2.trans (((d.b.mono hgw).setCell (p := ⟨w.heap.size, 0, none⟩) (Nat.le_refl _) _).setCell (p := ⟨w.heap.size, 1, none⟩) (Nat.le_refl _) _)⟩
     · have d4 : decide ((n : Int) ≤ 4) = false := by simp; omega
       obtain ⟨q0, q1⟩ := k5.two
       obtain ⟨p0, p1⟩ := kr.two
       have f0 := kr.frozen 0
       have f1 := kr.frozen 1
       go_wp2
       exact bodyPost_ret (v := .tuple #[.agg #[.int .i64 P, .slice A n c], .slice X m cx]) (by simp [results, Tryz.results148, go_sem, p0, p1]) rfl ⟨P, A, n, c, sq, X, m, cx, xs, rfl, hP, hn, by omega, (oq.far kr (by decide) 0 _).far (kr.set_ 0 (.int .i64 P)) (by decide) 1 _, (ox.far kr (by decide) 0 _).far (kr.set_ 0 (.int .i64 P)) (by decide) 1 _, hB2.trans (((d.b.mono hgw).setCell (p := ⟨w.heap.size, 0, none⟩) (Nat.le_refl _) _).setCell (p := ⟨w.heap.size, 1, none⟩) (Nat.le_refl _) _)⟩
set_option maxHeartbeats 3200000 in
set_option maxRecDepth 8000 in
theorem DrawLeftIdealOf_any (B : Option Addr) (nb cb : Nat) (bs : List Int) (w : World) (hnb : nb ≤ 4096) (r : Rd w B nb (bs.map (Value.int .u8))) (hbs : ∀ b ∈ bs, 0 ≤ b ∧ b < 256) (hbg : ∀ a, B = some a → a.block < w.heap.size) :
    Calls Tryz.prog 52 #[.slice B nb cb] w (Drew1 w) := by
 have hB0 : Below w.heap.size w (w.alloc (.cells #[.int .i64 0, .slice none 0 0] 26)) := zG.alloc (Nat.le_refl _) _
 have kr : Blk (w.alloc (.cells #[.int .i64 0, .slice none 0 0] 26)) w.heap.size 26 #[.int .i64 0, .slice none 0 0] := Blk.new _ _ _
 have hdr := l09Draw_any B nb cb bs (w.alloc (.cells #[.int .i64 0, .slice none 0 0] 26)) hnb (r.below hB0) hbs (fun a e => by have := hbg a e; simp; omega)
 go_enter Tryz.func52, Tryz.ntmps52
 go_wp2_with fail
 refine hdr.mono ?_
 rintro e w3 ⟨P, A, n, c, sq, X, m, cx, xs, rfl, hP, hn, hm, hO, hX, hb3⟩
 replace kr := kr.below hb3 kr.lt
 have hB3 := hB0.trans (hb3.mono hB0.size)
 have oq := hO.base (B' := w.heap.size) hB0.size
 have ox := hX.base (B' := w.heap.size) hB0.size
 obtain ⟨p0, p1⟩ := kr.two
 have f0 := kr.frozen 0
 have f1 := kr.frozen 1
 have k5 := Blk.new w3 26 #[.int .i64 P, .slice A n c]
 have kr2 := kr.alloc (.cells #[.int .i64 P, .slice A n c] 26)
 have oq2 := oq.below (zG.alloc (Nat.le_refl _) (.cells #[.int .i64 P, .slice A n c] 26))
 have ox2 := ox.below (zG.alloc (Nat.le_refl _) (.cells #[.int .i64 P, .slice A n c] 26))
 have hB4 := hB3.alloc hB3.size (.cells #[.int .i64 P, .slice A n c] 26)
 obtain ⟨q0, q1⟩ := k5.two
 obtain ⟨z0, z1⟩ := kr2.two
 have f2 := kr2.frozen 0
 have f3 := kr2.frozen 1
 obtain ⟨y0, y1⟩ := (kr2.stored (p' := P) (A' := A) (n' := n) (c' := c)).two
 clear hdr hO hX hb3
 go_wp2
 exact bodyPost_ret (v := .tuple #[.agg #[.int .i64 P, .slice A n c], .slice X m cx]) (by simp [results, Tryz.results52, go_sem, y0, y1, z0, z1]) rfl ⟨P, A, n, c, sq, X, m, cx, xs, rfl, hP, hn, hm, (oq2.far kr2 (by decide) 0 _).far (kr2.set_ 0 (.int .i64 P)) (by decide) 1 _, (ox2.far kr2 (by decide) 0 _).far (kr2.set_ 0 (.int .i64 P)) (by decide) 1 _, (hB4.setCell (p := ⟨w.heap.size, 0, none⟩) (Nat.le_refl _) _).setCell (p := ⟨w.heap.size, 1, none⟩) (Nat.le_refl _) _⟩
set_option maxHeartbeats 3200000 in
set_option maxRecDepth 8000 in
theorem GeometricProduct_ok (P : Int) (A : Option Addr) (n c : Nat) (sq : List Int) (X : Option Addr) (m cx : Nat) (xs : List Int) (Y : Option Addr) (l cy : Nat) (ys : List Int) (w : World) (hn : n ≤ 1048576) (hm : m ≤ 1048576) (hl : l ≤ 1048576) (ha : Rd w A n (ints sq)) (hx : Rd w X m (ints xs)) (hcx : m ≤ cx) (hy : Rd w Y l (ints ys)) (hcy : l ≤ cy) (h0 : codeM P sq [xs, ys] = 0) :
    Calls Tryz.prog 28 #[.agg #[.int .i64 P, .slice A n c], .slice X m cx, .slice Y l cy] w fun e w' => ∃ (A' : Option Addr) (c' : Nat), e = .returned (.tuple #[.slice A' (pw n) c', .int .i64 0]) ∧ MkI w w' A' (pw n) c' (mulL P sq xs ys) := by
 have hB0 : Below w.heap.size w (w.alloc (.cells #[.int .i64 P, .slice A n c] 26)) := zG.alloc (Nat.le_refl _) _
 have k0 : Blk (w.alloc (.cells #[.int .i64 P, .slice A n c] 26)) w.heap.size 26 #[.int .i64 P, .slice A n c] := Blk.new _ _ _
 have hB1 : Below w.heap.size w ((w.alloc (.cells #[.int .i64 P, .slice A n c] 26)).alloc (.cells #[.slice X m cx, .slice Y l cy] 24)) := hB0.alloc (by simp) _
 have k1 : Blk ((w.alloc (.cells #[.int .i64 P, .slice A n c] 26)).alloc (.cells #[.slice X m cx, .slice Y l cy] 24)) w.heap.size 26 #[.int .i64 P, .slice A n c] := k0.alloc _
 have hreg := checkMultis_any P A (some ⟨w.heap.size + 1, 0, none⟩) n c 2 2 sq [xs, ys] ((w.alloc (.cells #[.int .i64 P, .slice A n c] 26)).alloc (.cells #[.slice X m cx, .slice Y l cy] 24)) hn (by omega) (ha.below hB1) (rdII_two (Blk.newAt (by simp)) (hx.below hB1) (hy.below hB1) hcx hcy) (all_two (by rw [hx.lenI]; exact hm) (by rw [hy.lenI]; exact hl))
 rw [h0] at hreg
 obtain ⟨HP, hp, hp2, hd1, hd2, hs0, hms⟩ := codeM_spec2 h0
 obtain ⟨hx1, hxs0⟩ := hms xs (by simp)
 obtain ⟨hy1, hys0⟩ := hms ys (by simp)
 have hsl := ha.lenI
 have hmx : m = pw n := by rw [← hx.lenI, hx1, hsl]
 have hly : l = pw n := by rw [← hy.lenI, hy1, hsl]
 subst hmx
 subst hly
 rw [hsl] at hd2
 have HXS := Lib.hid hxs0
 have HYS := Lib.hid hys0
 have HS := Lib.hid hs0
 have HX1 := Lib.hid hx.lenI
 have HY1 := Lib.hid hy.lenI
 have htm := timesL_two P sq n xs ys HX1.out HXS.out
 clear hms hx1 hs0 hxs0 hy1 hys0 h0 hsl
 go_enter Tryz.func28, Tryz.ntmps28
 go_wp2_with fail
 refine hreg.mono ?_
 rintro e w2 ⟨rfl, hb2⟩
 have hB2 := hB1.trans (hb2.mono hB1.size)
 have k2 := k1.below hb2 k1.lt
 obtain ⟨q0, q1⟩ := k2.two
 clear k0 hB0 k1 hB1 hb2 hreg
 have hB3 : Below w.heap.size w (w2.alloc (.cells #[.slice X (pw n) cx, .slice Y (pw n) cy] 24)) := hB2.alloc hB2.size _
 have hcall := times_any P A n c sq (some ⟨w2.heap.size, 0, none⟩) 2 2 [xs, ys] (w2.alloc (.cells #[.slice X (pw n) cx, .slice Y (pw n) cy] 24)) (by omega) hp2 hd2 (by omega) (ha.below hB3) HS.out (rdII_two (Blk.new w2 24 _) (hx.below hB3) (hy.below hB3) hcx hcy) (all_two ⟨HXS.out, HX1.out⟩ ⟨HYS.out, HY1.out⟩)
 rw [htm] at hcall
 go_wp2_with fail
 refine hcall.mono ?_
 rintro e w3 ⟨A', c', rfl, hM⟩
 have hM3 := hM.after hB3
 go_wp2
 go_ret2
 exact ⟨A', c', rfl, hM3⟩
set_option maxHeartbeats 3200000 in
set_option maxRecDepth 8000 in
theorem times5_ok (P : Int) (A : Option Addr) (n c : Nat) (sq : List Int) (X : Option Addr) (m cx : Nat) (xs : List Int) (Y : Option Addr) (l cy : Nat) (ys : List Int) (w : World) (hn : n ≤ 1048576) (hm : m ≤ 1048576) (hl : l ≤ 1048576) (ha : Rd w A n (ints sq)) (hx : Rd w X m (ints xs)) (hcx : m ≤ cx) (hy : Rd w Y l (ints ys)) (hcy : l ≤ cy) (h0 : codeM P sq [xs, ys] = 0) :
    Calls Tryz.prog 23 #[.agg #[.int .i64 P, .slice A n c], .slice X m cx, .slice Y l cy] w fun e w' => ∃ (A' : Option Addr) (c' : Nat), e = .returned (.slice A' (pw n) c') ∧ MkI w w' A' (pw n) c' (mulL P sq xs ys) := by
 have hB0 : Below w.heap.size w (w.alloc (.cells #[.int .i64 P, .slice A n c] 26)) := zG.alloc (Nat.le_refl _) _
 have k0 : Blk (w.alloc (.cells #[.int .i64 P, .slice A n c] 26)) w.heap.size 26 #[.int .i64 P, .slice A n c] := Blk.new _ _ _
 have hgp := GeometricProduct_ok P A n c sq X m cx xs Y l cy ys (w.alloc (.cells #[.int .i64 P, .slice A n c] 26)) hn hm hl (ha.below hB0) (hx.below hB0) hcx (hy.below hB0) hcy h0
 clear h0
 go_enter Tryz.func23, Tryz.ntmps23
 go_wp2_with fail
 refine hgp.mono ?_
 rintro e w2 ⟨A', c', rfl, hM⟩
 have hM3 := hM.after hB0
 go_wp2
 go_ret
 exact ⟨A', c', rfl, hM3⟩
end Go.Proofs.YtmkjdpnoloofjaaGreat
