/-
  LawFnDerivations: part 6 of the texts that the proof needs. No condition.
-/
import Derived.Test.YtaiegpggccdgoaaGreatD5
namespace Go.Proofs.YtaiegpggccdgoaaGreat
open Go Go.RowKit
set_option maxHeartbeats 6400000 in
set_option maxRecDepth 8000 in
theorem l11Basis_any (p : Int) (hp : 2 ≤ p) (hp2 : p ≤ 13) (k : Nat) (hk : k ≤ 4) (A : Option Addr) (c : Nat) (st : List Int) (w : World) (hc : k ≤ c) (ha : Rd w A k (ints st)) (hst : NumsL p st) :
    Calls Tryz.prog 100 #[.agg #[.int .i64 p, .slice A k c]] w fun e w' => ∃ A' c', e = .returned (.slice A' (pw k) c') ∧ MkII w w' A' (pw k) c' (prodM p k st) := by
 have hpk : pw k ≤ 16 := pw_le hk
 have hpos := pw_pos k
 have hB0 : Below w.heap.size w (w.alloc (.cells #[.int .i64 p, .slice A k c] 26)) := zG.alloc (Nat.le_refl _) _
 have k0 : Blk (w.alloc (.cells #[.int .i64 p, .slice A k c] 26)) w.heap.size 26 #[.int .i64 p, .slice A k c] := Blk.new _ _ _
 have k1 := k0.alloc (.cells #[] 24)
 have hM1 : MkII w ((w.alloc (.cells #[.int .i64 p, .slice A k c] 26)).alloc (.cells #[] 24)) (some ⟨w.heap.size + 1, 0, none⟩) 0 0 [] := by
  have := MkII.empty hB0
  simpa using this
 clear k0 hB0
 go_enter Tryz.func100, Tryz.ntmps100
 go_wp2
 go_loopw [3, 4] (fun out i wr => ∃ (j : Nat) (A' : Option Addr) (c' : Nat), j ≤ pw k ∧ i = .int .i64 j ∧ out = .slice A' j c' ∧ Hid (MkII w wr A' j c' (tab j fun j => tab (pw k) (fun q => (dblL p k st (unitRow (pw k) j) (unitRow (pw k) q)).getD (j ^^^ q) 0))) ∧ Blk wr w.heap.size 26 #[.int .i64 p, .slice A k c]) (fun _ i _ => pw k - (intOf i).toNat)
 case atStart => exact ⟨0, _, _, by omega, rfl, rfl, Lib.hid (by simpa [tab] using hM1), k1⟩
 case round =>
  obtain ⟨j, A', c', hj, rfl, rfl, HM0, kr⟩ := hrel
  clear hM1 k1
  obtain ⟨q0, q1⟩ := kr.two
  by_cases hlt : j < pw k
  · go_wp2_with fail
    refine (l11Size_any p A k c wr (by omega)).mono ?_
    rintro e wo ⟨rfl, hb5⟩
    have HM := Lib.hid (HM0.out.below hb5)
    have ko := kr.below hb5 kr.lt
    have hR0 : MkI wo (wo.alloc (.cells #[] 2)) (some ⟨wo.heap.size, 0, none⟩) 0 0 [] := by simpa [MkI, ints] using Mk.lit (E := 2) (Below.refl wo.heap.size wo) #[] (by simp)
    have ko1 := ko.alloc (.cells #[] 2)
    clear q0 q1 hb5 kr HM0 ko
    go_wp2
    go_loopw [5, 6] (fun row i w2 => ∃ (q : Nat) (A2 : Option Addr) (c2 : Nat), q ≤ pw k ∧ i = .int .i64 q ∧ row = .slice A2 q c2 ∧ Hid (MkI wo w2 A2 q c2 (tab q (fun q => (dblL p k st (unitRow (pw k) j) (unitRow (pw k) q)).getD (j ^^^ q) 0))) ∧ Blk w2 w.heap.size 26 #[.int .i64 p, .slice A k c]) (fun _ i _ => pw k - (intOf i).toNat)
    case atStart => exact ⟨0, _, _, by omega, rfl, rfl, Lib.hid (by simpa [tab] using hR0), ko1⟩
    case round =>
     obtain ⟨q, A2, c2, hq, rfl, rfl, HR0, kr⟩ := hrel
     clear hR0 ko1
     obtain ⟨q0, q1⟩ := kr.two
     by_cases hlq : q < pw k
     · go_wp2_with fail
       rename_i w2
       refine (l11Size_any p A k c _ (by omega)).mono ?_
       rintro e w3 ⟨rfl, hb5⟩
       have HR := Lib.hid (HR0.out.below hb5)
       have k3 := kr.below hb5 kr.lt
       have HA := Lib.hid (ha.below (HM.out.b.trans (HR.out.b.mono HM.out.b.size)))
       have hjq := xor_lt hlt hlq
       obtain ⟨v, hv⟩ : ∃ v, v = (dblL p k st (unitRow (pw k) j) (unitRow (pw k) q)).getD (j ^^^ q) 0 := ⟨_, rfl⟩
       have HVV := Lib.hid hv
       have hxo := xor_all j (by omega) q (by omega)
       clear q0 q1 hb5 kr HR0 ha hv
       go_wp2
       refine wp_obs 15 [[],[],[],[],[2,3],[],[],[5,6],[1,2,3,4,5,6,7],[],[],[9,10],[1,2,3,4,5,6,7,8,9,10,11],[1,2,3,4,5,6,7,8,9,10,11,12],[1,2,3,4,5,6,7,8,9,10,11,12,13],[0,1,2,3,4,5,6,7,8,9,10,11,12,13,14],[0,1,2,3,4,5,6,7,8,9,10,11,12,13,14,15]] [VIs (.slice A2 q c2), VIs (.agg #[.int .i64 p, .slice A k c]), VIs (.agg #[.int .i64 p, .slice A k c]), VIs (.int .i64 (j)), VSl w3 (pw k) (unitRow (pw k) j), VIs (.agg #[.int .i64 p, .slice A k c]), VIs (.int .i64 (q)), VSl w3 (pw k) (unitRow (pw k) q), VSl w3 (pw k) (dblL p k st (unitRow (pw k) j) (unitRow (pw k) q)), VIs (.int .i64 (j)), VIs (.int .i64 (q)), VIs (.int .i64 (((j ^^^ q : Nat) : Int))), VCell (.int .i64 v), VIs (.int .i64 (v)), VBs 2 #[.int .i64 v]] (fun w' => Blk w' w.heap.size 26 #[.int .i64 p, .slice A k c] ∧ Below w3.heap.size w3 w') (by kernel_rfl) (by kernel_rfl) (fun _ _ h hb => ⟨h.1.below hb h.1.lt, h.2.trans (hb.mono h.2.size)⟩) (⟨k3.drew, zG.drew⟩) (fun x => ?_)
       refine zS (fun w' hS hV K hK => ?_) ?_
       · obtain ⟨q0, q1⟩ := hS.1.two; go_simp; exact zO hK
       refine zS (fun w' hS hV K hK => ?_) ?_
       · obtain ⟨q0, q1⟩ := hS.1.two; go_simp; exact zO hK
       refine zS (fun w' hS hV K hK => ?_) ?_
       · obtain ⟨q0, q1⟩ := hS.1.two; go_simp; exact zO hK
       refine zS (fun w' hS hV K hK => ?_) ?_
       · obtain ⟨q0, q1⟩ := hS.1.two; go_simp; exact zO hK
       refine zS (fun w' hS hV K hK => ?_) ?_
       · have e2 := zQ hV 2; have e3 := zQ hV 3; obtain ⟨q0, q1⟩ := hS.1.two; go_simp; refine (l11One_any p A k c j w' hk hlt).mono ?_; rintro e v1 ⟨A9, c9, rfl, hM⟩; exact hK.out _ _ _ rfl rfl ⟨_, _, rfl, hM.after hS.2⟩ hM.b
       refine zS (fun w' hS hV K hK => ?_) ?_
       · obtain ⟨q0, q1⟩ := hS.1.two; go_simp; exact zO hK
       refine zS (fun w' hS hV K hK => ?_) ?_
       · obtain ⟨q0, q1⟩ := hS.1.two; go_simp; exact zO hK
       refine zS (fun w' hS hV K hK => ?_) ?_
       · have e5 := zQ hV 5; have e6 := zQ hV 6; obtain ⟨q0, q1⟩ := hS.1.two; go_simp; refine (l11One_any p A k c q w' hk hlq).mono ?_; rintro e v1 ⟨A9, c9, rfl, hM⟩; exact hK.out _ _ _ rfl rfl ⟨_, _, rfl, hM.after hS.2⟩ hM.b
       refine zS (fun w' hS hV K hK => ?_) ?_
       · have e1 := zQ hV 1; obtain ⟨A4, c4, e4, h4⟩ := hV 4 (by decide); obtain ⟨A7, c7, e7, h7⟩ := hV 7 (by decide); obtain ⟨q0, q1⟩ := hS.1.two; go_simp; refine (l11Times_any p hp hp2 k hk A c st A4 c4 (unitRow (pw k) j) A7 c7 (unitRow (pw k) q) w' hc h4.2.cap h7.2.cap (HA.out.below hS.2) hst h4.rd (unitRow_nums hp _ _) h7.rd (unitRow_nums hp _ _)).mono ?_; rintro e v1 ⟨A9, c9, rfl, hM⟩; exact hK.out _ _ _ rfl rfl ⟨_, _, rfl, hM.after hS.2⟩ hM.b
       refine zS (fun w' hS hV K hK => ?_) ?_
       · obtain ⟨q0, q1⟩ := hS.1.two; go_simp; exact zO hK
       refine zS (fun w' hS hV K hK => ?_) ?_
       · obtain ⟨q0, q1⟩ := hS.1.two; go_simp; exact zO hK
       refine zS (fun w' hS hV K hK => ?_) ?_
       · have e9 := zQ hV 9; have e10 := zQ hV 10; obtain ⟨q0, q1⟩ := hS.1.two; go_simp; exact zO hK
       refine zS (fun w' hS hV K hK => ?_) ?_
       · obtain ⟨A4, c4, e4, h4⟩ := hV 4 (by decide); obtain ⟨A7, c7, e7, h7⟩ := hV 7 (by decide); obtain ⟨A8, c8, e8, h8⟩ := hV 8 (by decide); have e11 := zQ hV 11; obtain ⟨q0, q1⟩ := hS.1.two; obtain ⟨g, o1, rfl, hgk, hgc⟩ := h8.rd.int hjq; go_simp; exact hK.out _ _ _ rfl rfl ⟨_, rfl, by rw [hgc, HVV.out, List.getD_eq_getElem?_getD, List.getElem?_eq_getElem hgk]; rfl⟩ zG
       refine zS (fun w' hS hV K hK => ?_) ?_
       · obtain ⟨A4, c4, e4, h4⟩ := hV 4 (by decide); obtain ⟨A7, c7, e7, h7⟩ := hV 7 (by decide); obtain ⟨A8, c8, e8, h8⟩ := hV 8 (by decide); obtain ⟨p12, e12, h12⟩ := hV 12 (by decide); obtain ⟨q0, q1⟩ := hS.1.two; skip; go_simp; exact zO hK
       refine zS (fun w' hS hV K hK => ?_) ?_
       · obtain ⟨A4, c4, e4, h4⟩ := hV 4 (by decide); obtain ⟨A7, c7, e7, h7⟩ := hV 7 (by decide); obtain ⟨A8, c8, e8, h8⟩ := hV 8 (by decide); obtain ⟨p12, e12, h12⟩ := hV 12 (by decide); have e13 := zQ hV 13; obtain ⟨q0, q1⟩ := hS.1.two; go_simp; exact hK.out _ _ _ rfl rfl ⟨_, rfl, Blk.new _ _ _⟩ (zG.alloc (Nat.le_refl _) _)
       refine fun w' hS hV => ?_
       have e0 := zT hV 0
       have e1 := zT hV 1
       have e2 := zT hV 2
       have e3 := zT hV 3
       obtain ⟨A4, c4, e4, h4⟩ := hV 4 (by decide)
       have e5 := zT hV 5
       have e6 := zT hV 6
       obtain ⟨A7, c7, e7, h7⟩ := hV 7 (by decide)
       obtain ⟨A8, c8, e8, h8⟩ := hV 8 (by decide)
       have e9 := zT hV 9
       have e10 := zT hV 10
       have e11 := zT hV 11
       obtain ⟨p12, e12, h12⟩ := hV 12 (by decide)
       have e13 := zT hV 13
       obtain ⟨b14, e14, h14⟩ := hV 14 (by decide)
       simp only [e0, e1, e2, e3, e4, e5, e6, e7, e8, e9, e10, e11, e12, e13, e14]
       clear e0 e1 e2 e3 e4 e5 e6 e7 e8 e9 e10 e11 e12 e13 e14
       obtain ⟨k7, s2⟩ := hS
       refine any_plain (j := 15) (by kernel_rfl) (Eq.trans (by simp only [zA, zB, zC]; exact rfl) rfl) rfl (fun K hK => ?_)
       refine wp_app1 wo w' 24 2 _ _ Tryz.underlying24 info_i rfl (by omega) _ _ rfl A2 q c2 _ _ (HR.out.below s2) (by omega) rfl _ h14 (by rfl) (by rfl) ?_
       intro A20 c20 w20 hM20 hg20
       refine hK.out _ _ ?_
       simp only [Act.put, zD, zE, zF]
       refine any_one (j := 16) (by kernel_rfl) (Eq.trans (by simp only [zA, zB, zC]; exact rfl) rfl) (fun K hK => ?_)
       go_simp
       refine hK.out _ _ (wpAny_done (by kernel_rfl) ?_ _)
       have k8 := k7.grown hg20 ((HR.out.below s2).2.ne_blk k7 (by decide))
       have HR2 : Hid (MkI wo w20 A20 (q + 1) c20 (tab (q + 1) (fun q => (dblL p k st (unitRow (pw k) j) (unitRow (pw k) q)).getD (j ^^^ q) 0))) := Lib.hid (by rw [tab_succ, ← HVV.out]; simpa [MkI, ints] using hM20)
       clear k7 hg20 hM20 k3 hxo
       go_wp2
       go_roundw
       case rel => exact ⟨q + 1, A20, c20, by omega, by go_num, rfl, HR2, k8⟩
       case measure => simp [intOf]; omega
     · obtain rfl : q = pw k := by omega
       go_wp2_with (first
        | (go_at_call 101; refine (l11Size_any p A k c _ (by omega)).mono ?_; rintro e w3 ⟨rfl, hb5⟩; have HR := Lib.hid (HR0.out.below hb5); have k3 := kr.below hb5 kr.lt; clear q0 q1 hb5 kr HR0)
        | (at_builtin; refine wpList_appRowG w wo _ rfl _ _ rfl A' j c' _ A2 (pw k) c2 _ HM.out HR.out (by omega) rfl ?_ ?_; (go_simp); intro A4 c4 w4 hM4 hg4 _))
       have k8 := k3.grown hg4 ((HM.out.below HR.out.b).ne_blk k3 (by decide))
       go_roundw
       case rel => exact ⟨j + 1, A4, c4, by omega, by go_num, rfl, Lib.hid (by rw [tab_succ]; exact hM4), k8⟩
       case measure => simp [intOf]; omega
  · obtain rfl : j = pw k := by omega
    go_wp2_with fail
    refine (l11Size_any p A k c wr (by omega)).mono ?_
    rintro e w5 ⟨rfl, hb5⟩
    go_wp2
    go_ret
    exact ⟨_, _, rfl, HM0.out.below hb5⟩
set_option maxHeartbeats 6400000 in
set_option maxRecDepth 8000 in
theorem dproducts_any (p : Int) (hp : 2 ≤ p) (hp2 : p ≤ 13) (k : Nat) (hk : k ≤ 4) (A : Option Addr) (c : Nat) (st : List Int) (w : World) (hc : k ≤ c) (ha : Rd w A k (ints st)) (hst : NumsL p st) :
    Calls Tryz.prog 126 #[.agg #[.int .i64 p, .slice A k c]] w fun e w' => ∃ A' c', e = .returned (.slice A' (pw k) c') ∧ MkII w w' A' (pw k) c' (prodM p k st) := by
 have hpk : pw k ≤ 16 := pw_le hk
 have hpos := pw_pos k
 have hB0 : Below w.heap.size w (w.alloc (.cells #[.int .i64 p, .slice A k c] 26)) := zG.alloc (Nat.le_refl _) _
 have k0 : Blk (w.alloc (.cells #[.int .i64 p, .slice A k c] 26)) w.heap.size 26 #[.int .i64 p, .slice A k c] := Blk.new _ _ _
 have k1 := k0.alloc (.cells #[] 24)
 have hM1 : MkII w ((w.alloc (.cells #[.int .i64 p, .slice A k c] 26)).alloc (.cells #[] 24)) (some ⟨w.heap.size + 1, 0, none⟩) 0 0 [] := by
  have := MkII.empty hB0
  simpa using this
 obtain ⟨q0, q1⟩ := k1.two
 clear k0
 have hHA := Lib.hid ha
 obtain ⟨n, hn⟩ : ∃ n, n = pw k := ⟨_, rfl⟩
 have HN := Lib.hid hn
 have hsz := fun w => dsize_any p A k c w hk
 rw [← hn] at hpk hpos hsz
 obtain ⟨G, hG⟩ : ∃ G : Nat → Nat → List Int, G = fun j q => dblL p k st (unitRow n j) (unitRow n q) := ⟨_, rfl⟩
 have hGl : ∀ j q, (G j q).length = n := fun j q => by rw [hG, hn]; exact dblL_len _ _ _ _ _
 have hti : Hid (∀ (w' : World) (j q : Nat) (X Y : Option Addr) (cx cy : Nat), Below w.heap.size w w' → n ≤ cx → n ≤ cy → Rd w' X n (ints (unitRow n j)) → Rd w' Y n (ints (unitRow n q)) → Calls Tryz.prog 108 #[.agg #[.int .i64 p, .slice A k c], .slice X n cx, .slice Y n cy] w' fun e w'' => ∃ A' c', e = .returned (.slice A' n c') ∧ MkI w' w'' A' n c' (G j q)) := Lib.hid fun w' j q X Y cx cy hb hcx hcy hX hY => by
  rw [hG]
  subst hn
  exact dtimes_any p hp hp2 k hk A c st X cx _ Y cy _ w' hc hcx hcy (ha.below hb) hst hX (unitRow_nums hp _ _) hY (unitRow_nums hp _ _)
 have HPR : Hid (prodM p k st = tab n fun j => tab n fun q => (G j q).getD (j ^^^ q) 0) := Lib.hid (by rw [hG, hn]; rfl)
 have HGL := Lib.hid hGl
 have HX : Hid (∀ j q, j < n → q < n → j ^^^ q < n) := Lib.hid fun j q h1 h2 => by rw [hn] at h1 h2 ⊢; exact xor_lt h1 h2
 rw [← hn]
 clear hn hG hst ha hGl hB0
 go_enter Tryz.func126, Tryz.ntmps126
 go_wp2_with fail
 refine (hsz _).mono ?_
 rintro e w2 ⟨rfl, hb2⟩
 have hM2 := hM1.below hb2
 have k2 := k1.below hb2 k1.lt
 clear q0 q1 k1
 go_wp2_with fail
 refine (unit_any n _ (by omega)).mono ?_
 rintro e w3 ⟨U, cU, rfl, hU⟩
 have hM3 := hM2.below hU.b
 have k3 := k2.below hU.b k2.lt
 have hsz2 : w.heap.size + 1 < w2.heap.size := by have := hb2.size; simp at this; omega
 have hKp : Keeps w2 w3 w3 (.slice (some ⟨w.heap.size + 1, 0, none⟩) 0 0) := ⟨Nat.le_refl _, fun _ _ _ => rfl, fun gb e => .inl (lt_of_own e hsz2)⟩
 have HU := Lib.hid hU
 clear hM1 hM2 k2 hb2 hsz2 hU
 go_wp2
 go_loopw [3, 14] (fun out i wr => ∃ (j : Nat) (A' : Option Addr) (c' : Nat), j ≤ n ∧ i = .int .i64 j ∧ out = .slice A' j c' ∧ Hid (MkII w wr A' j c' (tab j fun j => tab n fun q => (G j q).getD (j ^^^ q) 0)) ∧ Hid (Keeps w2 w3 wr (.slice A' j c')) ∧ Blk wr w.heap.size 26 #[.int .i64 p, .slice A k c]) (fun _ i _ => n - (intOf i).toNat)
 case atStart => exact ⟨0, _, _, by omega, rfl, rfl, Lib.hid (by simpa [tab] using hM3), Lib.hid hKp, k3⟩
 case round =>
  obtain ⟨j, A', c', hj, rfl, rfl, HM, HKP, kr⟩ := hrel
  clear hM3 hKp k3
  by_cases hlt : j < n
  · obtain ⟨wo, hwo⟩ : ∃ W, W = wr := ⟨_, rfl⟩
    rw [← hwo] at HM HKP kr ⊢
    clear hwo
    obtain ⟨gu, ou, rfl, hxk, A1, c1, hcu, hru, hcc⟩ := (HU.out.keep HKP.out.2.1).at_ hlt
    have hrow := unitM_get n j hxk
    rw [hrow, unitRow_len] at hru hcu hcc
    have HRU := Lib.hid hru
    have hR0 : MkI wo (wo.alloc (.cells #[] 2)) (some ⟨wo.heap.size, 0, none⟩) 0 0 [] := by simpa [MkI, ints] using Mk.lit (E := 2) (Below.refl wo.heap.size wo) #[] (by simp)
    have ko1 := kr.alloc (.cells #[] 2)
    obtain ⟨q0, q1⟩ := ko1.two
    clear hru hrow hxk
    go_wp2_with fail
    refine (hsz _).mono ?_
    rintro e w4 ⟨rfl, hb4⟩
    have hR4 := hR0.below hb4
    have k4 := ko1.below hb4 ko1.lt
    have hsz4 : wo.heap.size < w4.heap.size := by have := hb4.size; simp at this; omega
    clear q0 q1 hR0 ko1 kr hb4 hcu
    go_wp2_with fail
    refine (unit_any n _ (by omega)).mono ?_
    rintro e w5 ⟨U2, cU2, rfl, hU2⟩
    have hR5 := hR4.below hU2.b
    have k5 := k4.below hU2.b k4.lt
    have hKp : Keeps w4 w5 w5 (.slice (some ⟨wo.heap.size, 0, none⟩) 0 0) := ⟨Nat.le_refl _, fun _ _ _ => rfl, fun gb e => .inl (lt_of_own e hsz4)⟩
    have HU2 := Lib.hid hU2
    clear hR4 k4 hU2 hsz4
    go_wp2
    go_loopw [6, 24] (fun row i w6 => ∃ (q : Nat) (A2 : Option Addr) (c2 : Nat), q ≤ n ∧ i = .int .i64 q ∧ row = .slice A2 q c2 ∧ Hid (MkI wo w6 A2 q c2 (tab q fun q => (G j q).getD (j ^^^ q) 0)) ∧ Hid (Keeps w4 w5 w6 (.slice A2 q c2)) ∧ Blk w6 w.heap.size 26 #[.int .i64 p, .slice A k c]) (fun _ i _ => n - (intOf i).toNat)
    case atStart => exact ⟨0, _, _, by omega, rfl, rfl, Lib.hid (by simpa [tab] using hR5), Lib.hid hKp, k5⟩
    case round =>
     obtain ⟨q, A2, c2, hq, rfl, rfl, HR, HKP2, kr⟩ := hrel
     clear hR5 hKp k5
     by_cases hlq : q < n
     · obtain ⟨g2, o2, rfl, hxk2, A3, c3, hcu2, hru2, hcc2⟩ := (HU2.out.keep HKP2.out.2.1).at_ hlq
       have hrow2 := unitM_get n q hxk2
       rw [hrow2, unitRow_len] at hru2 hcu2 hcc2
       have hxo := xor_all j (by omega) q (by omega)
       have hjq := HX.out j q hlt hlq
       have hbr := HR.out.b
       have hcall := hti.out _ j q A1 A3 c1 c3 (HM.out.b.trans (hbr.mono HM.out.b.size)) hcc hcc2 (HRU.out.below hbr) hru2
       obtain ⟨q0, q1⟩ := kr.two
       clear hru2 hrow2 hbr hxk2
       go_wp2_with fail
       refine hcall.mono ?_
       rintro e w7 ⟨A7, c7, rfl, hM7⟩
       obtain ⟨g7, o7, rfl, hx7, hc7⟩ := hM7.rd.int hjq
       obtain ⟨v, hv⟩ : ∃ v, v = (G j q)[j ^^^ q] := ⟨_, rfl⟩
       rw [← hv] at hc7
       have HV : Hid ((G j q).getD (j ^^^ q) 0 = v) := Lib.hid (by rw [hv, getD_of_lt 0 hx7])
       have k7 := kr.below hM7.b kr.lt
       have HM7 := Lib.hid hM7.b
       clear hM7 hcall hv hx7 q0 q1 hcu2
       go_wp2_with (at_builtin; refine wpList_app1 wo _ 24 2 _ _ Tryz.underlying24 info_i rfl (by omega) rfl _ _ rfl A2 q c2 _ _ (HR.out.below HM7.out) (by omega) rfl rfl rfl ?_; intro A4 c4 w4 hM4 hg4 hat4)
       go_roundw
       case rel => exact ⟨q + 1, A4, c4, by omega, by go_num, rfl, Lib.hid (by rw [tab_succ, HV.out]; simpa [MkI, ints] using hM4), Lib.hid (HKP2.out.step HM7.out hg4 hat4), k7.grown hg4 ((HR.out.below HM7.out).2.ne_blk k7 (by decide))⟩
       case measure => simp [intOf]; omega
     · obtain rfl : q = n := by omega
       go_wp2_with (at_builtin; refine wpList_appRowG w wo _ rfl _ _ rfl A' j c' _ A2 q c2 _ HM.out HR.out (by omega) rfl ?_ ?_; (go_simp); intro A4 c4 w4 hM4 hg4 hat4)
       have k8 := kr.grown hg4 ((HM.out.below HR.out.b).ne_blk kr (by decide))
       go_roundw
       case rel => exact ⟨j + 1, A4, c4, by omega, by go_num, rfl, Lib.hid (by rw [tab_succ]; exact hM4), Lib.hid (HKP.out.step HR.out.b hg4 hat4), k8⟩
       case measure => simp [intOf]; omega
  · obtain rfl : j = n := by omega
    go_wp2
    go_ret
    exact ⟨_, _, rfl, by rw [HPR.out]; exact HM.out⟩
/-- The cells of a square list of lists that is read. -/
theorem RdII.grid {w : World} {g o n m : Nat} {p : Int} {M : List (List Int)} (h : RdII w (some ⟨g, o, none⟩) n M) (hT : Tab p m M) {i j : Nat} (hi : i < n) (hj : j < m) :
    ∃ gi oi ci, w.cell? ⟨g, o + i, none⟩ = some (.slice (some ⟨gi, oi, none⟩) m ci) ∧ w.cell? ⟨gi, oi + j, none⟩ = some (.int .i64 (ent M i j)) := by
 obtain ⟨g', o', e, hx, A', c', hc, hr, -⟩ := h.at_ hi
 injection e with e; injection e with e1 e2 _
 subst e1; subst e2
 have hl : M[i].length = m := (hT M[i] (List.getElem_mem hx)).1
 rw [hl] at hc hr
 obtain ⟨gi, oi, rfl, hxj, hcj⟩ := hr.int hj
 exact ⟨gi, oi, c', hc, by rw [hcj, ent_at hx hxj]⟩
theorem Keeps.fresh {w2 w3 wr : World} {g n c : Nat} (h1 : w3.heap.size ≤ wr.heap.size) (h2 : ∀ b, w2.heap.size ≤ b → b < w3.heap.size → wr.heap[b]? = w3.heap[b]?) (hg : w3.heap.size ≤ g) : Keeps w2 w3 wr (.slice (some ⟨g, 0, none⟩) n c) := ⟨h1, h2, fun gb e => .inr (by
 have : g = gb := by simpa [Value.ownBlock] using e
 omega)⟩
set_option maxHeartbeats 12800000 in
set_option maxRecDepth 8000 in
theorem l14Equations_any (p : Int) (hp : 2 ≤ p) (hp2 : p ≤ 13) (k : Nat) (hk : k ≤ 4) (A : Option Addr) (c : Nat) (st : List Int) (w : World) (hk3 : k ≤ 3) (hc : k ≤ c) (ha : Rd w A k (ints st)) (hst : NumsL p st) :
    Calls Tryz.prog 128 #[.agg #[.int .i64 p, .slice A k c]] w fun e w' => ∃ A' c', e = .returned (.slice A' (pw k * pw k * pw k) c') ∧ MkII w w' A' (pw k * pw k * pw k) c' (tab (pw k * pw k * pw k) (eqF p (pw k) (prodM p k st))) := by
 have hpk : pw k ≤ 8 := pw_le hk3
 have hpos := pw_pos k
 have hB0 : Below w.heap.size w (w.alloc (.cells #[.int .i64 p, .slice A k c] 26)) := zG.alloc (Nat.le_refl _) _
 have k0 : Blk (w.alloc (.cells #[.int .i64 p, .slice A k c] 26)) w.heap.size 26 #[.int .i64 p, .slice A k c] := Blk.new _ _ _
 have hbs := fun w' (h : Below w.heap.size w w') => l11Basis_any p hp hp2 k (by omega) A c st w' hc (ha.below h) hst
 have hsz := fun w' => l11Size_any p A k c w' (by omega)
 obtain ⟨PM, hPM⟩ : ∃ z, z = prodM p k st := ⟨_, rfl⟩
 rw [← hPM] at hbs ⊢
 obtain ⟨n, hn⟩ : ∃ n, n = pw k := ⟨_, rfl⟩
 rw [← hn] at hpk hpos hbs hsz ⊢
 have HBS := Lib.hid hbs
 have HSZ := Lib.hid hsz
 have HPT : Hid (Tab p n PM) := Lib.hid (by rw [hPM, hn]; exact prodM_tab (by omega) k st)
 have HX : Hid (∀ a b, a < n → b < n → a ^^^ b < n) := Lib.hid fun a b h1 h2 => by rw [hn] at h1 h2 ⊢; exact xor_lt h1 h2
 obtain ⟨N, hN⟩ : ∃ N, N = n * n := ⟨_, rfl⟩
 have HNN := Lib.hid hN
 have hN64 : N ≤ 64 := by rw [hN]; exact Nat.mul_le_mul hpk hpk
 have fN2 : (n : Int) * (n : Int) = (N : Int) := by rw [← Int.natCast_mul, ← hN]
 have hmk := make_i (P := Tryz.prog) 24 2 Tryz.underlying24 info_i N (by omega)
 have HTB : Hid (∀ i q r, i ≤ n → q ≤ n → r ≤ n → (i * n + q) * n + r ≤ 5000) := Lib.hid fun i q r h1 h2 h3 => by
  have e1 : i * n ≤ 8 * 8 := Nat.mul_le_mul (by omega) hpk
  have e2 : (i * n + q) * n ≤ 72 * 8 := Nat.mul_le_mul (by omega) hpk
  omega
 clear hPM hN hn hbs hsz ha hst
 go_enter Tryz.func128, Tryz.ntmps128
 go_wp2
 refine wp_obs 6 [[],[0],[],[2],[0,1],[2,3]] [VIs (.agg #[.int .i64 p, .slice A k c]), VMat w n PM, VIs (.agg #[.int .i64 p, .slice A k c]), VIs (.int .i64 (n)), VMat w n PM, VIs (.int .i64 (n))] (fun w' => Blk w' w.heap.size 26 #[.int .i64 p, .slice A k c] ∧ Below w.heap.size w w') (by kernel_rfl) (by kernel_rfl) (fun _ _ h hb => ⟨h.1.below hb h.1.lt, h.2.trans (hb.mono h.2.size)⟩) (⟨k0.drew, hB0.drew⟩) (fun x => ?_)
 refine zS (fun w' hS hV K hK => ?_) ?_
 · obtain ⟨q0, q1⟩ := hS.1.two; go_simp; exact zO hK
 refine zS (fun w' hS hV K hK => ?_) ?_
 · have e0 := zQ hV 0; obtain ⟨q0, q1⟩ := hS.1.two; go_simp; refine (HBS.out w' hS.2).mono ?_; rintro e v1 ⟨A9, c9, rfl, hM⟩; exact hK.out _ _ _ rfl rfl ⟨_, _, rfl, hM.after hS.2⟩ hM.b
 refine zS (fun w' hS hV K hK => ?_) ?_
 · obtain ⟨q0, q1⟩ := hS.1.two; go_simp; exact zO hK
 refine zS (fun w' hS hV K hK => ?_) ?_
 · have e2 := zQ hV 2; obtain ⟨q0, q1⟩ := hS.1.two; go_simp; refine (HSZ.out w').mono ?_; rintro e v1 ⟨rfl, hb⟩; exact hK.out _ _ _ rfl rfl rfl hb
 refine zS (fun w' hS hV K hK => ?_) ?_
 · obtain ⟨A1, c1, e1, h1⟩ := hV 1 (by decide); obtain ⟨q0, q1⟩ := hS.1.two; go_simp; exact hK.out _ _ _ rfl rfl ⟨_, _, rfl, h1⟩ zG
 refine zS (fun w' hS hV K hK => ?_) ?_
 · have e3 := zQ hV 3; obtain ⟨q0, q1⟩ := hS.1.two; go_simp; exact zO hK
 refine fun w' hS hV => ?_
 have e0 := zT hV 0
 obtain ⟨A1, c1, e1, h1⟩ := hV 1 (by decide)
 have e2 := zT hV 2
 have e3 := zT hV 3
 obtain ⟨A4, c4, e4, h4⟩ := hV 4 (by decide)
 have e5 := zT hV 5
 simp only [e0, e1, e2, e3, e4, e5]
 clear e0 e1 e2 e3 e4 e5
 refine wpAny_done (by kernel_rfl) ?_ _
 obtain ⟨kb, -⟩ := hS
 obtain ⟨wb, hwb⟩ : ∃ W, W = w' := ⟨_, rfl⟩
 obtain ⟨QA, hQA⟩ : ∃ z, z = A4 := ⟨_, rfl⟩
 obtain ⟨cP, hQc⟩ : ∃ z, z = c4 := ⟨_, rfl⟩
 have hQM := h4
 rw [← hQA, ← hQc, ← hwb] at hQM
 rw [← hQA, ← hQc, ← hwb]
 rw [← hwb] at kb
 clear h4 hV hwb hQA hQc k0 hB0 h1
 obtain ⟨gP, oP, rfl, -⟩ := hQM.rd.at_ hpos
 have HPO := Lib.hid hQM
 have hM0 : MkII w (wb.alloc (.cells #[] 24)) (some ⟨wb.heap.size, 0, none⟩) 0 0 [] := MkII.empty hQM.b
 have hKp : Keeps w wb (wb.alloc (.cells #[] 24)) (.slice (some ⟨wb.heap.size, 0, none⟩) 0 0) := Keeps.fresh (by simp) (fun b _ hb => Below.heap_alloc wb _ b hb) (Nat.le_refl _)
 have k2 := kb.alloc (.cells #[] 24)
 clear hQM kb
 go_wp2
 go_loopw [5, 6] (fun out i wr => ∃ (i' t : Nat) (A' : Option Addr) (c' : Nat), i' ≤ n ∧ i = .int .i64 i' ∧ out = .slice A' t c' ∧ Hid (t = (i' * n + 0) * n) ∧ Hid (MkII w wr A' t c' (tab t (eqF p n PM))) ∧ Hid (Keeps w wb wr (.slice A' t c')) ∧ Blk wr w.heap.size 26 #[.int .i64 p, .slice A k c]) (fun _ i _ => n - (intOf i).toNat)
 case atStart => exact ⟨0, 0, _, _, by omega, rfl, rfl, Lib.hid (by simp), Lib.hid hM0, Lib.hid hKp, k2⟩
 case round =>
  obtain ⟨i, t, A', c', hi', rfl, rfl, HTT, HM, HKP, kr⟩ := hrel
  clear hM0 hKp k2
  by_cases hlt : i < n
  · go_wp2
    go_loopw [5, 7] (fun out q wr => ∃ (q' t : Nat) (A' : Option Addr) (c' : Nat), q' ≤ n ∧ q = .int .i64 q' ∧ out = .slice A' t c' ∧ Hid (t = (i * n + q') * n) ∧ Hid (MkII w wr A' t c' (tab t (eqF p n PM))) ∧ Hid (Keeps w wb wr (.slice A' t c')) ∧ Blk wr w.heap.size 26 #[.int .i64 p, .slice A k c]) (fun _ q _ => n - (intOf q).toNat)
    case atStart => exact ⟨0, t, _, _, by omega, rfl, rfl, HTT, HM, HKP, kr⟩
    case round =>
     obtain ⟨q, t, A', c', hq', rfl, rfl, HTT, HM, HKP, kr⟩ := hrel
     by_cases hlq : q < n
     · go_wp2
       go_loopw [5, 8] (fun out r wr => ∃ (r' : Nat) (A' : Option Addr) (c' : Nat), r' ≤ n ∧ r = .int .i64 r' ∧ out = .slice A' (t + r') c' ∧ Hid (MkII w wr A' (t + r') c' (tab (t + r') (eqF p n PM))) ∧ Hid (Keeps w wb wr (.slice A' (t + r') c')) ∧ Blk wr w.heap.size 26 #[.int .i64 p, .slice A k c]) (fun _ r _ => n - (intOf r).toNat)
       case atStart => exact ⟨0, _, _, by omega, rfl, rfl, HM, HKP, kr⟩
       case round =>
        obtain ⟨r, A', c', hr', rfl, rfl, HM, HKP, kr⟩ := hrel
        by_cases hlr : r < n
        · have ht5 : t + r ≤ 5000 := by rw [HTT.out]; exact HTB.out i q r hi' hq' hr'
          have HP0 := Lib.hid (HPO.out.keep HKP.out.2.1)
          have hNN := HNN.out
          have hin : i < n := hlt
          have hb_rn : r * n < N := by have := at_lt (n := n) hlr hpos; rw [← hNN] at this; omega
          obtain ⟨rn, hrn⟩ : ∃ z, z = r * n := ⟨_, rfl⟩
          rw [← hrn] at hb_rn
          have f1b : (r : Int) * (n : Int) = (rn : Int) := by rw [← Int.natCast_mul, ← hrn]
          obtain ⟨iq, hiq⟩ : ∃ z, z = i ^^^ q := ⟨_, rfl⟩
          have hiqn : iq < n := hiq ▸ HX.out i q hlt hlq
          have x1 := xor_all i (by omega) q (by omega)
          rw [← hiq] at x1
          obtain ⟨a1, ha1⟩ : ∃ z, z = rn + iq := ⟨_, rfl⟩
          have hba1 : a1 < N := by have := at_lt hlr hiqn; rw [← hrn, ← ha1, ← hNN] at this; exact this
          have g1b : (rn : Int) + (iq : Int) = (a1 : Int) := by omega
          obtain ⟨rq, hrq⟩ : ∃ z, z = r ^^^ q := ⟨_, rfl⟩
          have hrqn : rq < n := hrq ▸ HX.out r q hlr hlq
          have x2 := xor_all r (by omega) q (by omega)
          rw [← hrq] at x2
          have hb_rqn : rq * n < N := by have := at_lt (n := n) hrqn hpos; rw [← hNN] at this; omega
          obtain ⟨rqn, hrqn2⟩ : ∃ z, z = rq * n := ⟨_, rfl⟩
          rw [← hrqn2] at hb_rqn
          have f2b : (rq : Int) * (n : Int) = (rqn : Int) := by rw [← Int.natCast_mul, ← hrqn2]
          obtain ⟨a2, ha2⟩ : ∃ z, z = rqn + i := ⟨_, rfl⟩
          have hba2 : a2 < N := by have := at_lt hrqn hlt; rw [← hrqn2, ← ha2, ← hNN] at this; exact this
          have g2b : (rqn : Int) + (i : Int) = (a2 : Int) := by omega
          obtain ⟨ri, hri⟩ : ∃ z, z = r ^^^ i := ⟨_, rfl⟩
          have hrin : ri < n := hri ▸ HX.out r i hlr hlt
          have x3 := xor_all r (by omega) i (by omega)
          rw [← hri] at x3
          have hb_rin : ri * n < N := by have := at_lt (n := n) hrin hpos; rw [← hNN] at this; omega
          obtain ⟨rin, hrin2⟩ : ∃ z, z = ri * n := ⟨_, rfl⟩
          rw [← hrin2] at hb_rin
          have f3b : (ri : Int) * (n : Int) = (rin : Int) := by rw [← Int.natCast_mul, ← hrin2]
          obtain ⟨a3, ha3⟩ : ∃ z, z = rin + q := ⟨_, rfl⟩
          have hba3 : a3 < N := by have := at_lt hrin hlq; rw [← hrin2, ← ha3, ← hNN] at this; exact this
          have g3b : (rin : Int) + (q : Int) = (a3 : Int) := by omega
          have hi := hlt
          have hq := hlq
          have hrq' := hrqn
          have HEQ : Hid (eqRow p n PM i q r = addAt p (addAt p (addAt p (List.replicate N 0) a1 (ent PM i q)) a2 (-(ent PM rq q))) a3 (-(ent PM i ri))) := Lib.hid (by unfold eqRow; rw [ha1, ha2, ha3, hrn, hrqn2, hrin2, hiq, hrq, hri, hNN])
          have HFF : Hid (eqF p n PM (t + r) = eqRow p n PM i q r) := Lib.hid (by rw [HTT.out, eqF_at p n PM i hlq hlr])
          clear hrn hrqn2 hrin2 hiq hrq hri ha1 ha2 ha3 hNN
          have hm0 := Mk.made (E := 2) (n := N) (z := .int .i64 0) (Below.refl wr.heap.size wr) (by simp only [maxLen]; omega)
          rw [ints_replicate] at hm0
          obtain ⟨L0, hL0⟩ : ∃ z, z = List.replicate N (0 : Int) := ⟨_, rfl⟩
          rw [← hL0] at hm0 HEQ
          have HN0 : Hid (NumsL p L0) := Lib.hid (by rw [hL0]; exact NumsL.replicate (by omega) _)
          obtain ⟨v0, hv0⟩ : ∃ W, W = wr.alloc (.cells (madeCells #[.int .i64 0] N) 2) := ⟨_, rfl⟩
          have HV0 := Lib.hid hv0
          rw [← hv0] at hm0
          have HR0 : Hid (MkI wr v0 (some ⟨wr.heap.size, 0, none⟩) N N L0) := Lib.hid hm0
          obtain ⟨q0, q1⟩ := kr.two
          clear hm0 hL0 hv0
          go_wp2
          rw [← HV0.out]
          clear q0 q1
          have HPk := Lib.hid (HP0.out.below HR0.out.b)
          obtain ⟨gi, oi, ci, d1, d2⟩ := HPk.out.grid HPT.out hlt hlq
          obtain ⟨ev1, he⟩ : ∃ z, z = ent PM i q := ⟨_, rfl⟩
          obtain ⟨be1, be2⟩ := HPT.out.ent (show 0 < p by omega) i q
          rw [← he] at d2 be1 be2
          obtain ⟨cy, -⟩ := mkI_at HR0.out hba1
          obtain ⟨y1, hy⟩ : ∃ z, z = L0.getD a1 0 := ⟨_, rfl⟩
          obtain ⟨by1, by2⟩ := HN0.out.getD (show 0 < p by omega) a1
          rw [← hy] at cy by1 by2
          obtain ⟨L1, hL⟩ : ∃ z, z = addAt p L0 a1 ((ent PM i q)) := ⟨_, rfl⟩
          have HL1 := Lib.hid hL
          have HN1 : Hid (NumsL p L1) := Lib.hid (by rw [hL]; exact addAt_nums (by omega) HN0.out _ _)
          have HST : Hid (L0.set a1 ((y1 + ev1) % p) = L1) := Lib.hid (by rw [hL, he, hy]; rfl)
          have wz := i64_fit (y1 + ev1) (by omega) (by omega)
          have kc := kr.below HR0.out.b kr.lt
          clear he hy hL HPk
          go_wp2
          refine wp_obs 18 [[],[],[],[2],[],[],[4,5],[4,5,6],[],[],[8,9],[8,9,10],[],[8,9,10,11,12],[8,9,10,11,12,13],[4,5,6,7,8,9,10,11,12,13,14],[2,3,4,5,6,7,8,9,10,11,12,13,14,15],[0,1],[0,1,2,3,4,5,6,7,8,9,10,11,12,13,14,15,16,17]] [VIs (.slice (some ⟨wr.heap.size, 0, none⟩) N N), VIs (.int .i64 (a1)), VIs (.pointer (some ⟨w.heap.size, 0, none⟩)), VIs (.int .i64 (p)), VIs (.slice (some ⟨wr.heap.size, 0, none⟩) N N), VIs (.int .i64 (a1)), VIs (.pointer (some ⟨wr.heap.size, a1, none⟩)), VIs (.int .i64 (y1)), VIs (.slice (some ⟨gP, oP, none⟩) n cP), VIs (.int .i64 (i)), VIs (.pointer (some ⟨gP, oP + i, none⟩)), VIs (.slice (some ⟨gi, oi, none⟩) n ci), VIs (.int .i64 (q)), VIs (.pointer (some ⟨gi, oi + q, none⟩)), VIs (.int .i64 (ev1)), VIs (.int .i64 (y1 + ev1)), VIs (.int .i64 ((y1 + ev1) % p)), VIs (.pointer (some ⟨wr.heap.size, a1, none⟩))] (fun w' => Blk w' w.heap.size 26 #[.int .i64 p, .slice A k c] ∧ w'.cell? ⟨wr.heap.size, a1, none⟩ = some (.int .i64 y1) ∧ w'.cell? ⟨gP, oP + i, none⟩ = some (.slice (some ⟨gi, oi, none⟩) n ci) ∧ w'.cell? ⟨gi, oi + q, none⟩ = some (.int .i64 ev1) ∧ Below v0.heap.size v0 w') (by kernel_rfl) (by kernel_rfl) (fun _ _ h hb => ⟨h.1.below hb h.1.lt, (hb.cell (World.block_lt_of_cell? _ _ h.2.1)).trans h.2.1, (hb.cell (World.block_lt_of_cell? _ _ h.2.2.1)).trans h.2.2.1, (hb.cell (World.block_lt_of_cell? _ _ h.2.2.2.1)).trans h.2.2.2.1, h.2.2.2.2.trans (hb.mono h.2.2.2.2.size)⟩) (⟨kc.drew, cy, d1, d2, zG.drew⟩) (fun x => ?_)
          refine zS (fun w' hS hV K hK => ?_) ?_
          · obtain ⟨q0, q1⟩ := hS.1.two; have q2 := hS.2.1; have q3 := hS.2.2.1; have q4 := hS.2.2.2.1; go_simp; exact zO hK
          refine zS (fun w' hS hV K hK => ?_) ?_
          · obtain ⟨q0, q1⟩ := hS.1.two; have q2 := hS.2.1; have q3 := hS.2.2.1; have q4 := hS.2.2.2.1; go_simp; exact zO hK
          refine zS (fun w' hS hV K hK => ?_) ?_
          · obtain ⟨q0, q1⟩ := hS.1.two; have q2 := hS.2.1; have q3 := hS.2.2.1; have q4 := hS.2.2.2.1; go_simp; exact zO hK
          refine zS (fun w' hS hV K hK => ?_) ?_
          · have e2 := zQ hV 2; obtain ⟨q0, q1⟩ := hS.1.two; have q2 := hS.2.1; have q3 := hS.2.2.1; have q4 := hS.2.2.2.1; go_simp; exact zO hK
          refine zS (fun w' hS hV K hK => ?_) ?_
          · obtain ⟨q0, q1⟩ := hS.1.two; have q2 := hS.2.1; have q3 := hS.2.2.1; have q4 := hS.2.2.2.1; go_simp; exact zO hK
          refine zS (fun w' hS hV K hK => ?_) ?_
          · obtain ⟨q0, q1⟩ := hS.1.two; have q2 := hS.2.1; have q3 := hS.2.2.1; have q4 := hS.2.2.2.1; go_simp; exact zO hK
          refine zS (fun w' hS hV K hK => ?_) ?_
          · have e4 := zQ hV 4; have e5 := zQ hV 5; obtain ⟨q0, q1⟩ := hS.1.two; have q2 := hS.2.1; have q3 := hS.2.2.1; have q4 := hS.2.2.2.1; go_simp; exact zO hK
          refine zS (fun w' hS hV K hK => ?_) ?_
          · have e6 := zQ hV 6; obtain ⟨q0, q1⟩ := hS.1.two; have q2 := hS.2.1; have q3 := hS.2.2.1; have q4 := hS.2.2.2.1; go_simp; exact zO hK
          refine zS (fun w' hS hV K hK => ?_) ?_
          · obtain ⟨q0, q1⟩ := hS.1.two; have q2 := hS.2.1; have q3 := hS.2.2.1; have q4 := hS.2.2.2.1; go_simp; exact zO hK
          refine zS (fun w' hS hV K hK => ?_) ?_
          · obtain ⟨q0, q1⟩ := hS.1.two; have q2 := hS.2.1; have q3 := hS.2.2.1; have q4 := hS.2.2.2.1; go_simp; exact zO hK
          refine zS (fun w' hS hV K hK => ?_) ?_
          · have e8 := zQ hV 8; have e9 := zQ hV 9; obtain ⟨q0, q1⟩ := hS.1.two; have q2 := hS.2.1; have q3 := hS.2.2.1; have q4 := hS.2.2.2.1; go_simp; exact zO hK
          refine zS (fun w' hS hV K hK => ?_) ?_
          · have e10 := zQ hV 10; obtain ⟨q0, q1⟩ := hS.1.two; have q2 := hS.2.1; have q3 := hS.2.2.1; have q4 := hS.2.2.2.1; go_simp; exact zO hK
          refine zS (fun w' hS hV K hK => ?_) ?_
          · obtain ⟨q0, q1⟩ := hS.1.two; have q2 := hS.2.1; have q3 := hS.2.2.1; have q4 := hS.2.2.2.1; go_simp; exact zO hK
          refine zS (fun w' hS hV K hK => ?_) ?_
          · have e11 := zQ hV 11; have e12 := zQ hV 12; obtain ⟨q0, q1⟩ := hS.1.two; have q2 := hS.2.1; have q3 := hS.2.2.1; have q4 := hS.2.2.2.1; go_simp; exact zO hK
          refine zS (fun w' hS hV K hK => ?_) ?_
          · have e13 := zQ hV 13; obtain ⟨q0, q1⟩ := hS.1.two; have q2 := hS.2.1; have q3 := hS.2.2.1; have q4 := hS.2.2.2.1; go_simp; exact zO hK
          refine zS (fun w' hS hV K hK => ?_) ?_
          · have e7 := zQ hV 7; have e14 := zQ hV 14; obtain ⟨q0, q1⟩ := hS.1.two; have q2 := hS.2.1; have q3 := hS.2.2.1; have q4 := hS.2.2.2.1; go_simp; exact zO hK
          refine zS (fun w' hS hV K hK => ?_) ?_
          · have e3 := zQ hV 3; have e15 := zQ hV 15; obtain ⟨q0, q1⟩ := hS.1.two; have q2 := hS.2.1; have q3 := hS.2.2.1; have q4 := hS.2.2.2.1; go_simp; refine (l01Mod_any p (y1 + ev1) w' (by omega) hp2 (by omega) (by omega)).mono ?_; rintro e w1 ⟨rfl, rfl⟩; exact zO hK
          refine zS (fun w' hS hV K hK => ?_) ?_
          · have e0 := zQ hV 0; have e1 := zQ hV 1; obtain ⟨q0, q1⟩ := hS.1.two; have q2 := hS.2.1; have q3 := hS.2.2.1; have q4 := hS.2.2.2.1; go_simp; exact zO hK
          refine fun w' hS hV => ?_
          have e0 := zT hV 0
          have e1 := zT hV 1
          have e2 := zT hV 2
          have e3 := zT hV 3
          have e4 := zT hV 4
          have e5 := zT hV 5
          have e6 := zT hV 6
          have e7 := zT hV 7
          have e8 := zT hV 8
          have e9 := zT hV 9
          have e10 := zT hV 10
          have e11 := zT hV 11
          have e12 := zT hV 12
          have e13 := zT hV 13
          have e14 := zT hV 14
          have e15 := zT hV 15
          have e16 := zT hV 16
          have e17 := zT hV 17
          simp only [e0, e1, e2, e3, e4, e5, e6, e7, e8, e9, e10, e11, e12, e13, e14, e15, e16, e17]
          clear e0 e1 e2 e3 e4 e5 e6 e7 e8 e9 e10 e11 e12 e13 e14 e15 e16 e17
          obtain ⟨-, -, -, -, s2⟩ := hS
          have hm5 := HR0.out.below s2
          obtain ⟨hoc, hof⟩ := mkI_at hm5 hba1
          refine any_one (j := 18) (by kernel_rfl) (Eq.trans (by simp only [zA, zB, zC]; exact rfl) rfl) (fun K hK => ?_)
          go_simp
          refine hK.out _ _ (wpAny_done (by kernel_rfl) ?_ _)
          have hset := (hm5.set a1 (.int .i64 ((y1 + ev1) % p))).1
          rw [ints_set, HST.out] at hset
          obtain ⟨v1, hwn⟩ : ∃ W, W = World.setCell w' ⟨wr.heap.size, a1, none⟩ (.int .i64 ((y1 + ev1) % p)) := ⟨_, rfl⟩
          rw [← hwn] at hset ⊢
          have HR1 : Hid (MkI wr v1 (some ⟨wr.heap.size, 0, none⟩) N N L1) := Lib.hid hset
          clear hwn hset hoc hof hm5 s2 HST wz kc d1 d2 cy hV 
          have HPk := Lib.hid (HP0.out.below HR1.out.b)
          obtain ⟨gi, oi, ci, d1, d2⟩ := HPk.out.grid HPT.out hrqn hlq
          obtain ⟨ev2, he⟩ : ∃ z, z = ent PM rq q := ⟨_, rfl⟩
          obtain ⟨be1, be2⟩ := HPT.out.ent (show 0 < p by omega) rq q
          rw [← he] at d2 be1 be2
          obtain ⟨cy, -⟩ := mkI_at HR1.out hba2
          obtain ⟨y2, hy⟩ : ∃ z, z = L1.getD a2 0 := ⟨_, rfl⟩
          obtain ⟨by1, by2⟩ := HN1.out.getD (show 0 < p by omega) a2
          rw [← hy] at cy by1 by2
          obtain ⟨L2, hL⟩ : ∃ z, z = addAt p L1 a2 (-(ent PM rq q)) := ⟨_, rfl⟩
          have HL2 := Lib.hid hL
          have HN2 : Hid (NumsL p L2) := Lib.hid (by rw [hL]; exact addAt_nums (by omega) HN1.out _ _)
          have HST : Hid (L1.set a2 ((y2 - ev2) % p) = L2) := Lib.hid (by rw [hL, he, hy]; rfl)
          have wz := i64_fit (y2 - ev2) (by omega) (by omega)
          have kc := kr.below HR1.out.b kr.lt
          clear he hy hL HPk
          go_wp2
          refine wp_obs 20 [[],[],[],[2],[],[],[4,5],[4,5,6],[],[],[],[9,10],[8,9,10,11],[8,9,10,11,12],[],[8,9,10,11,12,13,14],[8,9,10,11,12,13,14,15],[4,5,6,7,8,9,10,11,12,13,14,15,16],[2,3,4,5,6,7,8,9,10,11,12,13,14,15,16,17],[0,1],[0,1,2,3,4,5,6,7,8,9,10,11,12,13,14,15,16,17,18,19]] [VIs (.slice (some ⟨wr.heap.size, 0, none⟩) N N), VIs (.int .i64 (a2)), VIs (.pointer (some ⟨w.heap.size, 0, none⟩)), VIs (.int .i64 (p)), VIs (.slice (some ⟨wr.heap.size, 0, none⟩) N N), VIs (.int .i64 (a2)), VIs (.pointer (some ⟨wr.heap.size, a2, none⟩)), VIs (.int .i64 (y2)), VIs (.slice (some ⟨gP, oP, none⟩) n cP), VIs (.int .i64 (r)), VIs (.int .i64 (q)), VIs (.int .i64 (rq)), VIs (.pointer (some ⟨gP, oP + rq, none⟩)), VIs (.slice (some ⟨gi, oi, none⟩) n ci), VIs (.int .i64 (q)), VIs (.pointer (some ⟨gi, oi + q, none⟩)), VIs (.int .i64 (ev2)), VIs (.int .i64 (y2 - ev2)), VIs (.int .i64 ((y2 - ev2) % p)), VIs (.pointer (some ⟨wr.heap.size, a2, none⟩))] (fun w' => Blk w' w.heap.size 26 #[.int .i64 p, .slice A k c] ∧ w'.cell? ⟨wr.heap.size, a2, none⟩ = some (.int .i64 y2) ∧ w'.cell? ⟨gP, oP + rq, none⟩ = some (.slice (some ⟨gi, oi, none⟩) n ci) ∧ w'.cell? ⟨gi, oi + q, none⟩ = some (.int .i64 ev2) ∧ Below v1.heap.size v1 w') (by kernel_rfl) (by kernel_rfl) (fun _ _ h hb => ⟨h.1.below hb h.1.lt, (hb.cell (World.block_lt_of_cell? _ _ h.2.1)).trans h.2.1, (hb.cell (World.block_lt_of_cell? _ _ h.2.2.1)).trans h.2.2.1, (hb.cell (World.block_lt_of_cell? _ _ h.2.2.2.1)).trans h.2.2.2.1, h.2.2.2.2.trans (hb.mono h.2.2.2.2.size)⟩) (⟨kc.drew, cy, d1, d2, zG.drew⟩) (fun x => ?_)
          refine zS (fun w' hS hV K hK => ?_) ?_
          · obtain ⟨q0, q1⟩ := hS.1.two; have q2 := hS.2.1; have q3 := hS.2.2.1; have q4 := hS.2.2.2.1; go_simp; exact zO hK
          refine zS (fun w' hS hV K hK => ?_) ?_
          · obtain ⟨q0, q1⟩ := hS.1.two; have q2 := hS.2.1; have q3 := hS.2.2.1; have q4 := hS.2.2.2.1; go_simp; exact zO hK
          refine zS (fun w' hS hV K hK => ?_) ?_
          · obtain ⟨q0, q1⟩ := hS.1.two; have q2 := hS.2.1; have q3 := hS.2.2.1; have q4 := hS.2.2.2.1; go_simp; exact zO hK
          refine zS (fun w' hS hV K hK => ?_) ?_
          · have e2 := zQ hV 2; obtain ⟨q0, q1⟩ := hS.1.two; have q2 := hS.2.1; have q3 := hS.2.2.1; have q4 := hS.2.2.2.1; go_simp; exact zO hK
          refine zS (fun w' hS hV K hK => ?_) ?_
          · obtain ⟨q0, q1⟩ := hS.1.two; have q2 := hS.2.1; have q3 := hS.2.2.1; have q4 := hS.2.2.2.1; go_simp; exact zO hK
          refine zS (fun w' hS hV K hK => ?_) ?_
          · obtain ⟨q0, q1⟩ := hS.1.two; have q2 := hS.2.1; have q3 := hS.2.2.1; have q4 := hS.2.2.2.1; go_simp; exact zO hK
          refine zS (fun w' hS hV K hK => ?_) ?_
          · have e4 := zQ hV 4; have e5 := zQ hV 5; obtain ⟨q0, q1⟩ := hS.1.two; have q2 := hS.2.1; have q3 := hS.2.2.1; have q4 := hS.2.2.2.1; go_simp; exact zO hK
          refine zS (fun w' hS hV K hK => ?_) ?_
          · have e6 := zQ hV 6; obtain ⟨q0, q1⟩ := hS.1.two; have q2 := hS.2.1; have q3 := hS.2.2.1; have q4 := hS.2.2.2.1; go_simp; exact zO hK
          refine zS (fun w' hS hV K hK => ?_) ?_
          · obtain ⟨q0, q1⟩ := hS.1.two; have q2 := hS.2.1; have q3 := hS.2.2.1; have q4 := hS.2.2.2.1; go_simp; exact zO hK
          refine zS (fun w' hS hV K hK => ?_) ?_
          · obtain ⟨q0, q1⟩ := hS.1.two; have q2 := hS.2.1; have q3 := hS.2.2.1; have q4 := hS.2.2.2.1; go_simp; exact zO hK
          refine zS (fun w' hS hV K hK => ?_) ?_
          · obtain ⟨q0, q1⟩ := hS.1.two; have q2 := hS.2.1; have q3 := hS.2.2.1; have q4 := hS.2.2.2.1; go_simp; exact zO hK
          refine zS (fun w' hS hV K hK => ?_) ?_
          · have e9 := zQ hV 9; have e10 := zQ hV 10; obtain ⟨q0, q1⟩ := hS.1.two; have q2 := hS.2.1; have q3 := hS.2.2.1; have q4 := hS.2.2.2.1; go_simp; exact hK.out _ _ _ rfl rfl (by first | rfl | exact congrArg (Value.int .i64) (by omega) | exact congrArg (Value.int .i64) ((i64_fit _ (by omega) (by omega)).trans (by omega))) zG
          refine zS (fun w' hS hV K hK => ?_) ?_
          · have e8 := zQ hV 8; have e11 := zQ hV 11; obtain ⟨q0, q1⟩ := hS.1.two; have q2 := hS.2.1; have q3 := hS.2.2.1; have q4 := hS.2.2.2.1; go_simp; exact zO hK
          refine zS (fun w' hS hV K hK => ?_) ?_
          · have e12 := zQ hV 12; obtain ⟨q0, q1⟩ := hS.1.two; have q2 := hS.2.1; have q3 := hS.2.2.1; have q4 := hS.2.2.2.1; go_simp; exact zO hK
          refine zS (fun w' hS hV K hK => ?_) ?_
          · obtain ⟨q0, q1⟩ := hS.1.two; have q2 := hS.2.1; have q3 := hS.2.2.1; have q4 := hS.2.2.2.1; go_simp; exact zO hK
          refine zS (fun w' hS hV K hK => ?_) ?_
          · have e13 := zQ hV 13; have e14 := zQ hV 14; obtain ⟨q0, q1⟩ := hS.1.two; have q2 := hS.2.1; have q3 := hS.2.2.1; have q4 := hS.2.2.2.1; go_simp; exact zO hK
          refine zS (fun w' hS hV K hK => ?_) ?_
          · have e15 := zQ hV 15; obtain ⟨q0, q1⟩ := hS.1.two; have q2 := hS.2.1; have q3 := hS.2.2.1; have q4 := hS.2.2.2.1; go_simp; exact zO hK
          refine zS (fun w' hS hV K hK => ?_) ?_
          · have e7 := zQ hV 7; have e16 := zQ hV 16; obtain ⟨q0, q1⟩ := hS.1.two; have q2 := hS.2.1; have q3 := hS.2.2.1; have q4 := hS.2.2.2.1; go_simp; exact zO hK
          refine zS (fun w' hS hV K hK => ?_) ?_
          · have e3 := zQ hV 3; have e17 := zQ hV 17; obtain ⟨q0, q1⟩ := hS.1.two; have q2 := hS.2.1; have q3 := hS.2.2.1; have q4 := hS.2.2.2.1; go_simp; refine (l01Mod_any p (y2 - ev2) w' (by omega) hp2 (by omega) (by omega)).mono ?_; rintro e w1 ⟨rfl, rfl⟩; exact zO hK
          refine zS (fun w' hS hV K hK => ?_) ?_
          · have e0 := zQ hV 0; have e1 := zQ hV 1; obtain ⟨q0, q1⟩ := hS.1.two; have q2 := hS.2.1; have q3 := hS.2.2.1; have q4 := hS.2.2.2.1; go_simp; exact zO hK
          refine fun w' hS hV => ?_
          have e0 := zT hV 0
          have e1 := zT hV 1
          have e2 := zT hV 2
          have e3 := zT hV 3
          have e4 := zT hV 4
          have e5 := zT hV 5
          have e6 := zT hV 6
          have e7 := zT hV 7
          have e8 := zT hV 8
          have e9 := zT hV 9
          have e10 := zT hV 10
          have e11 := zT hV 11
          have e12 := zT hV 12
          have e13 := zT hV 13
          have e14 := zT hV 14
          have e15 := zT hV 15
          have e16 := zT hV 16
          have e17 := zT hV 17
          have e18 := zT hV 18
          have e19 := zT hV 19
          simp only [e0, e1, e2, e3, e4, e5, e6, e7, e8, e9, e10, e11, e12, e13, e14, e15, e16, e17, e18, e19]
          clear e0 e1 e2 e3 e4 e5 e6 e7 e8 e9 e10 e11 e12 e13 e14 e15 e16 e17 e18 e19
          obtain ⟨-, -, -, -, s2⟩ := hS
          have hm5 := HR1.out.below s2
          obtain ⟨hoc, hof⟩ := mkI_at hm5 hba2
          refine any_one (j := 20) (by kernel_rfl) (Eq.trans (by simp only [zA, zB, zC]; exact rfl) rfl) (fun K hK => ?_)
          go_simp
          refine hK.out _ _ (wpAny_done (by kernel_rfl) ?_ _)
          have hset := (hm5.set a2 (.int .i64 ((y2 - ev2) % p))).1
          rw [ints_set, HST.out] at hset
          obtain ⟨v2, hwn⟩ : ∃ W, W = World.setCell w' ⟨wr.heap.size, a2, none⟩ (.int .i64 ((y2 - ev2) % p)) := ⟨_, rfl⟩
          rw [← hwn] at hset ⊢
          have HR2 : Hid (MkI wr v2 (some ⟨wr.heap.size, 0, none⟩) N N L2) := Lib.hid hset
          clear hwn hset hoc hof hm5 s2 HST wz kc d1 d2 cy hV 
          have HPk := Lib.hid (HP0.out.below HR2.out.b)
          obtain ⟨gi, oi, ci, d1, d2⟩ := HPk.out.grid HPT.out hlt hrin
          obtain ⟨ev3, he⟩ : ∃ z, z = ent PM i ri := ⟨_, rfl⟩
          obtain ⟨be1, be2⟩ := HPT.out.ent (show 0 < p by omega) i ri
          rw [← he] at d2 be1 be2
          obtain ⟨cy, -⟩ := mkI_at HR2.out hba3
          obtain ⟨y3, hy⟩ : ∃ z, z = L2.getD a3 0 := ⟨_, rfl⟩
          obtain ⟨by1, by2⟩ := HN2.out.getD (show 0 < p by omega) a3
          rw [← hy] at cy by1 by2
          obtain ⟨L3, hL⟩ : ∃ z, z = addAt p L2 a3 (-(ent PM i ri)) := ⟨_, rfl⟩
          have HL3 := Lib.hid hL
          have HN3 : Hid (NumsL p L3) := Lib.hid (by rw [hL]; exact addAt_nums (by omega) HN2.out _ _)
          have HST : Hid (L2.set a3 ((y3 - ev3) % p) = L3) := Lib.hid (by rw [hL, he, hy]; rfl)
          have wz := i64_fit (y3 - ev3) (by omega) (by omega)
          have kc := kr.below HR2.out.b kr.lt
          clear he hy hL HPk
          go_wp2
          refine wp_obs 20 [[],[],[],[2],[],[],[4,5],[4,5,6],[],[],[8,9],[8,9,10],[],[],[12,13],[8,9,10,11,12,13,14],[8,9,10,11,12,13,14,15],[4,5,6,7,8,9,10,11,12,13,14,15,16],[2,3,4,5,6,7,8,9,10,11,12,13,14,15,16,17],[0,1],[0,1,2,3,4,5,6,7,8,9,10,11,12,13,14,15,16,17,18,19]] [VIs (.slice (some ⟨wr.heap.size, 0, none⟩) N N), VIs (.int .i64 (a3)), VIs (.pointer (some ⟨w.heap.size, 0, none⟩)), VIs (.int .i64 (p)), VIs (.slice (some ⟨wr.heap.size, 0, none⟩) N N), VIs (.int .i64 (a3)), VIs (.pointer (some ⟨wr.heap.size, a3, none⟩)), VIs (.int .i64 (y3)), VIs (.slice (some ⟨gP, oP, none⟩) n cP), VIs (.int .i64 (i)), VIs (.pointer (some ⟨gP, oP + i, none⟩)), VIs (.slice (some ⟨gi, oi, none⟩) n ci), VIs (.int .i64 (r)), VIs (.int .i64 (i)), VIs (.int .i64 (ri)), VIs (.pointer (some ⟨gi, oi + ri, none⟩)), VIs (.int .i64 (ev3)), VIs (.int .i64 (y3 - ev3)), VIs (.int .i64 ((y3 - ev3) % p)), VIs (.pointer (some ⟨wr.heap.size, a3, none⟩))] (fun w' => Blk w' w.heap.size 26 #[.int .i64 p, .slice A k c] ∧ w'.cell? ⟨wr.heap.size, a3, none⟩ = some (.int .i64 y3) ∧ w'.cell? ⟨gP, oP + i, none⟩ = some (.slice (some ⟨gi, oi, none⟩) n ci) ∧ w'.cell? ⟨gi, oi + ri, none⟩ = some (.int .i64 ev3) ∧ Below v2.heap.size v2 w') (by kernel_rfl) (by kernel_rfl) (fun _ _ h hb => ⟨h.1.below hb h.1.lt, (hb.cell (World.block_lt_of_cell? _ _ h.2.1)).trans h.2.1, (hb.cell (World.block_lt_of_cell? _ _ h.2.2.1)).trans h.2.2.1, (hb.cell (World.block_lt_of_cell? _ _ h.2.2.2.1)).trans h.2.2.2.1, h.2.2.2.2.trans (hb.mono h.2.2.2.2.size)⟩) (⟨kc.drew, cy, d1, d2, zG.drew⟩) (fun x => ?_)
          refine zS (fun w' hS hV K hK => ?_) ?_
          · obtain ⟨q0, q1⟩ := hS.1.two; have q2 := hS.2.1; have q3 := hS.2.2.1; have q4 := hS.2.2.2.1; go_simp; exact zO hK
          refine zS (fun w' hS hV K hK => ?_) ?_
          · obtain ⟨q0, q1⟩ := hS.1.two; have q2 := hS.2.1; have q3 := hS.2.2.1; have q4 := hS.2.2.2.1; go_simp; exact zO hK
          refine zS (fun w' hS hV K hK => ?_) ?_
          · obtain ⟨q0, q1⟩ := hS.1.two; have q2 := hS.2.1; have q3 := hS.2.2.1; have q4 := hS.2.2.2.1; go_simp; exact zO hK
          refine zS (fun w' hS hV K hK => ?_) ?_
          · have e2 := zQ hV 2; obtain ⟨q0, q1⟩ := hS.1.two; have q2 := hS.2.1; have q3 := hS.2.2.1; have q4 := hS.2.2.2.1; go_simp; exact zO hK
          refine zS (fun w' hS hV K hK => ?_) ?_
          · obtain ⟨q0, q1⟩ := hS.1.two; have q2 := hS.2.1; have q3 := hS.2.2.1; have q4 := hS.2.2.2.1; go_simp; exact zO hK
          refine zS (fun w' hS hV K hK => ?_) ?_
          · obtain ⟨q0, q1⟩ := hS.1.two; have q2 := hS.2.1; have q3 := hS.2.2.1; have q4 := hS.2.2.2.1; go_simp; exact zO hK
          refine zS (fun w' hS hV K hK => ?_) ?_
          · have e4 := zQ hV 4; have e5 := zQ hV 5; obtain ⟨q0, q1⟩ := hS.1.two; have q2 := hS.2.1; have q3 := hS.2.2.1; have q4 := hS.2.2.2.1; go_simp; exact zO hK
          refine zS (fun w' hS hV K hK => ?_) ?_
          · have e6 := zQ hV 6; obtain ⟨q0, q1⟩ := hS.1.two; have q2 := hS.2.1; have q3 := hS.2.2.1; have q4 := hS.2.2.2.1; go_simp; exact zO hK
          refine zS (fun w' hS hV K hK => ?_) ?_
          · obtain ⟨q0, q1⟩ := hS.1.two; have q2 := hS.2.1; have q3 := hS.2.2.1; have q4 := hS.2.2.2.1; go_simp; exact zO hK
          refine zS (fun w' hS hV K hK => ?_) ?_
          · obtain ⟨q0, q1⟩ := hS.1.two; have q2 := hS.2.1; have q3 := hS.2.2.1; have q4 := hS.2.2.2.1; go_simp; exact zO hK
          refine zS (fun w' hS hV K hK => ?_) ?_
          · have e8 := zQ hV 8; have e9 := zQ hV 9; obtain ⟨q0, q1⟩ := hS.1.two; have q2 := hS.2.1; have q3 := hS.2.2.1; have q4 := hS.2.2.2.1; go_simp; exact zO hK
          refine zS (fun w' hS hV K hK => ?_) ?_
          · have e10 := zQ hV 10; obtain ⟨q0, q1⟩ := hS.1.two; have q2 := hS.2.1; have q3 := hS.2.2.1; have q4 := hS.2.2.2.1; go_simp; exact zO hK
          refine zS (fun w' hS hV K hK => ?_) ?_
          · obtain ⟨q0, q1⟩ := hS.1.two; have q2 := hS.2.1; have q3 := hS.2.2.1; have q4 := hS.2.2.2.1; go_simp; exact zO hK
          refine zS (fun w' hS hV K hK => ?_) ?_
          · obtain ⟨q0, q1⟩ := hS.1.two; have q2 := hS.2.1; have q3 := hS.2.2.1; have q4 := hS.2.2.2.1; go_simp; exact zO hK
          refine zS (fun w' hS hV K hK => ?_) ?_
          · have e12 := zQ hV 12; have e13 := zQ hV 13; obtain ⟨q0, q1⟩ := hS.1.two; have q2 := hS.2.1; have q3 := hS.2.2.1; have q4 := hS.2.2.2.1; go_simp; exact hK.out _ _ _ rfl rfl (by first | rfl | exact congrArg (Value.int .i64) (by omega) | exact congrArg (Value.int .i64) ((i64_fit _ (by omega) (by omega)).trans (by omega))) zG
          refine zS (fun w' hS hV K hK => ?_) ?_
          · have e11 := zQ hV 11; have e14 := zQ hV 14; obtain ⟨q0, q1⟩ := hS.1.two; have q2 := hS.2.1; have q3 := hS.2.2.1; have q4 := hS.2.2.2.1; go_simp; exact zO hK
          refine zS (fun w' hS hV K hK => ?_) ?_
          · have e15 := zQ hV 15; obtain ⟨q0, q1⟩ := hS.1.two; have q2 := hS.2.1; have q3 := hS.2.2.1; have q4 := hS.2.2.2.1; go_simp; exact zO hK
          refine zS (fun w' hS hV K hK => ?_) ?_
          · have e7 := zQ hV 7; have e16 := zQ hV 16; obtain ⟨q0, q1⟩ := hS.1.two; have q2 := hS.2.1; have q3 := hS.2.2.1; have q4 := hS.2.2.2.1; go_simp; exact zO hK
          refine zS (fun w' hS hV K hK => ?_) ?_
          · have e3 := zQ hV 3; have e17 := zQ hV 17; obtain ⟨q0, q1⟩ := hS.1.two; have q2 := hS.2.1; have q3 := hS.2.2.1; have q4 := hS.2.2.2.1; go_simp; refine (l01Mod_any p (y3 - ev3) w' (by omega) hp2 (by omega) (by omega)).mono ?_; rintro e w1 ⟨rfl, rfl⟩; exact zO hK
          refine zS (fun w' hS hV K hK => ?_) ?_
          · have e0 := zQ hV 0; have e1 := zQ hV 1; obtain ⟨q0, q1⟩ := hS.1.two; have q2 := hS.2.1; have q3 := hS.2.2.1; have q4 := hS.2.2.2.1; go_simp; exact zO hK
          refine fun w' hS hV => ?_
          have e0 := zT hV 0
          have e1 := zT hV 1
          have e2 := zT hV 2
          have e3 := zT hV 3
          have e4 := zT hV 4
          have e5 := zT hV 5
          have e6 := zT hV 6
          have e7 := zT hV 7
          have e8 := zT hV 8
          have e9 := zT hV 9
          have e10 := zT hV 10
          have e11 := zT hV 11
          have e12 := zT hV 12
          have e13 := zT hV 13
          have e14 := zT hV 14
          have e15 := zT hV 15
          have e16 := zT hV 16
          have e17 := zT hV 17
          have e18 := zT hV 18
          have e19 := zT hV 19
          simp only [e0, e1, e2, e3, e4, e5, e6, e7, e8, e9, e10, e11, e12, e13, e14, e15, e16, e17, e18, e19]
          clear e0 e1 e2 e3 e4 e5 e6 e7 e8 e9 e10 e11 e12 e13 e14 e15 e16 e17 e18 e19
          obtain ⟨-, -, -, -, s2⟩ := hS
          have hm5 := HR2.out.below s2
          obtain ⟨hoc, hof⟩ := mkI_at hm5 hba3
          refine any_one (j := 20) (by kernel_rfl) (Eq.trans (by simp only [zA, zB, zC]; exact rfl) rfl) (fun K hK => ?_)
          go_simp
          refine hK.out _ _ (wpAny_done (by kernel_rfl) ?_ _)
          have hset := (hm5.set a3 (.int .i64 ((y3 - ev3) % p))).1
          rw [ints_set, HST.out] at hset
          obtain ⟨v3, hwn⟩ : ∃ W, W = World.setCell w' ⟨wr.heap.size, a3, none⟩ (.int .i64 ((y3 - ev3) % p)) := ⟨_, rfl⟩
          rw [← hwn] at hset ⊢
          have HR3 : Hid (MkI wr v3 (some ⟨wr.heap.size, 0, none⟩) N N L3) := Lib.hid hset
          clear hwn hset hoc hof hm5 s2 HST wz kc d1 d2 cy hV 
          have HR4 : Hid (MkI wr v3 (some ⟨wr.heap.size, 0, none⟩) N N (eqF p n PM (t + r))) := Lib.hid (by rw [HFF.out, HEQ.out, ← HL1.out, ← HL2.out, ← HL3.out]; exact HR3.out)
          go_wp2_with (at_builtin; refine wpList_appRowG w wr _ rfl _ _ rfl A' (t + r) c' _ (some ⟨wr.heap.size, 0, none⟩) N N _ HM.out HR4.out (by omega) rfl ?_ ?_; (go_simp); intro A6 c6 w6 hM6 hg6 hat6)
          have k8 := (kr.below HR4.out.b kr.lt).grown hg6 ((HM.out.below HR4.out.b).ne_blk (kr.below HR4.out.b kr.lt) (by decide))
          have HM6 : Hid (MkII w w6 A6 (t + (r + 1)) c6 (tab (t + (r + 1)) (eqF p n PM))) := Lib.hid (by rw [← Nat.add_assoc, tab_succ]; exact hM6)
          have HK6 : Hid (Keeps w wb w6 (.slice A6 (t + (r + 1)) c6)) := Lib.hid (HKP.out.step HR4.out.b hg6 hat6)
          clear hM6 hg6 hat6
          go_roundw
          case rel => exact ⟨r + 1, A6, c6, by omega, by go_num, rfl, HM6, HK6, k8⟩
          case measure => simp [intOf]; omega
        · obtain rfl : r = n := by omega
          have HT2 : Hid (t + r = (i * r + (q + 1)) * r) := Lib.hid (by rw [HTT.out, ← Nat.add_assoc, Nat.add_mul (i * r + q) 1 r, Nat.one_mul])
          go_wp2
          go_roundw
          case rel => exact ⟨q + 1, _, A', c', by omega, by go_num, rfl, HT2, HM, HKP, kr⟩
          case measure => simp [intOf]; omega
     · obtain rfl : q = n := by omega
       have HT2 : Hid (t = ((i + 1) * q + 0) * q) := Lib.hid (by rw [HTT.out, Nat.add_mul i 1 q, Nat.one_mul, Nat.add_zero])
       go_wp2
       go_roundw
       case rel => exact ⟨i + 1, _, A', c', by omega, by go_num, rfl, HT2, HM, HKP, kr⟩
       case measure => simp [intOf]; omega
  · obtain rfl : i = n := by omega
    have HT2 : Hid (t = i * i * i) := Lib.hid (by rw [HTT.out, Nat.add_zero])
    go_wp2
    go_ret
    rw [HT2.out] at HM
    exact ⟨A', c', by rw [HT2.out]; rfl, HM.out⟩
theorem Keeps.new {w2 w3 wr w6 : World} {A : Option Addr} {n c : Nat} {L : List (List Int)} {v : Value} (hM : MkII wr w6 A n c L) (h : Keeps w2 w3 wr v) : Keeps w2 w3 w6 (.slice A n c) := by
 obtain ⟨h1, h2, -⟩ := h
 have hb := hM.b
 refine ⟨Nat.le_trans h1 hb.size, fun b hb1 hb2 => (hb.block b (by omega)).trans (h2 b hb1 hb2), fun gb e => ?_⟩
 obtain ⟨us, hm⟩ := hM.outer
 have := (World.ownsRow.lt hm.2 gb e).1
 exact .inr (by omega)
set_option maxHeartbeats 12800000 in
set_option maxRecDepth 8000 in
theorem dderivations_any (p : Int) (HP : isP p = true) (k : Nat) (hk3 : k ≤ 3) (A : Option Addr) (c : Nat) (st : List Int) (w : World) (hc : k ≤ c) (ha : Rd w A k (ints st)) (hst : NumsL p st) :
    Calls Tryz.prog 73 #[.agg #[.int .i64 p, .slice A k c]] w fun e w' => ∃ A' c', e = .returned (.slice A' (dersL p k st).length c') ∧ MkII w w' A' (dersL p k st).length c' (dersL p k st) := by
 obtain ⟨hp3, hp2⟩ := isP_ge HP
 have hp : 2 ≤ p := by omega
 have hpk : pw k ≤ 8 := pw_le hk3
 have hpos := pw_pos k
 have hB0 : Below w.heap.size w (w.alloc (.cells #[.int .i64 p, .slice A k c] 26)) := zG.alloc (Nat.le_refl _) _
 have k0 : Blk (w.alloc (.cells #[.int .i64 p, .slice A k c] 26)) w.heap.size 26 #[.int .i64 p, .slice A k c] := Blk.new _ _ _
 have hbs := fun w' (h : Below w.heap.size w w') => dproducts_any p hp hp2 k (by omega) A c st w' hc (ha.below h) hst
 have hsz := fun w' => dsize_any p A k c w' (by omega)
 obtain ⟨ZZ, hZZ⟩ : ∃ z, z = dersL p k st := ⟨_, rfl⟩
 rw [← hZZ]
 obtain ⟨PM, hPM⟩ : ∃ z, z = prodM p k st := ⟨_, rfl⟩
 rw [← hPM] at hbs
 obtain ⟨n, hn⟩ : ∃ n, n = pw k := ⟨_, rfl⟩
 rw [← hn] at hpk hpos hbs hsz
 have HBS := Lib.hid hbs
 have HSZ := Lib.hid hsz
 have HPT : Hid (Tab p n PM) := Lib.hid (by rw [hPM, hn]; exact prodM_tab (by omega) k st)
 have HX : Hid (∀ a b, a < n → b < n → a ^^^ b < n) := Lib.hid fun a b h1 h2 => by rw [hn] at h1 h2 ⊢; exact xor_lt h1 h2
 obtain ⟨N, hN⟩ : ∃ N, N = n * n := ⟨_, rfl⟩
 have HNN := Lib.hid hN
 have hN64 : N ≤ 64 := by rw [hN]; exact Nat.mul_le_mul hpk hpk
 have fN2 : (n : Int) * (n : Int) = (N : Int) := by rw [← Int.natCast_mul, ← hN]
 have hmk := make_i (P := Tryz.prog) 24 2 Tryz.underlying24 info_i N (by omega)
 have HTB : Hid (∀ i q r, i ≤ n → q ≤ n → r ≤ n → (i * n + q) * n + r ≤ 5000) := Lib.hid fun i q r h1 h2 h3 => by
  have e1 : i * n ≤ 8 * 8 := Nat.mul_le_mul (by omega) hpk
  have e2 : (i * n + q) * n ≤ 72 * 8 := Nat.mul_le_mul (by omega) hpk
  omega
 have HKE : Hid (kernL p (derTo p n PM n) N = ZZ) := Lib.hid (by rw [hN, hn, hPM, hZZ]; exact derTo_kern HP k st)
 have HP' := Lib.hid HP
 clear HP hZZ hPM hN hn hbs hsz ha hst
 go_enter Tryz.func73, Tryz.ntmps73
 go_wp2
 refine wp_obs 9 [[],[0],[],[2],[],[4],[0,1],[2,3],[4,5]] [VIs (.agg #[.int .i64 p, .slice A k c]), VIs (.int .i64 (n)), VIs (.agg #[.int .i64 p, .slice A k c]), VIs (.int .i64 (p)), VIs (.agg #[.int .i64 p, .slice A k c]), VMat w n PM, VIs (.int .i64 (n)), VIs (.int .i64 (p)), VMat w n PM] (fun w' => Blk w' w.heap.size 26 #[.int .i64 p, .slice A k c] ∧ Below w.heap.size w w') (by kernel_rfl) (by kernel_rfl) (fun _ _ h hb => ⟨h.1.below hb h.1.lt, h.2.trans (hb.mono h.2.size)⟩) (⟨k0.drew, hB0.drew⟩) (fun x => ?_)
 refine zS (fun w' hS hV K hK => ?_) ?_
 · obtain ⟨q0, q1⟩ := hS.1.two; go_simp; exact zO hK
 refine zS (fun w' hS hV K hK => ?_) ?_
 · have e0 := zQ hV 0; obtain ⟨q0, q1⟩ := hS.1.two; go_simp; refine (HSZ.out w').mono ?_; rintro e v1 ⟨rfl, hb⟩; exact hK.out _ _ _ rfl rfl rfl hb
 refine zS (fun w' hS hV K hK => ?_) ?_
 · obtain ⟨q0, q1⟩ := hS.1.two; go_simp; exact zO hK
 refine zS (fun w' hS hV K hK => ?_) ?_
 · have e2 := zQ hV 2; obtain ⟨q0, q1⟩ := hS.1.two; go_simp; refine (dfield_any p A k c w').mono ?_; rintro e v1 ⟨rfl, hb⟩; exact hK.out _ _ _ rfl rfl rfl hb
 refine zS (fun w' hS hV K hK => ?_) ?_
 · obtain ⟨q0, q1⟩ := hS.1.two; go_simp; exact zO hK
 refine zS (fun w' hS hV K hK => ?_) ?_
 · have e4 := zQ hV 4; obtain ⟨q0, q1⟩ := hS.1.two; go_simp; refine (HBS.out w' hS.2).mono ?_; rintro e v1 ⟨A9, c9, rfl, hM⟩; exact hK.out _ _ _ rfl rfl ⟨_, _, rfl, hM.after hS.2⟩ hM.b
 refine zS (fun w' hS hV K hK => ?_) ?_
 · have e1 := zQ hV 1; obtain ⟨q0, q1⟩ := hS.1.two; go_simp; exact zO hK
 refine zS (fun w' hS hV K hK => ?_) ?_
 · have e3 := zQ hV 3; obtain ⟨q0, q1⟩ := hS.1.two; go_simp; exact zO hK
 refine zS (fun w' hS hV K hK => ?_) ?_
 · obtain ⟨A5, c5, e5, h5⟩ := hV 5 (by decide); obtain ⟨q0, q1⟩ := hS.1.two; go_simp; exact hK.out _ _ _ rfl rfl ⟨_, _, rfl, h5⟩ zG
 refine fun w' hS hV => ?_
 have e0 := zT hV 0
 have e1 := zT hV 1
 have e2 := zT hV 2
 have e3 := zT hV 3
 have e4 := zT hV 4
 obtain ⟨A5, c5, e5, h5⟩ := hV 5 (by decide)
 have e6 := zT hV 6
 have e7 := zT hV 7
 obtain ⟨A8, c8, e8, h8⟩ := hV 8 (by decide)
 simp only [e0, e1, e2, e3, e4, e5, e6, e7, e8]
 clear e0 e1 e2 e3 e4 e5 e6 e7 e8
 refine wpAny_done (by kernel_rfl) ?_ _
 obtain ⟨kb, -⟩ := hS
 obtain ⟨wb, hwb⟩ : ∃ W, W = w' := ⟨_, rfl⟩
 obtain ⟨QA, hQA⟩ : ∃ z, z = A8 := ⟨_, rfl⟩
 obtain ⟨cP, hQc⟩ : ∃ z, z = c8 := ⟨_, rfl⟩
 have hQM := h8
 rw [← hQA, ← hQc, ← hwb] at hQM
 rw [← hQA, ← hQc, ← hwb]
 rw [← hwb] at kb
 clear h8 hV hwb hQA hQc k0 hB0 h5
 obtain ⟨gP, oP, rfl, -⟩ := hQM.rd.at_ hpos
 have HPO := Lib.hid hQM
 have hM0 : MkII w (wb.alloc (.cells #[] 24)) (some ⟨wb.heap.size, 0, none⟩) 0 0 [] := MkII.empty hQM.b
 have hKp : Keeps w wb (wb.alloc (.cells #[] 24)) (.slice (some ⟨wb.heap.size, 0, none⟩) 0 0) := Keeps.fresh (by simp) (fun b _ hb => Below.heap_alloc wb _ b hb) (Nat.le_refl _)
 have k2 := kb.alloc (.cells #[] 24)
 clear hQM kb
 go_wp2
 go_loopw [6, 19] (fun out i wr => ∃ (i' d : Nat) (A' : Option Addr) (c' : Nat), i' ≤ n ∧ i = .int .i64 i' ∧ out = .slice A' d c' ∧ Hid ((derTo p n PM i').length = d) ∧ Hid (MkII w wr A' d c' (derTo p n PM i')) ∧ Hid (Keeps w wb wr (.slice A' d c')) ∧ Blk wr w.heap.size 26 #[.int .i64 p, .slice A k c]) (fun _ i _ => n - (intOf i).toNat)
 case atStart => exact ⟨0, 0, _, _, by omega, rfl, rfl, Lib.hid rfl, Lib.hid hM0, Lib.hid hKp, k2⟩
 case round =>
  obtain ⟨i, d, A', c', hi', rfl, rfl, HDL, HM, HKP, kr⟩ := hrel
  clear hM0 hKp k2
  obtain ⟨hDT, hDN, -⟩ := derTo_spec HP'.out n PM i
  have hd64 : d ≤ 64 := by rw [← HDL.out]; rw [← HNN.out] at hDN; omega
  have HDT := Lib.hid hDT
  clear hDT hDN
  by_cases hlt : i < n
  · obtain ⟨Fi, hFi⟩ : ∃ F : Nat → List Int, F = fun t => eqF p n PM (i * (n * n) + t) := ⟨_, rfl⟩
    have HFI := Lib.hid hFi
    obtain ⟨D, hD⟩ : ∃ D, D = derTo p n PM i := ⟨_, rfl⟩
    have HSU : Hid (derTo p n PM (i + 1) = basisL p (D ++ tab N Fi)) := Lib.hid (by rw [hFi, hD, HNN.out]; rfl)
    have HFT : Hid (Tab p N (D ++ tab N Fi)) := Lib.hid (by rw [hD, hFi, HNN.out]; exact HDT.out.append (Tab.tab fun _ _ => ⟨eqRow_len _ _ _ _ _ _, eqRow_nums (by omega) _ _ _ _ _⟩))
    rw [← hD] at HM
    clear hFi hD HDT HDL
    go_wp2
    go_loopw [6, 23] (fun out q wr => ∃ (q' t : Nat) (A' : Option Addr) (c' : Nat), q' ≤ n ∧ q = .int .i64 q' ∧ out = .slice A' (d + t) c' ∧ Hid (t = q' * n) ∧ Hid (MkII w wr A' (d + t) c' (D ++ tab t Fi)) ∧ Hid (Keeps w wb wr (.slice A' (d + t) c')) ∧ Blk wr w.heap.size 26 #[.int .i64 p, .slice A k c]) (fun _ q _ => n - (intOf q).toNat)
    case atStart => exact ⟨0, 0, _, _, by omega, rfl, rfl, Lib.hid (by simp), Lib.hid (by simpa [tab] using HM.out), HKP, kr⟩
    case round =>
     obtain ⟨q, t, A', c', hq', rfl, rfl, HTT, HM, HKP, kr⟩ := hrel
     have ht64 : t ≤ 64 := by rw [HTT.out]; exact Nat.mul_le_mul (show q ≤ 8 by omega) hpk
     by_cases hlq : q < n
     · go_wp2
       go_loopw [6, 27] (fun out r wr => ∃ (r' : Nat) (A' : Option Addr) (c' : Nat), r' ≤ n ∧ r = .int .i64 r' ∧ out = .slice A' (d + (t + r')) c' ∧ Hid (MkII w wr A' (d + (t + r')) c' (D ++ tab (t + r') Fi)) ∧ Hid (Keeps w wb wr (.slice A' (d + (t + r')) c')) ∧ Blk wr w.heap.size 26 #[.int .i64 p, .slice A k c]) (fun _ r _ => n - (intOf r).toNat)
       case atStart => exact ⟨0, _, _, by omega, rfl, rfl, HM, HKP, kr⟩
       case round =>
        obtain ⟨r, A', c', hr', rfl, rfl, HM, HKP, kr⟩ := hrel
        by_cases hlr : r < n
        · have HP0 := Lib.hid (HPO.out.keep HKP.out.2.1)
          have hNN := HNN.out
          have hin : i < n := hlt
          have hb_rn : r * n < N := by have := at_lt (n := n) hlr hpos; rw [← hNN] at this; omega
          obtain ⟨rn, hrn⟩ : ∃ z, z = r * n := ⟨_, rfl⟩
          rw [← hrn] at hb_rn
          have f1b : (r : Int) * (n : Int) = (rn : Int) := by rw [← Int.natCast_mul, ← hrn]
          obtain ⟨iq, hiq⟩ : ∃ z, z = i ^^^ q := ⟨_, rfl⟩
          have hiqn : iq < n := hiq ▸ HX.out i q hlt hlq
          have x1 := xor_all i (by omega) q (by omega)
          rw [← hiq] at x1
          obtain ⟨a1, ha1⟩ : ∃ z, z = rn + iq := ⟨_, rfl⟩
          have hba1 : a1 < N := by have := at_lt hlr hiqn; rw [← hrn, ← ha1, ← hNN] at this; exact this
          have g1b : (rn : Int) + (iq : Int) = (a1 : Int) := by omega
          obtain ⟨rq, hrq⟩ : ∃ z, z = r ^^^ q := ⟨_, rfl⟩
          have hrqn : rq < n := hrq ▸ HX.out r q hlr hlq
          have x2 := xor_all r (by omega) q (by omega)
          rw [← hrq] at x2
          have hb_rqn : rq * n < N := by have := at_lt (n := n) hrqn hpos; rw [← hNN] at this; omega
          obtain ⟨rqn, hrqn2⟩ : ∃ z, z = rq * n := ⟨_, rfl⟩
          rw [← hrqn2] at hb_rqn
          have f2b : (rq : Int) * (n : Int) = (rqn : Int) := by rw [← Int.natCast_mul, ← hrqn2]
          obtain ⟨a2, ha2⟩ : ∃ z, z = rqn + i := ⟨_, rfl⟩
          have hba2 : a2 < N := by have := at_lt hrqn hlt; rw [← hrqn2, ← ha2, ← hNN] at this; exact this
          have g2b : (rqn : Int) + (i : Int) = (a2 : Int) := by omega
          obtain ⟨ri, hri⟩ : ∃ z, z = r ^^^ i := ⟨_, rfl⟩
          have hrin : ri < n := hri ▸ HX.out r i hlr hlt
          have x3 := xor_all r (by omega) i (by omega)
          rw [← hri] at x3
          have hb_rin : ri * n < N := by have := at_lt (n := n) hrin hpos; rw [← hNN] at this; omega
          obtain ⟨rin, hrin2⟩ : ∃ z, z = ri * n := ⟨_, rfl⟩
          rw [← hrin2] at hb_rin
          have f3b : (ri : Int) * (n : Int) = (rin : Int) := by rw [← Int.natCast_mul, ← hrin2]
          obtain ⟨a3, ha3⟩ : ∃ z, z = rin + q := ⟨_, rfl⟩
          have hba3 : a3 < N := by have := at_lt hrin hlq; rw [← hrin2, ← ha3, ← hNN] at this; exact this
          have g3b : (rin : Int) + (q : Int) = (a3 : Int) := by omega
          have hi := hlt
          have hq := hlq
          have hrq' := hrqn
          have HEQ : Hid (eqRow p n PM i q r = addAt p (addAt p (addAt p (List.replicate N 0) a1 (ent PM i q)) a2 (-(ent PM rq q))) a3 (-(ent PM i ri))) := Lib.hid (by unfold eqRow; rw [ha1, ha2, ha3, hrn, hrqn2, hrin2, hiq, hrq, hri, hNN])
          have HFF : Hid (Fi (t + r) = eqRow p n PM i q r) := Lib.hid (by rw [HFI.out, ← eqF_at p n PM i hlq hlr]; show eqF p n PM (i * (n * n) + (t + r)) = _; rw [HTT.out, ← Nat.add_assoc, Nat.add_mul, Nat.mul_assoc])
          clear hrn hrqn2 hrin2 hiq hrq hri ha1 ha2 ha3 hNN
          have hm0 := Mk.made (E := 2) (n := N) (z := .int .i64 0) (Below.refl wr.heap.size wr) (by simp only [maxLen]; omega)
          rw [ints_replicate] at hm0
          obtain ⟨L0, hL0⟩ : ∃ z, z = List.replicate N (0 : Int) := ⟨_, rfl⟩
          rw [← hL0] at hm0 HEQ
          have HN0 : Hid (NumsL p L0) := Lib.hid (by rw [hL0]; exact NumsL.replicate (by omega) _)
          obtain ⟨v0, hv0⟩ : ∃ W, W = wr.alloc (.cells (madeCells #[.int .i64 0] N) 2) := ⟨_, rfl⟩
          have HV0 := Lib.hid hv0
          rw [← hv0] at hm0
          have HR0 : Hid (MkI wr v0 (some ⟨wr.heap.size, 0, none⟩) N N L0) := Lib.hid hm0
          obtain ⟨q0, q1⟩ := kr.two
          clear hm0 hL0 hv0
          go_wp2
          rw [← HV0.out]
          clear q0 q1
          have HPk := Lib.hid (HP0.out.below HR0.out.b)
          obtain ⟨gi, oi, ci, d1, d2⟩ := HPk.out.grid HPT.out hlt hlq
          obtain ⟨ev1, he⟩ : ∃ z, z = ent PM i q := ⟨_, rfl⟩
          obtain ⟨be1, be2⟩ := HPT.out.ent (show 0 < p by omega) i q
          rw [← he] at d2 be1 be2
          obtain ⟨cy, -⟩ := mkI_at HR0.out hba1
          obtain ⟨y1, hy⟩ : ∃ z, z = L0.getD a1 0 := ⟨_, rfl⟩
          obtain ⟨by1, by2⟩ := HN0.out.getD (show 0 < p by omega) a1
          rw [← hy] at cy by1 by2
          obtain ⟨L1, hL⟩ : ∃ z, z = addAt p L0 a1 ((ent PM i q)) := ⟨_, rfl⟩
          have HL1 := Lib.hid hL
          have HN1 : Hid (NumsL p L1) := Lib.hid (by rw [hL]; exact addAt_nums (by omega) HN0.out _ _)
          have HST : Hid (L0.set a1 ((y1 + ev1) % p) = L1) := Lib.hid (by rw [hL, he, hy]; rfl)
          have wz := i64_fit (y1 + ev1) (by omega) (by omega)
          have kc := kr.below HR0.out.b kr.lt
          clear he hy hL HPk
          go_wp2
          refine wp_obs 29 [[],[],[],[1,2],[],[],[4,5],[1,2,3,4,5,6],[],[],[],[],[10,11],[],[],[13,14],[10,11,12,13,14,15],[9,10,11,12,13,14,15,16],[9,10,11,12,13,14,15,16,17],[],[],[19,20],[19,20,21],[],[19,20,21,22,23],[19,20,21,22,23,24],[9,10,11,12,13,14,15,16,17,18,19,20,21,22,23,24,25],[8,9,10,11,12,13,14,15,16,17,18,19,20,21,22,23,24,25,26],[0,1,2,3,4,5,6,7],[0,1,2,3,4,5,6,7,8,9,10,11,12,13,14,15,16,17,18,19,20,21,22,23,24,25,26,27,28]] [VIs (.slice (some ⟨wr.heap.size, 0, none⟩) N N), VIs (.int .i64 (r)), VIs (.int .i64 (n)), VIs (.int .i64 (rn)), VIs (.int .i64 (i)), VIs (.int .i64 (q)), VIs (.int .i64 (iq)), VIs (.int .i64 (a1)), VIs (.int .i64 (p)), VIs (.slice (some ⟨wr.heap.size, 0, none⟩) N N), VIs (.int .i64 (r)), VIs (.int .i64 (n)), VIs (.int .i64 (rn)), VIs (.int .i64 (i)), VIs (.int .i64 (q)), VIs (.int .i64 (iq)), VIs (.int .i64 (a1)), VIs (.pointer (some ⟨wr.heap.size, a1, none⟩)), VIs (.int .i64 (y1)), VIs (.slice (some ⟨gP, oP, none⟩) n cP), VIs (.int .i64 (i)), VIs (.pointer (some ⟨gP, oP + i, none⟩)), VIs (.slice (some ⟨gi, oi, none⟩) n ci), VIs (.int .i64 (q)), VIs (.pointer (some ⟨gi, oi + q, none⟩)), VIs (.int .i64 (ev1)), VIs (.int .i64 (y1 + ev1)), VIs (.int .i64 ((y1 + ev1) % p)), VIs (.pointer (some ⟨wr.heap.size, a1, none⟩))] (fun w' => Blk w' w.heap.size 26 #[.int .i64 p, .slice A k c] ∧ w'.cell? ⟨wr.heap.size, a1, none⟩ = some (.int .i64 y1) ∧ w'.cell? ⟨gP, oP + i, none⟩ = some (.slice (some ⟨gi, oi, none⟩) n ci) ∧ w'.cell? ⟨gi, oi + q, none⟩ = some (.int .i64 ev1) ∧ Below v0.heap.size v0 w') (by kernel_rfl) (by kernel_rfl) (fun _ _ h hb => ⟨h.1.below hb h.1.lt, (hb.cell (World.block_lt_of_cell? _ _ h.2.1)).trans h.2.1, (hb.cell (World.block_lt_of_cell? _ _ h.2.2.1)).trans h.2.2.1, (hb.cell (World.block_lt_of_cell? _ _ h.2.2.2.1)).trans h.2.2.2.1, h.2.2.2.2.trans (hb.mono h.2.2.2.2.size)⟩) (⟨kc.drew, cy, d1, d2, zG.drew⟩) (fun x => ?_)
          refine zS (fun w' hS hV K hK => ?_) ?_
          · obtain ⟨q0, q1⟩ := hS.1.two; have q2 := hS.2.1; have q3 := hS.2.2.1; have q4 := hS.2.2.2.1; go_simp; exact zO hK
          refine zS (fun w' hS hV K hK => ?_) ?_
          · obtain ⟨q0, q1⟩ := hS.1.two; have q2 := hS.2.1; have q3 := hS.2.2.1; have q4 := hS.2.2.2.1; go_simp; exact zO hK
          refine zS (fun w' hS hV K hK => ?_) ?_
          · obtain ⟨q0, q1⟩ := hS.1.two; have q2 := hS.2.1; have q3 := hS.2.2.1; have q4 := hS.2.2.2.1; go_simp; exact zO hK
          refine zS (fun w' hS hV K hK => ?_) ?_
          · have e1 := zQ hV 1; have e2 := zQ hV 2; obtain ⟨q0, q1⟩ := hS.1.two; have q2 := hS.2.1; have q3 := hS.2.2.1; have q4 := hS.2.2.2.1; go_simp; exact hK.out _ _ _ rfl rfl (by first | rfl | exact congrArg (Value.int .i64) (by omega) | exact congrArg (Value.int .i64) ((i64_fit _ (by omega) (by omega)).trans (by omega))) zG
          refine zS (fun w' hS hV K hK => ?_) ?_
          · obtain ⟨q0, q1⟩ := hS.1.two; have q2 := hS.2.1; have q3 := hS.2.2.1; have q4 := hS.2.2.2.1; go_simp; exact zO hK
          refine zS (fun w' hS hV K hK => ?_) ?_
          · obtain ⟨q0, q1⟩ := hS.1.two; have q2 := hS.2.1; have q3 := hS.2.2.1; have q4 := hS.2.2.2.1; go_simp; exact zO hK
          refine zS (fun w' hS hV K hK => ?_) ?_
          · have e4 := zQ hV 4; have e5 := zQ hV 5; obtain ⟨q0, q1⟩ := hS.1.two; have q2 := hS.2.1; have q3 := hS.2.2.1; have q4 := hS.2.2.2.1; go_simp; exact hK.out _ _ _ rfl rfl (by first | rfl | exact congrArg (Value.int .i64) (by omega) | exact congrArg (Value.int .i64) ((i64_fit _ (by omega) (by omega)).trans (by omega))) zG
          refine zS (fun w' hS hV K hK => ?_) ?_
          · have e3 := zQ hV 3; have e6 := zQ hV 6; obtain ⟨q0, q1⟩ := hS.1.two; have q2 := hS.2.1; have q3 := hS.2.2.1; have q4 := hS.2.2.2.1; go_simp; exact hK.out _ _ _ rfl rfl (by first | rfl | exact congrArg (Value.int .i64) (by omega) | exact congrArg (Value.int .i64) ((i64_fit _ (by omega) (by omega)).trans (by omega))) zG
          refine zS (fun w' hS hV K hK => ?_) ?_
          · obtain ⟨q0, q1⟩ := hS.1.two; have q2 := hS.2.1; have q3 := hS.2.2.1; have q4 := hS.2.2.2.1; go_simp; exact zO hK
          refine zS (fun w' hS hV K hK => ?_) ?_
          · obtain ⟨q0, q1⟩ := hS.1.two; have q2 := hS.2.1; have q3 := hS.2.2.1; have q4 := hS.2.2.2.1; go_simp; exact zO hK
          refine zS (fun w' hS hV K hK => ?_) ?_
          · obtain ⟨q0, q1⟩ := hS.1.two; have q2 := hS.2.1; have q3 := hS.2.2.1; have q4 := hS.2.2.2.1; go_simp; exact zO hK
          refine zS (fun w' hS hV K hK => ?_) ?_
          · obtain ⟨q0, q1⟩ := hS.1.two; have q2 := hS.2.1; have q3 := hS.2.2.1; have q4 := hS.2.2.2.1; go_simp; exact zO hK
          refine zS (fun w' hS hV K hK => ?_) ?_
          · have e10 := zQ hV 10; have e11 := zQ hV 11; obtain ⟨q0, q1⟩ := hS.1.two; have q2 := hS.2.1; have q3 := hS.2.2.1; have q4 := hS.2.2.2.1; go_simp; exact hK.out _ _ _ rfl rfl (by first | rfl | exact congrArg (Value.int .i64) (by omega) | exact congrArg (Value.int .i64) ((i64_fit _ (by omega) (by omega)).trans (by omega))) zG
          refine zS (fun w' hS hV K hK => ?_) ?_
          · obtain ⟨q0, q1⟩ := hS.1.two; have q2 := hS.2.1; have q3 := hS.2.2.1; have q4 := hS.2.2.2.1; go_simp; exact zO hK
          refine zS (fun w' hS hV K hK => ?_) ?_
          · obtain ⟨q0, q1⟩ := hS.1.two; have q2 := hS.2.1; have q3 := hS.2.2.1; have q4 := hS.2.2.2.1; go_simp; exact zO hK
          refine zS (fun w' hS hV K hK => ?_) ?_
          · have e13 := zQ hV 13; have e14 := zQ hV 14; obtain ⟨q0, q1⟩ := hS.1.two; have q2 := hS.2.1; have q3 := hS.2.2.1; have q4 := hS.2.2.2.1; go_simp; exact hK.out _ _ _ rfl rfl (by first | rfl | exact congrArg (Value.int .i64) (by omega) | exact congrArg (Value.int .i64) ((i64_fit _ (by omega) (by omega)).trans (by omega))) zG
          refine zS (fun w' hS hV K hK => ?_) ?_
          · have e12 := zQ hV 12; have e15 := zQ hV 15; obtain ⟨q0, q1⟩ := hS.1.two; have q2 := hS.2.1; have q3 := hS.2.2.1; have q4 := hS.2.2.2.1; go_simp; exact hK.out _ _ _ rfl rfl (by first | rfl | exact congrArg (Value.int .i64) (by omega) | exact congrArg (Value.int .i64) ((i64_fit _ (by omega) (by omega)).trans (by omega))) zG
          refine zS (fun w' hS hV K hK => ?_) ?_
          · have e9 := zQ hV 9; have e16 := zQ hV 16; obtain ⟨q0, q1⟩ := hS.1.two; have q2 := hS.2.1; have q3 := hS.2.2.1; have q4 := hS.2.2.2.1; go_simp; exact zO hK
          refine zS (fun w' hS hV K hK => ?_) ?_
          · have e17 := zQ hV 17; obtain ⟨q0, q1⟩ := hS.1.two; have q2 := hS.2.1; have q3 := hS.2.2.1; have q4 := hS.2.2.2.1; go_simp; exact zO hK
          refine zS (fun w' hS hV K hK => ?_) ?_
          · obtain ⟨q0, q1⟩ := hS.1.two; have q2 := hS.2.1; have q3 := hS.2.2.1; have q4 := hS.2.2.2.1; go_simp; exact zO hK
          refine zS (fun w' hS hV K hK => ?_) ?_
          · obtain ⟨q0, q1⟩ := hS.1.two; have q2 := hS.2.1; have q3 := hS.2.2.1; have q4 := hS.2.2.2.1; go_simp; exact zO hK
          refine zS (fun w' hS hV K hK => ?_) ?_
          · have e19 := zQ hV 19; have e20 := zQ hV 20; obtain ⟨q0, q1⟩ := hS.1.two; have q2 := hS.2.1; have q3 := hS.2.2.1; have q4 := hS.2.2.2.1; go_simp; exact zO hK
          refine zS (fun w' hS hV K hK => ?_) ?_
          · have e21 := zQ hV 21; obtain ⟨q0, q1⟩ := hS.1.two; have q2 := hS.2.1; have q3 := hS.2.2.1; have q4 := hS.2.2.2.1; go_simp; exact zO hK
          refine zS (fun w' hS hV K hK => ?_) ?_
          · obtain ⟨q0, q1⟩ := hS.1.two; have q2 := hS.2.1; have q3 := hS.2.2.1; have q4 := hS.2.2.2.1; go_simp; exact zO hK
          refine zS (fun w' hS hV K hK => ?_) ?_
          · have e22 := zQ hV 22; have e23 := zQ hV 23; obtain ⟨q0, q1⟩ := hS.1.two; have q2 := hS.2.1; have q3 := hS.2.2.1; have q4 := hS.2.2.2.1; go_simp; exact zO hK
          refine zS (fun w' hS hV K hK => ?_) ?_
          · have e24 := zQ hV 24; obtain ⟨q0, q1⟩ := hS.1.two; have q2 := hS.2.1; have q3 := hS.2.2.1; have q4 := hS.2.2.2.1; go_simp; exact zO hK
          refine zS (fun w' hS hV K hK => ?_) ?_
          · have e18 := zQ hV 18; have e25 := zQ hV 25; obtain ⟨q0, q1⟩ := hS.1.two; have q2 := hS.2.1; have q3 := hS.2.2.1; have q4 := hS.2.2.2.1; go_simp; exact zO hK
          refine zS (fun w' hS hV K hK => ?_) ?_
          · have e8 := zQ hV 8; have e26 := zQ hV 26; obtain ⟨q0, q1⟩ := hS.1.two; have q2 := hS.2.1; have q3 := hS.2.2.1; have q4 := hS.2.2.2.1; go_simp; refine (num_any p (y1 + ev1) w' (by omega) hp2 (by omega) (by omega)).mono ?_; rintro e w1 ⟨rfl, rfl⟩; exact zO hK
          refine zS (fun w' hS hV K hK => ?_) ?_
          · have e0 := zQ hV 0; have e7 := zQ hV 7; obtain ⟨q0, q1⟩ := hS.1.two; have q2 := hS.2.1; have q3 := hS.2.2.1; have q4 := hS.2.2.2.1; go_simp; exact zO hK
          refine fun w' hS hV => ?_
          have e0 := zT hV 0
          have e1 := zT hV 1
          have e2 := zT hV 2
          have e3 := zT hV 3
          have e4 := zT hV 4
          have e5 := zT hV 5
          have e6 := zT hV 6
          have e7 := zT hV 7
          have e8 := zT hV 8
          have e9 := zT hV 9
          have e10 := zT hV 10
          have e11 := zT hV 11
          have e12 := zT hV 12
          have e13 := zT hV 13
          have e14 := zT hV 14
          have e15 := zT hV 15
          have e16 := zT hV 16
          have e17 := zT hV 17
          have e18 := zT hV 18
          have e19 := zT hV 19
          have e20 := zT hV 20
          have e21 := zT hV 21
          have e22 := zT hV 22
          have e23 := zT hV 23
          have e24 := zT hV 24
          have e25 := zT hV 25
          have e26 := zT hV 26
          have e27 := zT hV 27
          have e28 := zT hV 28
          simp only [e0, e1, e2, e3, e4, e5, e6, e7, e8, e9, e10, e11, e12, e13, e14, e15, e16, e17, e18, e19, e20, e21, e22, e23, e24, e25, e26, e27, e28]
          clear e0 e1 e2 e3 e4 e5 e6 e7 e8 e9 e10 e11 e12 e13 e14 e15 e16 e17 e18 e19 e20 e21 e22 e23 e24 e25 e26 e27 e28
          obtain ⟨-, -, -, -, s2⟩ := hS
          have hm5 := HR0.out.below s2
          obtain ⟨hoc, hof⟩ := mkI_at hm5 hba1
          refine any_one (j := 29) (by kernel_rfl) (Eq.trans (by simp only [zA, zB, zC]; exact rfl) rfl) (fun K hK => ?_)
          go_simp
          refine hK.out _ _ (wpAny_done (by kernel_rfl) ?_ _)
          have hset := (hm5.set a1 (.int .i64 ((y1 + ev1) % p))).1
          rw [ints_set, HST.out] at hset
          obtain ⟨v1, hwn⟩ : ∃ W, W = World.setCell w' ⟨wr.heap.size, a1, none⟩ (.int .i64 ((y1 + ev1) % p)) := ⟨_, rfl⟩
          rw [← hwn] at hset ⊢
          have HR1 : Hid (MkI wr v1 (some ⟨wr.heap.size, 0, none⟩) N N L1) := Lib.hid hset
          clear hwn hset hoc hof hm5 s2 HST wz kc d1 d2 cy hV 
          have HPk := Lib.hid (HP0.out.below HR1.out.b)
          obtain ⟨gi, oi, ci, d1, d2⟩ := HPk.out.grid HPT.out hrqn hlq
          obtain ⟨ev2, he⟩ : ∃ z, z = ent PM rq q := ⟨_, rfl⟩
          obtain ⟨be1, be2⟩ := HPT.out.ent (show 0 < p by omega) rq q
          rw [← he] at d2 be1 be2
          obtain ⟨cy, -⟩ := mkI_at HR1.out hba2
          obtain ⟨y2, hy⟩ : ∃ z, z = L1.getD a2 0 := ⟨_, rfl⟩
          obtain ⟨by1, by2⟩ := HN1.out.getD (show 0 < p by omega) a2
          rw [← hy] at cy by1 by2
          obtain ⟨L2, hL⟩ : ∃ z, z = addAt p L1 a2 (-(ent PM rq q)) := ⟨_, rfl⟩
          have HL2 := Lib.hid hL
          have HN2 : Hid (NumsL p L2) := Lib.hid (by rw [hL]; exact addAt_nums (by omega) HN1.out _ _)
          have HST : Hid (L1.set a2 ((y2 - ev2) % p) = L2) := Lib.hid (by rw [hL, he, hy]; rfl)
          have wz := i64_fit (y2 - ev2) (by omega) (by omega)
          have kc := kr.below HR1.out.b kr.lt
          clear he hy hL HPk
          go_wp2
          refine wp_obs 31 [[],[],[],[1,2],[],[1,2,3,4],[],[1,2,3,4,5,6],[],[],[],[],[10,11],[],[10,11,12,13],[],[10,11,12,13,14,15],[9,10,11,12,13,14,15,16],[9,10,11,12,13,14,15,16,17],[],[],[],[20,21],[19,20,21,22],[19,20,21,22,23],[],[19,20,21,22,23,24,25],[19,20,21,22,23,24,25,26],[9,10,11,12,13,14,15,16,17,18,19,20,21,22,23,24,25,26,27],[8,9,10,11,12,13,14,15,16,17,18,19,20,21,22,23,24,25,26,27,28],[0,1,2,3,4,5,6,7],[0,1,2,3,4,5,6,7,8,9,10,11,12,13,14,15,16,17,18,19,20,21,22,23,24,25,26,27,28,29,30]] [VIs (.slice (some ⟨wr.heap.size, 0, none⟩) N N), VIs (.int .i64 (r)), VIs (.int .i64 (q)), VIs (.int .i64 (rq)), VIs (.int .i64 (n)), VIs (.int .i64 (rqn)), VIs (.int .i64 (i)), VIs (.int .i64 (a2)), VIs (.int .i64 (p)), VIs (.slice (some ⟨wr.heap.size, 0, none⟩) N N), VIs (.int .i64 (r)), VIs (.int .i64 (q)), VIs (.int .i64 (rq)), VIs (.int .i64 (n)), VIs (.int .i64 (rqn)), VIs (.int .i64 (i)), VIs (.int .i64 (a2)), VIs (.pointer (some ⟨wr.heap.size, a2, none⟩)), VIs (.int .i64 (y2)), VIs (.slice (some ⟨gP, oP, none⟩) n cP), VIs (.int .i64 (r)), VIs (.int .i64 (q)), VIs (.int .i64 (rq)), VIs (.pointer (some ⟨gP, oP + rq, none⟩)), VIs (.slice (some ⟨gi, oi, none⟩) n ci), VIs (.int .i64 (q)), VIs (.pointer (some ⟨gi, oi + q, none⟩)), VIs (.int .i64 (ev2)), VIs (.int .i64 (y2 - ev2)), VIs (.int .i64 ((y2 - ev2) % p)), VIs (.pointer (some ⟨wr.heap.size, a2, none⟩))] (fun w' => Blk w' w.heap.size 26 #[.int .i64 p, .slice A k c] ∧ w'.cell? ⟨wr.heap.size, a2, none⟩ = some (.int .i64 y2) ∧ w'.cell? ⟨gP, oP + rq, none⟩ = some (.slice (some ⟨gi, oi, none⟩) n ci) ∧ w'.cell? ⟨gi, oi + q, none⟩ = some (.int .i64 ev2) ∧ Below v1.heap.size v1 w') (by kernel_rfl) (by kernel_rfl) (fun _ _ h hb => ⟨h.1.below hb h.1.lt, (hb.cell (World.block_lt_of_cell? _ _ h.2.1)).trans h.2.1, (hb.cell (World.block_lt_of_cell? _ _ h.2.2.1)).trans h.2.2.1, (hb.cell (World.block_lt_of_cell? _ _ h.2.2.2.1)).trans h.2.2.2.1, h.2.2.2.2.trans (hb.mono h.2.2.2.2.size)⟩) (⟨kc.drew, cy, d1, d2, zG.drew⟩) (fun x => ?_)
          refine zS (fun w' hS hV K hK => ?_) ?_
          · obtain ⟨q0, q1⟩ := hS.1.two; have q2 := hS.2.1; have q3 := hS.2.2.1; have q4 := hS.2.2.2.1; go_simp; exact zO hK
          refine zS (fun w' hS hV K hK => ?_) ?_
          · obtain ⟨q0, q1⟩ := hS.1.two; have q2 := hS.2.1; have q3 := hS.2.2.1; have q4 := hS.2.2.2.1; go_simp; exact zO hK
          refine zS (fun w' hS hV K hK => ?_) ?_
          · obtain ⟨q0, q1⟩ := hS.1.two; have q2 := hS.2.1; have q3 := hS.2.2.1; have q4 := hS.2.2.2.1; go_simp; exact zO hK
          refine zS (fun w' hS hV K hK => ?_) ?_
          · have e1 := zQ hV 1; have e2 := zQ hV 2; obtain ⟨q0, q1⟩ := hS.1.two; have q2 := hS.2.1; have q3 := hS.2.2.1; have q4 := hS.2.2.2.1; go_simp; exact hK.out _ _ _ rfl rfl (by first | rfl | exact congrArg (Value.int .i64) (by omega) | exact congrArg (Value.int .i64) ((i64_fit _ (by omega) (by omega)).trans (by omega))) zG
          refine zS (fun w' hS hV K hK => ?_) ?_
          · obtain ⟨q0, q1⟩ := hS.1.two; have q2 := hS.2.1; have q3 := hS.2.2.1; have q4 := hS.2.2.2.1; go_simp; exact zO hK
          refine zS (fun w' hS hV K hK => ?_) ?_
          · have e3 := zQ hV 3; have e4 := zQ hV 4; obtain ⟨q0, q1⟩ := hS.1.two; have q2 := hS.2.1; have q3 := hS.2.2.1; have q4 := hS.2.2.2.1; go_simp; exact hK.out _ _ _ rfl rfl (by first | rfl | exact congrArg (Value.int .i64) (by omega) | exact congrArg (Value.int .i64) ((i64_fit _ (by omega) (by omega)).trans (by omega))) zG
          refine zS (fun w' hS hV K hK => ?_) ?_
          · obtain ⟨q0, q1⟩ := hS.1.two; have q2 := hS.2.1; have q3 := hS.2.2.1; have q4 := hS.2.2.2.1; go_simp; exact zO hK
          refine zS (fun w' hS hV K hK => ?_) ?_
          · have e5 := zQ hV 5; have e6 := zQ hV 6; obtain ⟨q0, q1⟩ := hS.1.two; have q2 := hS.2.1; have q3 := hS.2.2.1; have q4 := hS.2.2.2.1; go_simp; exact hK.out _ _ _ rfl rfl (by first | rfl | exact congrArg (Value.int .i64) (by omega) | exact congrArg (Value.int .i64) ((i64_fit _ (by omega) (by omega)).trans (by omega))) zG
          refine zS (fun w' hS hV K hK => ?_) ?_
          · obtain ⟨q0, q1⟩ := hS.1.two; have q2 := hS.2.1; have q3 := hS.2.2.1; have q4 := hS.2.2.2.1; go_simp; exact zO hK
          refine zS (fun w' hS hV K hK => ?_) ?_
          · obtain ⟨q0, q1⟩ := hS.1.two; have q2 := hS.2.1; have q3 := hS.2.2.1; have q4 := hS.2.2.2.1; go_simp; exact zO hK
          refine zS (fun w' hS hV K hK => ?_) ?_
          · obtain ⟨q0, q1⟩ := hS.1.two; have q2 := hS.2.1; have q3 := hS.2.2.1; have q4 := hS.2.2.2.1; go_simp; exact zO hK
          refine zS (fun w' hS hV K hK => ?_) ?_
          · obtain ⟨q0, q1⟩ := hS.1.two; have q2 := hS.2.1; have q3 := hS.2.2.1; have q4 := hS.2.2.2.1; go_simp; exact zO hK
          refine zS (fun w' hS hV K hK => ?_) ?_
          · have e10 := zQ hV 10; have e11 := zQ hV 11; obtain ⟨q0, q1⟩ := hS.1.two; have q2 := hS.2.1; have q3 := hS.2.2.1; have q4 := hS.2.2.2.1; go_simp; exact hK.out _ _ _ rfl rfl (by first | rfl | exact congrArg (Value.int .i64) (by omega) | exact congrArg (Value.int .i64) ((i64_fit _ (by omega) (by omega)).trans (by omega))) zG
          refine zS (fun w' hS hV K hK => ?_) ?_
          · obtain ⟨q0, q1⟩ := hS.1.two; have q2 := hS.2.1; have q3 := hS.2.2.1; have q4 := hS.2.2.2.1; go_simp; exact zO hK
          refine zS (fun w' hS hV K hK => ?_) ?_
          · have e12 := zQ hV 12; have e13 := zQ hV 13; obtain ⟨q0, q1⟩ := hS.1.two; have q2 := hS.2.1; have q3 := hS.2.2.1; have q4 := hS.2.2.2.1; go_simp; exact hK.out _ _ _ rfl rfl (by first | rfl | exact congrArg (Value.int .i64) (by omega) | exact congrArg (Value.int .i64) ((i64_fit _ (by omega) (by omega)).trans (by omega))) zG
          refine zS (fun w' hS hV K hK => ?_) ?_
          · obtain ⟨q0, q1⟩ := hS.1.two; have q2 := hS.2.1; have q3 := hS.2.2.1; have q4 := hS.2.2.2.1; go_simp; exact zO hK
          refine zS (fun w' hS hV K hK => ?_) ?_
          · have e14 := zQ hV 14; have e15 := zQ hV 15; obtain ⟨q0, q1⟩ := hS.1.two; have q2 := hS.2.1; have q3 := hS.2.2.1; have q4 := hS.2.2.2.1; go_simp; exact hK.out _ _ _ rfl rfl (by first | rfl | exact congrArg (Value.int .i64) (by omega) | exact congrArg (Value.int .i64) ((i64_fit _ (by omega) (by omega)).trans (by omega))) zG
          refine zS (fun w' hS hV K hK => ?_) ?_
          · have e9 := zQ hV 9; have e16 := zQ hV 16; obtain ⟨q0, q1⟩ := hS.1.two; have q2 := hS.2.1; have q3 := hS.2.2.1; have q4 := hS.2.2.2.1; go_simp; exact zO hK
          refine zS (fun w' hS hV K hK => ?_) ?_
          · have e17 := zQ hV 17; obtain ⟨q0, q1⟩ := hS.1.two; have q2 := hS.2.1; have q3 := hS.2.2.1; have q4 := hS.2.2.2.1; go_simp; exact zO hK
          refine zS (fun w' hS hV K hK => ?_) ?_
          · obtain ⟨q0, q1⟩ := hS.1.two; have q2 := hS.2.1; have q3 := hS.2.2.1; have q4 := hS.2.2.2.1; go_simp; exact zO hK
          refine zS (fun w' hS hV K hK => ?_) ?_
          · obtain ⟨q0, q1⟩ := hS.1.two; have q2 := hS.2.1; have q3 := hS.2.2.1; have q4 := hS.2.2.2.1; go_simp; exact zO hK
          refine zS (fun w' hS hV K hK => ?_) ?_
          · obtain ⟨q0, q1⟩ := hS.1.two; have q2 := hS.2.1; have q3 := hS.2.2.1; have q4 := hS.2.2.2.1; go_simp; exact zO hK
          refine zS (fun w' hS hV K hK => ?_) ?_
          · have e20 := zQ hV 20; have e21 := zQ hV 21; obtain ⟨q0, q1⟩ := hS.1.two; have q2 := hS.2.1; have q3 := hS.2.2.1; have q4 := hS.2.2.2.1; go_simp; exact hK.out _ _ _ rfl rfl (by first | rfl | exact congrArg (Value.int .i64) (by omega) | exact congrArg (Value.int .i64) ((i64_fit _ (by omega) (by omega)).trans (by omega))) zG
          refine zS (fun w' hS hV K hK => ?_) ?_
          · have e19 := zQ hV 19; have e22 := zQ hV 22; obtain ⟨q0, q1⟩ := hS.1.two; have q2 := hS.2.1; have q3 := hS.2.2.1; have q4 := hS.2.2.2.1; go_simp; exact zO hK
          refine zS (fun w' hS hV K hK => ?_) ?_
          · have e23 := zQ hV 23; obtain ⟨q0, q1⟩ := hS.1.two; have q2 := hS.2.1; have q3 := hS.2.2.1; have q4 := hS.2.2.2.1; go_simp; exact zO hK
          refine zS (fun w' hS hV K hK => ?_) ?_
          · obtain ⟨q0, q1⟩ := hS.1.two; have q2 := hS.2.1; have q3 := hS.2.2.1; have q4 := hS.2.2.2.1; go_simp; exact zO hK
          refine zS (fun w' hS hV K hK => ?_) ?_
          · have e24 := zQ hV 24; have e25 := zQ hV 25; obtain ⟨q0, q1⟩ := hS.1.two; have q2 := hS.2.1; have q3 := hS.2.2.1; have q4 := hS.2.2.2.1; go_simp; exact zO hK
          refine zS (fun w' hS hV K hK => ?_) ?_
          · have e26 := zQ hV 26; obtain ⟨q0, q1⟩ := hS.1.two; have q2 := hS.2.1; have q3 := hS.2.2.1; have q4 := hS.2.2.2.1; go_simp; exact zO hK
          refine zS (fun w' hS hV K hK => ?_) ?_
          · have e18 := zQ hV 18; have e27 := zQ hV 27; obtain ⟨q0, q1⟩ := hS.1.two; have q2 := hS.2.1; have q3 := hS.2.2.1; have q4 := hS.2.2.2.1; go_simp; exact zO hK
          refine zS (fun w' hS hV K hK => ?_) ?_
          · have e8 := zQ hV 8; have e28 := zQ hV 28; obtain ⟨q0, q1⟩ := hS.1.two; have q2 := hS.2.1; have q3 := hS.2.2.1; have q4 := hS.2.2.2.1; go_simp; refine (num_any p (y2 - ev2) w' (by omega) hp2 (by omega) (by omega)).mono ?_; rintro e w1 ⟨rfl, rfl⟩; exact zO hK
          refine zS (fun w' hS hV K hK => ?_) ?_
          · have e0 := zQ hV 0; have e7 := zQ hV 7; obtain ⟨q0, q1⟩ := hS.1.two; have q2 := hS.2.1; have q3 := hS.2.2.1; have q4 := hS.2.2.2.1; go_simp; exact zO hK
          refine fun w' hS hV => ?_
          have e0 := zT hV 0
          have e1 := zT hV 1
          have e2 := zT hV 2
          have e3 := zT hV 3
          have e4 := zT hV 4
          have e5 := zT hV 5
          have e6 := zT hV 6
          have e7 := zT hV 7
          have e8 := zT hV 8
          have e9 := zT hV 9
          have e10 := zT hV 10
          have e11 := zT hV 11
          have e12 := zT hV 12
          have e13 := zT hV 13
          have e14 := zT hV 14
          have e15 := zT hV 15
          have e16 := zT hV 16
          have e17 := zT hV 17
          have e18 := zT hV 18
          have e19 := zT hV 19
          have e20 := zT hV 20
          have e21 := zT hV 21
          have e22 := zT hV 22
          have e23 := zT hV 23
          have e24 := zT hV 24
          have e25 := zT hV 25
          have e26 := zT hV 26
          have e27 := zT hV 27
          have e28 := zT hV 28
          have e29 := zT hV 29
          have e30 := zT hV 30
          simp only [e0, e1, e2, e3, e4, e5, e6, e7, e8, e9, e10, e11, e12, e13, e14, e15, e16, e17, e18, e19, e20, e21, e22, e23, e24, e25, e26, e27, e28, e29, e30]
          clear e0 e1 e2 e3 e4 e5 e6 e7 e8 e9 e10 e11 e12 e13 e14 e15 e16 e17 e18 e19 e20 e21 e22 e23 e24 e25 e26 e27 e28 e29 e30
          obtain ⟨-, -, -, -, s2⟩ := hS
          have hm5 := HR1.out.below s2
          obtain ⟨hoc, hof⟩ := mkI_at hm5 hba2
          refine any_one (j := 31) (by kernel_rfl) (Eq.trans (by simp only [zA, zB, zC]; exact rfl) rfl) (fun K hK => ?_)
          go_simp
          refine hK.out _ _ (wpAny_done (by kernel_rfl) ?_ _)
          have hset := (hm5.set a2 (.int .i64 ((y2 - ev2) % p))).1
          rw [ints_set, HST.out] at hset
          obtain ⟨v2, hwn⟩ : ∃ W, W = World.setCell w' ⟨wr.heap.size, a2, none⟩ (.int .i64 ((y2 - ev2) % p)) := ⟨_, rfl⟩
          rw [← hwn] at hset ⊢
          have HR2 : Hid (MkI wr v2 (some ⟨wr.heap.size, 0, none⟩) N N L2) := Lib.hid hset
          clear hwn hset hoc hof hm5 s2 HST wz kc d1 d2 cy hV 
          have HPk := Lib.hid (HP0.out.below HR2.out.b)
          obtain ⟨gi, oi, ci, d1, d2⟩ := HPk.out.grid HPT.out hlt hrin
          obtain ⟨ev3, he⟩ : ∃ z, z = ent PM i ri := ⟨_, rfl⟩
          obtain ⟨be1, be2⟩ := HPT.out.ent (show 0 < p by omega) i ri
          rw [← he] at d2 be1 be2
          obtain ⟨cy, -⟩ := mkI_at HR2.out hba3
          obtain ⟨y3, hy⟩ : ∃ z, z = L2.getD a3 0 := ⟨_, rfl⟩
          obtain ⟨by1, by2⟩ := HN2.out.getD (show 0 < p by omega) a3
          rw [← hy] at cy by1 by2
          obtain ⟨L3, hL⟩ : ∃ z, z = addAt p L2 a3 (-(ent PM i ri)) := ⟨_, rfl⟩
          have HL3 := Lib.hid hL
          have HN3 : Hid (NumsL p L3) := Lib.hid (by rw [hL]; exact addAt_nums (by omega) HN2.out _ _)
          have HST : Hid (L2.set a3 ((y3 - ev3) % p) = L3) := Lib.hid (by rw [hL, he, hy]; rfl)
          have wz := i64_fit (y3 - ev3) (by omega) (by omega)
          have kc := kr.below HR2.out.b kr.lt
          clear he hy hL HPk
          go_wp2
          refine wp_obs 31 [[],[],[],[1,2],[],[1,2,3,4],[],[1,2,3,4,5,6],[],[],[],[],[10,11],[],[10,11,12,13],[],[10,11,12,13,14,15],[9,10,11,12,13,14,15,16],[9,10,11,12,13,14,15,16,17],[],[],[19,20],[19,20,21],[],[],[23,24],[19,20,21,22,23,24,25],[19,20,21,22,23,24,25,26],[9,10,11,12,13,14,15,16,17,18,19,20,21,22,23,24,25,26,27],[8,9,10,11,12,13,14,15,16,17,18,19,20,21,22,23,24,25,26,27,28],[0,1,2,3,4,5,6,7],[0,1,2,3,4,5,6,7,8,9,10,11,12,13,14,15,16,17,18,19,20,21,22,23,24,25,26,27,28,29,30]] [VIs (.slice (some ⟨wr.heap.size, 0, none⟩) N N), VIs (.int .i64 (r)), VIs (.int .i64 (i)), VIs (.int .i64 (ri)), VIs (.int .i64 (n)), VIs (.int .i64 (rin)), VIs (.int .i64 (q)), VIs (.int .i64 (a3)), VIs (.int .i64 (p)), VIs (.slice (some ⟨wr.heap.size, 0, none⟩) N N), VIs (.int .i64 (r)), VIs (.int .i64 (i)), VIs (.int .i64 (ri)), VIs (.int .i64 (n)), VIs (.int .i64 (rin)), VIs (.int .i64 (q)), VIs (.int .i64 (a3)), VIs (.pointer (some ⟨wr.heap.size, a3, none⟩)), VIs (.int .i64 (y3)), VIs (.slice (some ⟨gP, oP, none⟩) n cP), VIs (.int .i64 (i)), VIs (.pointer (some ⟨gP, oP + i, none⟩)), VIs (.slice (some ⟨gi, oi, none⟩) n ci), VIs (.int .i64 (r)), VIs (.int .i64 (i)), VIs (.int .i64 (ri)), VIs (.pointer (some ⟨gi, oi + ri, none⟩)), VIs (.int .i64 (ev3)), VIs (.int .i64 (y3 - ev3)), VIs (.int .i64 ((y3 - ev3) % p)), VIs (.pointer (some ⟨wr.heap.size, a3, none⟩))] (fun w' => Blk w' w.heap.size 26 #[.int .i64 p, .slice A k c] ∧ w'.cell? ⟨wr.heap.size, a3, none⟩ = some (.int .i64 y3) ∧ w'.cell? ⟨gP, oP + i, none⟩ = some (.slice (some ⟨gi, oi, none⟩) n ci) ∧ w'.cell? ⟨gi, oi + ri, none⟩ = some (.int .i64 ev3) ∧ Below v2.heap.size v2 w') (by kernel_rfl) (by kernel_rfl) (fun _ _ h hb => ⟨h.1.below hb h.1.lt, (hb.cell (World.block_lt_of_cell? _ _ h.2.1)).trans h.2.1, (hb.cell (World.block_lt_of_cell? _ _ h.2.2.1)).trans h.2.2.1, (hb.cell (World.block_lt_of_cell? _ _ h.2.2.2.1)).trans h.2.2.2.1, h.2.2.2.2.trans (hb.mono h.2.2.2.2.size)⟩) (⟨kc.drew, cy, d1, d2, zG.drew⟩) (fun x => ?_)
          refine zS (fun w' hS hV K hK => ?_) ?_
          · obtain ⟨q0, q1⟩ := hS.1.two; have q2 := hS.2.1; have q3 := hS.2.2.1; have q4 := hS.2.2.2.1; go_simp; exact zO hK
          refine zS (fun w' hS hV K hK => ?_) ?_
          · obtain ⟨q0, q1⟩ := hS.1.two; have q2 := hS.2.1; have q3 := hS.2.2.1; have q4 := hS.2.2.2.1; go_simp; exact zO hK
          refine zS (fun w' hS hV K hK => ?_) ?_
          · obtain ⟨q0, q1⟩ := hS.1.two; have q2 := hS.2.1; have q3 := hS.2.2.1; have q4 := hS.2.2.2.1; go_simp; exact zO hK
          refine zS (fun w' hS hV K hK => ?_) ?_
          · have e1 := zQ hV 1; have e2 := zQ hV 2; obtain ⟨q0, q1⟩ := hS.1.two; have q2 := hS.2.1; have q3 := hS.2.2.1; have q4 := hS.2.2.2.1; go_simp; exact hK.out _ _ _ rfl rfl (by first | rfl | exact congrArg (Value.int .i64) (by omega) | exact congrArg (Value.int .i64) ((i64_fit _ (by omega) (by omega)).trans (by omega))) zG
          refine zS (fun w' hS hV K hK => ?_) ?_
          · obtain ⟨q0, q1⟩ := hS.1.two; have q2 := hS.2.1; have q3 := hS.2.2.1; have q4 := hS.2.2.2.1; go_simp; exact zO hK
          refine zS (fun w' hS hV K hK => ?_) ?_
          · have e3 := zQ hV 3; have e4 := zQ hV 4; obtain ⟨q0, q1⟩ := hS.1.two; have q2 := hS.2.1; have q3 := hS.2.2.1; have q4 := hS.2.2.2.1; go_simp; exact hK.out _ _ _ rfl rfl (by first | rfl | exact congrArg (Value.int .i64) (by omega) | exact congrArg (Value.int .i64) ((i64_fit _ (by omega) (by omega)).trans (by omega))) zG
          refine zS (fun w' hS hV K hK => ?_) ?_
          · obtain ⟨q0, q1⟩ := hS.1.two; have q2 := hS.2.1; have q3 := hS.2.2.1; have q4 := hS.2.2.2.1; go_simp; exact zO hK
          refine zS (fun w' hS hV K hK => ?_) ?_
          · have e5 := zQ hV 5; have e6 := zQ hV 6; obtain ⟨q0, q1⟩ := hS.1.two; have q2 := hS.2.1; have q3 := hS.2.2.1; have q4 := hS.2.2.2.1; go_simp; exact hK.out _ _ _ rfl rfl (by first | rfl | exact congrArg (Value.int .i64) (by omega) | exact congrArg (Value.int .i64) ((i64_fit _ (by omega) (by omega)).trans (by omega))) zG
          refine zS (fun w' hS hV K hK => ?_) ?_
          · obtain ⟨q0, q1⟩ := hS.1.two; have q2 := hS.2.1; have q3 := hS.2.2.1; have q4 := hS.2.2.2.1; go_simp; exact zO hK
          refine zS (fun w' hS hV K hK => ?_) ?_
          · obtain ⟨q0, q1⟩ := hS.1.two; have q2 := hS.2.1; have q3 := hS.2.2.1; have q4 := hS.2.2.2.1; go_simp; exact zO hK
          refine zS (fun w' hS hV K hK => ?_) ?_
          · obtain ⟨q0, q1⟩ := hS.1.two; have q2 := hS.2.1; have q3 := hS.2.2.1; have q4 := hS.2.2.2.1; go_simp; exact zO hK
          refine zS (fun w' hS hV K hK => ?_) ?_
          · obtain ⟨q0, q1⟩ := hS.1.two; have q2 := hS.2.1; have q3 := hS.2.2.1; have q4 := hS.2.2.2.1; go_simp; exact zO hK
          refine zS (fun w' hS hV K hK => ?_) ?_
          · have e10 := zQ hV 10; have e11 := zQ hV 11; obtain ⟨q0, q1⟩ := hS.1.two; have q2 := hS.2.1; have q3 := hS.2.2.1; have q4 := hS.2.2.2.1; go_simp; exact hK.out _ _ _ rfl rfl (by first | rfl | exact congrArg (Value.int .i64) (by omega) | exact congrArg (Value.int .i64) ((i64_fit _ (by omega) (by omega)).trans (by omega))) zG
          refine zS (fun w' hS hV K hK => ?_) ?_
          · obtain ⟨q0, q1⟩ := hS.1.two; have q2 := hS.2.1; have q3 := hS.2.2.1; have q4 := hS.2.2.2.1; go_simp; exact zO hK
          refine zS (fun w' hS hV K hK => ?_) ?_
          · have e12 := zQ hV 12; have e13 := zQ hV 13; obtain ⟨q0, q1⟩ := hS.1.two; have q2 := hS.2.1; have q3 := hS.2.2.1; have q4 := hS.2.2.2.1; go_simp; exact hK.out _ _ _ rfl rfl (by first | rfl | exact congrArg (Value.int .i64) (by omega) | exact congrArg (Value.int .i64) ((i64_fit _ (by omega) (by omega)).trans (by omega))) zG
          refine zS (fun w' hS hV K hK => ?_) ?_
          · obtain ⟨q0, q1⟩ := hS.1.two; have q2 := hS.2.1; have q3 := hS.2.2.1; have q4 := hS.2.2.2.1; go_simp; exact zO hK
          refine zS (fun w' hS hV K hK => ?_) ?_
          · have e14 := zQ hV 14; have e15 := zQ hV 15; obtain ⟨q0, q1⟩ := hS.1.two; have q2 := hS.2.1; have q3 := hS.2.2.1; have q4 := hS.2.2.2.1; go_simp; exact hK.out _ _ _ rfl rfl (by first | rfl | exact congrArg (Value.int .i64) (by omega) | exact congrArg (Value.int .i64) ((i64_fit _ (by omega) (by omega)).trans (by omega))) zG
          refine zS (fun w' hS hV K hK => ?_) ?_
          · have e9 := zQ hV 9; have e16 := zQ hV 16; obtain ⟨q0, q1⟩ := hS.1.two; have q2 := hS.2.1; have q3 := hS.2.2.1; have q4 := hS.2.2.2.1; go_simp; exact zO hK
          refine zS (fun w' hS hV K hK => ?_) ?_
          · have e17 := zQ hV 17; obtain ⟨q0, q1⟩ := hS.1.two; have q2 := hS.2.1; have q3 := hS.2.2.1; have q4 := hS.2.2.2.1; go_simp; exact zO hK
          refine zS (fun w' hS hV K hK => ?_) ?_
          · obtain ⟨q0, q1⟩ := hS.1.two; have q2 := hS.2.1; have q3 := hS.2.2.1; have q4 := hS.2.2.2.1; go_simp; exact zO hK
          refine zS (fun w' hS hV K hK => ?_) ?_
          · obtain ⟨q0, q1⟩ := hS.1.two; have q2 := hS.2.1; have q3 := hS.2.2.1; have q4 := hS.2.2.2.1; go_simp; exact zO hK
          refine zS (fun w' hS hV K hK => ?_) ?_
          · have e19 := zQ hV 19; have e20 := zQ hV 20; obtain ⟨q0, q1⟩ := hS.1.two; have q2 := hS.2.1; have q3 := hS.2.2.1; have q4 := hS.2.2.2.1; go_simp; exact zO hK
          refine zS (fun w' hS hV K hK => ?_) ?_
          · have e21 := zQ hV 21; obtain ⟨q0, q1⟩ := hS.1.two; have q2 := hS.2.1; have q3 := hS.2.2.1; have q4 := hS.2.2.2.1; go_simp; exact zO hK
          refine zS (fun w' hS hV K hK => ?_) ?_
          · obtain ⟨q0, q1⟩ := hS.1.two; have q2 := hS.2.1; have q3 := hS.2.2.1; have q4 := hS.2.2.2.1; go_simp; exact zO hK
          refine zS (fun w' hS hV K hK => ?_) ?_
          · obtain ⟨q0, q1⟩ := hS.1.two; have q2 := hS.2.1; have q3 := hS.2.2.1; have q4 := hS.2.2.2.1; go_simp; exact zO hK
          refine zS (fun w' hS hV K hK => ?_) ?_
          · have e23 := zQ hV 23; have e24 := zQ hV 24; obtain ⟨q0, q1⟩ := hS.1.two; have q2 := hS.2.1; have q3 := hS.2.2.1; have q4 := hS.2.2.2.1; go_simp; exact hK.out _ _ _ rfl rfl (by first | rfl | exact congrArg (Value.int .i64) (by omega) | exact congrArg (Value.int .i64) ((i64_fit _ (by omega) (by omega)).trans (by omega))) zG
          refine zS (fun w' hS hV K hK => ?_) ?_
          · have e22 := zQ hV 22; have e25 := zQ hV 25; obtain ⟨q0, q1⟩ := hS.1.two; have q2 := hS.2.1; have q3 := hS.2.2.1; have q4 := hS.2.2.2.1; go_simp; exact zO hK
          refine zS (fun w' hS hV K hK => ?_) ?_
          · have e26 := zQ hV 26; obtain ⟨q0, q1⟩ := hS.1.two; have q2 := hS.2.1; have q3 := hS.2.2.1; have q4 := hS.2.2.2.1; go_simp; exact zO hK
          refine zS (fun w' hS hV K hK => ?_) ?_
          · have e18 := zQ hV 18; have e27 := zQ hV 27; obtain ⟨q0, q1⟩ := hS.1.two; have q2 := hS.2.1; have q3 := hS.2.2.1; have q4 := hS.2.2.2.1; go_simp; exact zO hK
          refine zS (fun w' hS hV K hK => ?_) ?_
          · have e8 := zQ hV 8; have e28 := zQ hV 28; obtain ⟨q0, q1⟩ := hS.1.two; have q2 := hS.2.1; have q3 := hS.2.2.1; have q4 := hS.2.2.2.1; go_simp; refine (num_any p (y3 - ev3) w' (by omega) hp2 (by omega) (by omega)).mono ?_; rintro e w1 ⟨rfl, rfl⟩; exact zO hK
          refine zS (fun w' hS hV K hK => ?_) ?_
          · have e0 := zQ hV 0; have e7 := zQ hV 7; obtain ⟨q0, q1⟩ := hS.1.two; have q2 := hS.2.1; have q3 := hS.2.2.1; have q4 := hS.2.2.2.1; go_simp; exact zO hK
          refine fun w' hS hV => ?_
          have e0 := zT hV 0
          have e1 := zT hV 1
          have e2 := zT hV 2
          have e3 := zT hV 3
          have e4 := zT hV 4
          have e5 := zT hV 5
          have e6 := zT hV 6
          have e7 := zT hV 7
          have e8 := zT hV 8
          have e9 := zT hV 9
          have e10 := zT hV 10
          have e11 := zT hV 11
          have e12 := zT hV 12
          have e13 := zT hV 13
          have e14 := zT hV 14
          have e15 := zT hV 15
          have e16 := zT hV 16
          have e17 := zT hV 17
          have e18 := zT hV 18
          have e19 := zT hV 19
          have e20 := zT hV 20
          have e21 := zT hV 21
          have e22 := zT hV 22
          have e23 := zT hV 23
          have e24 := zT hV 24
          have e25 := zT hV 25
          have e26 := zT hV 26
          have e27 := zT hV 27
          have e28 := zT hV 28
          have e29 := zT hV 29
          have e30 := zT hV 30
          simp only [e0, e1, e2, e3, e4, e5, e6, e7, e8, e9, e10, e11, e12, e13, e14, e15, e16, e17, e18, e19, e20, e21, e22, e23, e24, e25, e26, e27, e28, e29, e30]
          clear e0 e1 e2 e3 e4 e5 e6 e7 e8 e9 e10 e11 e12 e13 e14 e15 e16 e17 e18 e19 e20 e21 e22 e23 e24 e25 e26 e27 e28 e29 e30
          obtain ⟨-, -, -, -, s2⟩ := hS
          have hm5 := HR2.out.below s2
          obtain ⟨hoc, hof⟩ := mkI_at hm5 hba3
          refine any_one (j := 31) (by kernel_rfl) (Eq.trans (by simp only [zA, zB, zC]; exact rfl) rfl) (fun K hK => ?_)
          go_simp
          refine hK.out _ _ (wpAny_done (by kernel_rfl) ?_ _)
          have hset := (hm5.set a3 (.int .i64 ((y3 - ev3) % p))).1
          rw [ints_set, HST.out] at hset
          obtain ⟨v3, hwn⟩ : ∃ W, W = World.setCell w' ⟨wr.heap.size, a3, none⟩ (.int .i64 ((y3 - ev3) % p)) := ⟨_, rfl⟩
          rw [← hwn] at hset ⊢
          have HR3 : Hid (MkI wr v3 (some ⟨wr.heap.size, 0, none⟩) N N L3) := Lib.hid hset
          clear hwn hset hoc hof hm5 s2 HST wz kc d1 d2 cy hV 
          have HR4 : Hid (MkI wr v3 (some ⟨wr.heap.size, 0, none⟩) N N (Fi (t + r))) := Lib.hid (by rw [HFF.out, HEQ.out, ← HL1.out, ← HL2.out, ← HL3.out]; exact HR3.out)
          go_wp2_with (at_builtin; refine wpList_appRowG w wr _ rfl _ _ rfl A' (d + (t + r)) c' _ (some ⟨wr.heap.size, 0, none⟩) N N _ HM.out HR4.out (by omega) rfl ?_ ?_; (go_simp); intro A6 c6 w6 hM6 hg6 hat6)
          have k8 := (kr.below HR4.out.b kr.lt).grown hg6 ((HM.out.below HR4.out.b).ne_blk (kr.below HR4.out.b kr.lt) (by decide))
          have HM6 : Hid (MkII w w6 A6 (d + (t + (r + 1))) c6 (D ++ tab (t + (r + 1)) Fi)) := Lib.hid (by rw [← Nat.add_assoc t, tab_succ, ← List.append_assoc]; exact hM6)
          have HK6 : Hid (Keeps w wb w6 (.slice A6 (d + (t + (r + 1))) c6)) := Lib.hid (HKP.out.step HR4.out.b hg6 hat6)
          clear hM6 hg6 hat6
          go_roundw
          case rel => exact ⟨r + 1, A6, c6, by omega, by go_num, rfl, HM6, HK6, k8⟩
          case measure => simp [intOf]; omega
        · obtain rfl : r = n := by omega
          have HT2 : Hid (t + r = (q + 1) * r) := Lib.hid (by rw [HTT.out, Nat.add_mul q 1 r, Nat.one_mul])
          go_wp2
          go_roundw
          case rel => exact ⟨q + 1, _, A', c', by omega, by go_num, rfl, HT2, HM, HKP, kr⟩
          case measure => simp [intOf]; omega
     · obtain rfl : q = n := by omega
       obtain rfl : t = N := by rw [HTT.out, HNN.out]
       have hbs := basis_any p A' (d + t) c' (D ++ tab t Fi) t wr HP'.out (by omega) (by omega) HM.out.rd HFT.out
       rw [← HSU.out] at hbs
       go_wp2_with fail
       refine hbs.mono ?_
       rintro e w6 ⟨A6, c6, rfl, hM6⟩
       have HK6 := Lib.hid (Keeps.new hM6 HKP.out)
       have HM6 := Lib.hid (hM6.after HM.out.b)
       have k6 := kr.below hM6.b kr.lt
       clear hM6 hbs
       go_wp2
       go_roundw
       case rel => exact ⟨i + 1, _, A6, c6, by omega, by go_num, rfl, Lib.hid rfl, HM6, HK6, k6⟩
       case measure => simp [intOf]; omega
  · obtain rfl : i = n := by omega
    have hk2 := kernel_any p A' d c' (derTo p i PM i) N wr HP'.out (by omega) (by omega) HM.out.rd (by rw [HNN.out]; exact HDT.out)
    rw [HKE.out] at hk2
    clear HDT
    go_wp2_with fail
    refine hk2.mono ?_
    rintro e w6 ⟨A6, c6, rfl, hM6⟩
    go_wp2
    go_ret
    exact ⟨A6, c6, rfl, hM6.after HM.out.b⟩
end Go.Proofs.YtaiegpggccdgoaaGreat
namespace Go.Proofs.YtaiegpggccdgoaaGreat
/-- One multiple of a row is taken away. -/
def stepR (p : Int) (out row : List Int) : List Int := if out.getD (leadL row) 0 = 0 then out else plusL p out (scaleL p row (out.getD (leadL row) 0)) (-1)
def restTo (p : Int) (rows : List (List Int)) (list : List Int) (k : Nat) : List Int := (rows.take k).foldl (stepR p) list
def restL (p : Int) (rows : List (List Int)) (list : List Int) : List Int := restTo p rows list rows.length
theorem restTo_succ {p : Int} {rows : List (List Int)} {list : List Int} {k : Nat} (hk : k < rows.length) : restTo p rows list (k + 1) = stepR p (restTo p rows list k) (rows.getD k []) := by
 unfold restTo
 rw [List.take_succ_eq_append_getElem hk, List.foldl_append, getD_of_lt [] hk]; rfl
def takeR (p : Int) (r : List Int) (at_ : Nat) (row : List Int) : List Int := plusL p row (scaleL p r (row.getD at_ 0)) (-1)
/-- The rows less multiples of the new one, which is put in its place. -/
def plcL (p : Int) (r : List Int) (at_ : Nat) (rows : List (List Int)) : Nat → List (List Int) × Bool
 | 0 => ([], false)
 | k + 1 => if (plcL p r at_ rows k).2 = false ∧ at_ < leadL (rows.getD k []) then ((plcL p r at_ rows k).1 ++ [r] ++ [takeR p r at_ (rows.getD k [])], true)
  else ((plcL p r at_ rows k).1 ++ [takeR p r at_ (rows.getD k [])], (plcL p r at_ rows k).2)
theorem plcL_len (p : Int) (r : List Int) (a : Nat) (rows : List (List Int)) : ∀ k, (plcL p r a rows k).1.length ≤ 2 * k
 | 0 => Nat.le_refl _
 | k + 1 => by
  have ih := plcL_len p r a rows k
  unfold plcL
  split <;> simp <;> omega
def newR (p : Int) (rest : List Int) : List Int := scaleL p rest (invF p (rest.getD (leadL rest) 0))
def putL (p : Int) (rows : List (List Int)) (list : List Int) : List (List Int) :=
 if leadL (restL p rows list) = list.length then rows
 else if (plcL p (newR p (restL p rows list)) (leadL (restL p rows list)) rows rows.length).2 = true then (plcL p (newR p (restL p rows list)) (leadL (restL p rows list)) rows rows.length).1
 else (plcL p (newR p (restL p rows list)) (leadL (restL p rows list)) rows rows.length).1 ++ [newR p (restL p rows list)]
def redTo (p : Int) (lists : List (List Int)) (k : Nat) : List (List Int) := (lists.take k).foldl (putL p) []
theorem redTo_succ {p : Int} {lists : List (List Int)} {k : Nat} (hk : k < lists.length) : redTo p lists (k + 1) = putL p (redTo p lists k) (lists.getD k []) := by
 unfold redTo
 rw [List.take_succ_eq_append_getElem hk, List.foldl_append, getD_of_lt [] hk]; rfl
theorem cg_subm {p : Int} (a b c : Int) : (a - (b + -1 * (c % p))) % p = (a - (b - c)) % p := by
 rw [show a - (b + -1 * (c % p)) = a - b + c % p by omega, Int.add_emod, cg_self, ← Int.add_emod]; congr 1; omega
theorem cg_subr {p : Int} (a b : Int) : (a - b % p) % p = (a - b) % p := by rw [Int.sub_emod, cg_self, ← Int.sub_emod]
theorem stepR_len (p : Int) (out row : List Int) : (stepR p out row).length = out.length := by
 unfold stepR; split
 · rfl
 · rw [plusL_len]
theorem stepR_nums {p : Int} (hp : 0 < p) {out : List Int} (row : List Int) (h : NumsL p out) : NumsL p (stepR p out row) := by
 unfold stepR; split
 · exact h
 · exact plusL_nums hp _ _ _
theorem restTo_len (p : Int) (rows : List (List Int)) (list : List Int) (k : Nat) (hk : k ≤ rows.length) : (restTo p rows list k).length = list.length := by
 induction k with
 | zero => rfl
 | succ k ih => rw [restTo_succ (by omega), stepR_len, ih (by omega)]
theorem restTo_nums {p : Int} (hp : 0 < p) (rows : List (List Int)) {list : List Int} (h : NumsL p list) (k : Nat) (hk : k ≤ rows.length) : NumsL p (restTo p rows list k) := by
 induction k with
 | zero => exact h
 | succ k ih => rw [restTo_succ (by omega)]; exact stepR_nums hp _ (ih (by omega))
theorem restL_len (p : Int) (rows : List (List Int)) (list : List Int) : (restL p rows list).length = list.length := restTo_len p rows list _ (Nat.le_refl _)
theorem restL_nums {p : Int} (hp : 0 < p) (rows : List (List Int)) {list : List Int} (h : NumsL p list) : NumsL p (restL p rows list) := restTo_nums hp rows h _ (Nat.le_refl _)
/-- What is taken away is made of the rows; what is left is 0 at their firsts. -/
theorem restTo_spec {p : Int} (hp : 2 ≤ p) {n : Nat} {B : List (List Int)} (hR : Red n B) (hT : Tab p n B) {list : List Int} (hl : list.length = n) (hn : NumsL p list) (k : Nat) (hk : k ≤ B.length) :
    (Sp p n B fun q => list.getD q 0 - (restTo p B list k).getD q 0) ∧ ∀ i, i < k → (restTo p B list k).getD (ld B i) 0 = 0 := by
 induction k with
 | zero => exact ⟨(Sp.zero p n B).congr fun q _ => by unfold restTo; simp, fun i hi => absurd hi (by omega)⟩
 | succ k ih =>
  obtain ⟨i1, i2⟩ := ih (by omega)
  have hL := restTo_len p B list k (by omega)
  have hN := restTo_nums (by omega) B hn k (by omega)
  have hrow := (hT.row (show k < B.length by omega)).1
  rw [restTo_succ (by omega)]
  obtain ⟨O, hO⟩ : ∃ O, O = restTo p B list k := ⟨_, rfl⟩
  rw [← hO] at i1 i2 hL hN ⊢
  unfold stepR
  split
  · rename_i h0
    refine ⟨i1, fun i hi => ?_⟩
    by_cases hik : i = k
    · subst hik; exact h0
    · exact i2 i (by omega)
  · have hat : ∀ q, q < n → (plusL p O (scaleL p (B.getD k []) (O.getD (leadL (B.getD k [])) 0)) (-1)).getD q 0 = (O.getD q 0 + -1 * (ent B k q * O.getD (ld B k) 0 % p)) % p := fun q hq => by
     rw [plusL_getD _ _ (by omega), scaleL_getD _ (by omega)]; rfl
    refine ⟨?_, fun i hi => ?_⟩
    · refine (i1.add ((Sp.row (p := p) (n := n) (m := B) (show k < B.length by omega)).mul (O.getD (ld B k) 0))).congr fun q hq => ?_
      rw [hat q hq, cg_subr, cg_subm]
      rw [Int.mul_comm (ent B k q)]; congr 1; omega
    · rw [hat _ (hR.lt i (by omega))]
      by_cases hik : i = k
      · subst hik
        rw [hR.one i (by omega), Int.one_mul, Int.emod_eq_of_lt (hN.getD (by omega) _).1 (hN.getD (by omega) _).2]
        rw [show O.getD (ld B i) 0 + -1 * O.getD (ld B i) 0 = 0 by omega]; rfl
      · rw [hR.zero i k (by omega) (by omega) (Ne.symm hik), i2 i (by omega)]; simp
theorem takeR_len (p : Int) (r : List Int) (a : Nat) (row : List Int) : (takeR p r a row).length = row.length := plusL_len _ _ _ _
theorem takeR_at {p : Int} {r row : List Int} {a q : Nat} (hq : q < row.length) (hl : r.length = row.length) : (takeR p r a row).getD q 0 = (row.getD q 0 - row.getD a 0 * r.getD q 0) % p := by
 unfold takeR
 rw [plusL_getD _ _ hq, scaleL_getD _ (by omega), Int.add_emod, Int.mul_emod, cg_self, ← Int.mul_emod, ← Int.add_emod]
 congr 1; rw [Int.mul_comm (r.getD q 0)]; omega
/-- The place of the new row. -/
theorem plc_spec (p : Int) (r : List Int) (a : Nat) (B : List (List Int)) (j : Nat) (hj : j ≤ B.length) (h1 : ∀ i, i < j → leadL (B.getD i []) ≤ a) (h2 : ∀ i, j ≤ i → i < B.length → a < leadL (B.getD i [])) :
    (∀ k, k ≤ j → plcL p r a B k = (tab k fun i => takeR p r a (B.getD i []), false)) ∧ ∀ m, j + m + 1 ≤ B.length → plcL p r a B (j + m + 1) = ((tab j fun i => takeR p r a (B.getD i [])) ++ [r] ++ tab (m + 1) fun i => takeR p r a (B.getD (j + i) []), true) := by
 have A1 : ∀ k, k ≤ j → plcL p r a B k = (tab k fun i => takeR p r a (B.getD i []), false) := by
  intro k
  induction k with
  | zero => intro _; rfl
  | succ k ih =>
   intro hk
   unfold plcL
   rw [ih (by omega), if_neg (fun hh => by have := h1 k (by omega); have := hh.2; omega)]
   simp only [tab_succ]
 refine ⟨A1, fun m => ?_⟩
 induction m with
 | zero =>
  intro hm
  unfold plcL
  show (if (plcL p r a B j).2 = false ∧ a < leadL (B.getD j []) then _ else _) = _
  rw [A1 j (Nat.le_refl _), if_pos ⟨rfl, h2 j (Nat.le_refl _) (by omega)⟩]
  simp only [tab_succ]; rfl
 | succ m ih =>
  intro hm
  unfold plcL
  rw [show j + (m + 1) = j + m + 1 from rfl, ih (by omega), if_neg (by simp)]
  rw [tab_succ (n := m + 1)]
  simp only [List.append_assoc]; rfl
theorem split_at (f : Nat → Nat) (a : Nat) (N : Nat) (hm : ∀ i j, i < j → j < N → f i < f j) (hne : ∀ i, i < N → f i ≠ a) : ∃ j, j ≤ N ∧ (∀ i, i < j → f i < a) ∧ ∀ i, j ≤ i → i < N → a < f i := by
 induction N with
 | zero => exact ⟨0, Nat.le_refl _, fun i hi => absurd hi (by omega), fun i _ hi => absurd hi (by omega)⟩
 | succ N ih =>
  obtain ⟨j, hj, h1, h2⟩ := ih (fun i j h h' => hm i j h (by omega)) (fun i hi => hne i (by omega))
  by_cases hjN : j = N
  · subst hjN
    by_cases hlt : f j < a
    · exact ⟨j + 1, Nat.le_refl _, fun i hi => by
       by_cases hij : i = j
       · subst hij; exact hlt
       · exact h1 i (by omega), fun i h h' => absurd h' (by omega)⟩
    · have := hne j (by omega)
      exact ⟨j, by omega, h1, fun i h h' => by obtain rfl : i = j := by omega
                                               omega⟩
  · refine ⟨j, by omega, h1, fun i h h' => ?_⟩
    by_cases hiN : i = N
    · subst hiN
      have := h2 j (Nat.le_refl _) (by omega)
      have := hm j i (by omega) (by omega)
      omega
    · exact h2 i h (by omega)
/-- The list with the new row in its place j. -/
def insL (s : Nat → List Int) (r : List Int) (j d : Nat) : List (List Int) := (tab j s) ++ [r] ++ tab (d - j) fun i => s (j + i)
theorem insL_len (s : Nat → List Int) (r : List Int) {j d : Nat} (h : j ≤ d) : (insL s r j d).length = d + 1 := by unfold insL; simp [tab_len]; omega
theorem insL_lo {s : Nat → List Int} {r : List Int} {j d i : Nat} (h : i < j) : (insL s r j d).getD i [] = s i := by
 unfold insL
 rw [List.append_assoc, getD_app_left [] _ (by rw [tab_len]; exact h), tab_getD h]
theorem insL_at (s : Nat → List Int) (r : List Int) (j d : Nat) : (insL s r j d).getD j [] = r := by
 unfold insL
 have := getD_app_right [] (tab j s) ([r] ++ tab (d - j) fun i => s (j + i)) 0
 rw [tab_len] at this
 rw [List.append_assoc]; exact this
theorem insL_hi {s : Nat → List Int} {r : List Int} {j d i : Nat} (h : j ≤ i) (hd : i < d) : (insL s r j d).getD (i + 1) [] = s i := by
 unfold insL
 have := getD_app_right [] (tab j s ++ [r]) (tab (d - j) fun i => s (j + i)) (i - j)
 rw [List.length_append, tab_len, List.length_singleton, tab_getD (by omega), show j + 1 + (i - j) = i + 1 by omega, show j + (i - j) = i by omega] at this
 exact this
theorem put_spec {p : Int} (hP : isP p = true) {n : Nat} {B : List (List Int)} (hR : Red n B) (hT : Tab p n B) {list : List Int} (hl : list.length = n) (hn : NumsL p list) :
    Red n (putL p B list) ∧ Tab p n (putL p B list) ∧ InSp p n (putL p B list) (B ++ [list]) ∧ InSp p n (B ++ [list]) (putL p B list) := by
 have hp : 2 ≤ p := by have := isP_ge hP; omega
 obtain ⟨s1, s2⟩ := restTo_spec hp hR hT hl hn B.length (Nat.le_refl _)
 have hX := restL_len p B list
 have hN := restL_nums (show 0 < p by omega) B hn
 change Sp p n B (fun q => list.getD q 0 - (restL p B list).getD q 0) at s1
 change ∀ i, i < B.length → (restL p B list).getD (ld B i) 0 = 0 at s2
 unfold putL
 obtain ⟨X, hXe⟩ : ∃ X, X = restL p B list := ⟨_, rfl⟩
 rw [← hXe] at s1 s2 hX hN ⊢
 have hBsub : InSp p n B (B ++ [list]) := InSp.of_sub fun x hx => by simp [hx]
 have hlm : Sp p n (B ++ [list]) fun q => list.getD q 0 := Sp.mem (by simp)
 have hle := leadL_le X
 by_cases hz : leadL X = list.length
 · rw [if_pos hz]
   refine ⟨hR, hT, hBsub, InSp.append (InSp.refl _ _ _) (InSp.of_mem fun x hx => ?_)⟩
   obtain rfl : x = list := by simpa using hx
   refine s1.congr fun q hq => ?_
   rw [leadL_before X q (by omega)]; congr 1; omega
 · rw [if_neg hz]
   obtain ⟨a, ha⟩ : ∃ a, a = leadL X := ⟨_, rfl⟩
   have han : a < n := by omega
   have hXa : X.getD a 0 ≠ 0 := by rw [ha]; exact leadL_at X (by omega)
   have hXb : ∀ q, q < a → X.getD q 0 = 0 := fun q hq => leadL_before X q (by omega)
   have hXr := hN.getD (show 0 < p by omega) a
   obtain ⟨v1, v2, v3⟩ := inv_spec hP (show 0 < X.getD a 0 by omega) hXr.2
   have hinv : X.getD a 0 * invF p (X.getD a 0) % p = 1 := (v3 _ (by omega) v2).2 rfl
   obtain ⟨r, hr⟩ : ∃ r, r = newR p X := ⟨_, rfl⟩
   have hrl : r.length = n := by rw [hr]; unfold newR; rw [scaleL_len]; omega
   have hrn : NumsL p r := by rw [hr]; exact scaleL_nums (by omega) _ _
   have hrat : ∀ q, q < n → r.getD q 0 = X.getD q 0 * invF p (X.getD a 0) % p := fun q hq => by rw [hr, ha]; unfold newR; rw [scaleL_getD _ (by omega)]
   have hra : r.getD a 0 = 1 := by rw [hrat a han]; exact hinv
   have hrb : ∀ q, q < a → r.getD q 0 = 0 := fun q hq => by rw [hrat q (by omega), hXb q hq]; simp
   have hrz : ∀ i, i < B.length → r.getD (ld B i) 0 = 0 := fun i hi => by rw [hrat _ (hR.lt i hi), s2 i hi]; simp
   have hne : ∀ i, i < B.length → ld B i ≠ a := fun i hi e => hXa (by rw [← e]; exact s2 i hi)
   obtain ⟨j, hj, j1, j2⟩ := split_at (ld B) a B.length hR.mono hne
   obtain ⟨q1, q2⟩ := plc_spec p r a B j hj (fun i hi => Nat.le_of_lt (j1 i hi)) j2
   obtain ⟨s, hs⟩ : ∃ s : Nat → List Int, s = fun i => takeR p r a (B.getD i []) := ⟨_, rfl⟩
   have hL : (if (plcL p r a B B.length).2 = true then (plcL p r a B B.length).1 else (plcL p r a B B.length).1 ++ [r]) = insL s r j B.length := by
    unfold insL
    by_cases hjd : j = B.length
    · rw [q1 B.length (by omega), if_neg (by simp), hjd, Nat.sub_self, hs]; simp [tab]
    · have := q2 (B.length - j - 1) (by omega)
      rw [show j + (B.length - j - 1) + 1 = B.length by omega, show B.length - j - 1 + 1 = B.length - j by omega] at this
      rw [this, if_pos rfl, hs]
   rw [← ha, ← hr, hL]
   have hBl : ∀ i, i < B.length → (B.getD i []).length = n := fun i hi => (hT.row hi).1
   have hsl : ∀ i, i < B.length → (s i).length = n := fun i hi => by rw [hs]; exact (takeR_len _ _ _ _).trans (hBl i hi)
   have hsn : ∀ i, i < B.length → NumsL p (s i) := fun i _ => by rw [hs]; exact plusL_nums (by omega) _ _ _
   have hsq : ∀ i q, i < B.length → q < n → (s i).getD q 0 = (ent B i q - ent B i a * r.getD q 0) % p := fun i q hi hq => by
    rw [hs]; exact takeR_at (by rw [hBl i hi]; exact hq) (by rw [hBl i hi, hrl])
   have hsone : ∀ i, i < B.length → (s i).getD (ld B i) 0 = 1 := fun i hi => by
    rw [hsq i _ hi (hR.lt i hi), hR.one i hi, hrz i hi, Int.mul_zero]; exact Int.emod_eq_of_lt (by omega) (by omega)
   have hszero : ∀ i k, i < B.length → k < B.length → k ≠ i → (s k).getD (ld B i) 0 = 0 := fun i k hi hk hki => by
    rw [hsq k _ hk (hR.lt i hi), hR.zero i k hi hk hki, hrz i hi, Int.mul_zero]; rfl
   have hsa : ∀ i, i < B.length → (s i).getD a 0 = 0 := fun i hi => by rw [hsq i a hi han, hra, Int.mul_one, Int.sub_self]; rfl
   have hsb : ∀ i q, i < B.length → q < ld B i → (s i).getD q 0 = 0 := fun i q hi hq => by
    have hln := hR.lt i hi
    rw [hsq i q hi (by omega), hR.before i q hq]
    rcases Nat.lt_or_ge q a with h | h
    · rw [hrb q h]; simp
    · rw [hR.before i a (by omega)]; simp
   have hslead : ∀ i, i < B.length → leadL (s i) = ld B i := fun i hi => leadL_eq _ _ (fun q hq => hsb i q hi hq) (.inr ⟨by rw [hsl i hi]; exact hR.lt i hi, by rw [hsone i hi]; omega⟩)
   have hrlead : leadL r = a := leadL_eq _ _ hrb (.inr ⟨by omega, by rw [hra]; omega⟩)
   have hlen := insL_len s r hj
   -- the three kinds of places
   have kinds : ∀ i, i < B.length + 1 → (i < j ∧ i < B.length ∧ (insL s r j B.length).getD i [] = s i) ∨ (i = j ∧ (insL s r j B.length).getD i [] = r) ∨ ∃ m, i = m + 1 ∧ j ≤ m ∧ m < B.length ∧ (insL s r j B.length).getD i [] = s m := fun i hi => by
    rcases Nat.lt_trichotomy i j with h | h | h
    · exact .inl ⟨h, by omega, insL_lo h⟩
    · exact .inr (.inl ⟨h, by rw [h]; exact insL_at _ _ _ _⟩)
    · exact .inr (.inr ⟨i - 1, by omega, by omega, by omega, by rw [show i = i - 1 + 1 by omega]; exact insL_hi (by omega) (by omega)⟩)
   obtain ⟨L, hLe⟩ : ∃ L, L = insL s r j B.length := ⟨_, rfl⟩
   rw [← hLe] at hlen kinds ⊢
   have hmem : ∀ x ∈ L, x = r ∨ ∃ i, i < B.length ∧ x = s i := fun x hx => by
    obtain ⟨i, hi, rfl⟩ := List.getElem_of_mem hx
    rw [← getD_of_lt [] hi]
    rcases kinds i (by omega) with ⟨_, h, e⟩ | ⟨_, e⟩ | ⟨m, _, _, h, e⟩
    · exact .inr ⟨i, h, e⟩
    · exact .inl e
    · exact .inr ⟨m, h, e⟩
   have hTL : Tab p n L := fun x hx => by
    rcases hmem x hx with rfl | ⟨i, hi, rfl⟩
    · exact ⟨hrl, hrn⟩
    · exact ⟨hsl i hi, hsn i hi⟩
   have hrM : r ∈ L := by rw [← insL_at s r j B.length, ← hLe]; exact getD_mem [] (by omega)
   have hsM : ∀ i, i < B.length → s i ∈ L := fun i hi => by
    rcases Nat.lt_or_ge i j with h | h
    · rw [← insL_lo (s := s) (r := r) (d := B.length) h, ← hLe]; exact getD_mem [] (by omega)
    · rw [← insL_hi (s := s) (r := r) h hi, ← hLe]; exact getD_mem [] (by omega)
   refine ⟨⟨fun i hi => ?_, fun i hi => ?_, fun i k hi hk hki => ?_, fun i k hik hk => ?_⟩, hTL, InSp.of_mem fun x hx => ?_, InSp.append (InSp.of_mem fun x hx => ?_) (InSp.of_mem fun x hx => ?_)⟩
   · unfold ld
     rcases kinds i (by omega) with ⟨_, h, e⟩ | ⟨_, e⟩ | ⟨m, _, _, h, e⟩
     · rw [e, hslead i h]; exact hR.lt i h
     · rw [e, hrlead]; exact han
     · rw [e, hslead m h]; exact hR.lt m h
   · unfold ld ent
     rcases kinds i (by omega) with ⟨_, h, e⟩ | ⟨_, e⟩ | ⟨m, _, _, h, e⟩
     · rw [e, hslead i h]; exact hsone i h
     · rw [e, hrlead]; exact hra
     · rw [e, hslead m h]; exact hsone m h
   · unfold ld ent
     rcases kinds i (by omega) with ⟨h', h, e⟩ | ⟨h', e⟩ | ⟨m, h', h'', h, e⟩
     · rcases kinds k (by omega) with ⟨g', g, f⟩ | ⟨g', f⟩ | ⟨t, g', g'', g, f⟩
       · rw [e, f, hslead i h]; exact hszero i k h g hki
       · rw [e, f, hslead i h]; exact hrz i h
       · rw [e, f, hslead i h]; exact hszero i t h g (by omega)
     · rcases kinds k (by omega) with ⟨g', g, f⟩ | ⟨g', f⟩ | ⟨t, g', g'', g, f⟩
       · rw [e, f, hrlead]; exact hsa k g
       · omega
       · rw [e, f, hrlead]; exact hsa t g
     · rcases kinds k (by omega) with ⟨g', g, f⟩ | ⟨g', f⟩ | ⟨t, g', g'', g, f⟩
       · rw [e, f, hslead m h]; exact hszero m k h g (by omega)
       · rw [e, f, hslead m h]; exact hrz m h
       · rw [e, f, hslead m h]; exact hszero m t h g (by omega)
   · unfold ld
     rcases kinds i (by omega) with ⟨h', h, e⟩ | ⟨h', e⟩ | ⟨m, h', h'', h, e⟩
     · rcases kinds k (by omega) with ⟨g', g, f⟩ | ⟨g', f⟩ | ⟨t, g', g'', g, f⟩
       · rw [e, f, hslead i h, hslead k g]; exact hR.mono i k hik g
       · rw [e, f, hslead i h, hrlead]; exact j1 i h'
       · rw [e, f, hslead i h, hslead t g]; exact hR.mono i t (by omega) g
     · rcases kinds k (by omega) with ⟨g', g, f⟩ | ⟨g', f⟩ | ⟨t, g', g'', g, f⟩
       · omega
       · omega
       · rw [e, f, hrlead, hslead t g]; exact j2 t (by omega) g
     · rcases kinds k (by omega) with ⟨g', g, f⟩ | ⟨g', f⟩ | ⟨t, g', g'', g, f⟩
       · omega
       · omega
       · rw [e, f, hslead m h, hslead t g]; exact hR.mono m t (by omega) g
   · -- what is new is made of the old
     have hXs : Sp p n (B ++ [list]) fun q => X.getD q 0 := (hlm.add ((hBsub.sp s1).mul (-1))).congr fun q _ => by congr 1; omega
     have hrs : Sp p n (B ++ [list]) fun q => r.getD q 0 := (hXs.mul (invF p (X.getD a 0))).congr fun q hq => by rw [hrat q hq, cg_self, Int.mul_comm]
     rcases hmem x hx with rfl | ⟨i, hi, rfl⟩
     · exact hrs
     · refine ((hBsub i hi).add (hrs.mul (-(ent B i a)))).congr fun q hq => ?_
       rw [hsq i q hi hq, cg_self]; congr 1
       rw [Int.neg_mul]; omega
   · obtain ⟨i, hi, rfl⟩ := List.getElem_of_mem hx
     rw [← getD_of_lt [] hi]
     refine ((Sp.mem (p := p) (n := n) (hsM i hi)).add ((Sp.mem (p := p) (n := n) hrM).mul (ent B i a))).congr fun q hq => ?_
     rw [hsq i q hi hq, Int.add_emod, cg_self, ← Int.add_emod]
     show _ = ent B i q % p
     congr 1; omega
   · obtain rfl : x = list := by simpa using hx
     have hB2 : InSp p n B L := InSp.of_mem fun x hx => by
      obtain ⟨i, hi, rfl⟩ := List.getElem_of_mem hx
      rw [← getD_of_lt [] hi]
      refine ((Sp.mem (p := p) (n := n) (hsM i hi)).add ((Sp.mem (p := p) (n := n) hrM).mul (ent B i a))).congr fun q hq => ?_
      rw [hsq i q hi hq, Int.add_emod, cg_self, ← Int.add_emod]
      show _ = ent B i q % p
      congr 1; omega
     refine ((hB2.sp s1).add ((Sp.mem (p := p) (n := n) hrM).mul (X.getD a 0))).congr fun q hq => ?_
     rw [hrat q hq, Int.add_emod, Int.mul_emod, cg_self, ← Int.mul_emod, Int.mul_left_comm, Int.mul_emod (X.getD q 0), hinv, Int.mul_one, cg_self, ← Int.add_emod]
     congr 1; omega
/-- Reduced bases one list at a time are those by columns. -/
theorem redTo_spec {p : Int} (hP : isP p = true) {n : Nat} {m : List (List Int)} (hT : Tab p n m) (k : Nat) (hk : k ≤ m.length) :
    Red n (redTo p m k) ∧ Tab p n (redTo p m k) ∧ InSp p n (redTo p m k) (m.take k) ∧ InSp p n (m.take k) (redTo p m k) := by
 induction k with
 | zero => exact ⟨Red.nil n, Tab.nil p n, InSp.refl _ _ _, InSp.refl _ _ _⟩
 | succ k ih =>
  obtain ⟨a1, a2, a3, a4⟩ := ih (by omega)
  have hk' : k < m.length := by omega
  obtain ⟨h1, h2⟩ := hT.row hk'
  obtain ⟨b1, b2, b3, b4⟩ := put_spec hP a1 a2 h1 h2
  rw [redTo_succ hk']
  refine ⟨b1, b2, b3.trans ?_, InSp.trans ?_ b4⟩
  · rw [List.take_succ_eq_append_getElem hk', ← getD_of_lt [] hk']
    exact InSp.append (a3.trans (InSp.of_sub fun x hx => by simp [hx])) (InSp.of_sub fun x hx => by simp at hx; simp [hx])
  · rw [List.take_succ_eq_append_getElem hk', ← getD_of_lt [] hk']
    exact InSp.append (a4.trans (InSp.of_sub fun x hx => by simp [hx])) (InSp.of_sub fun x hx => by simp at hx; simp [hx])
theorem red_basis {p : Int} (hP : isP p = true) {n : Nat} {m : List (List Int)} (hT : Tab p n m) : redTo p m m.length = basisL p m := by
 have hp : 2 ≤ p := by have := isP_ge hP; omega
 obtain ⟨a1, a2, a3, a4⟩ := redTo_spec hP hT m.length (Nat.le_refl _)
 rw [List.take_length] at a3 a4
 obtain ⟨b1, b2⟩ := basisL_in hP m hT
 exact a1.unique hp (basisL_red hP m hT) a2 (basisL_tab (by omega) m hT) (a3.trans b2) (b1.trans a4)
end Go.Proofs.YtaiegpggccdgoaaGreat
namespace Go.Proofs.YtaiegpggccdgoaaGreat
open Go Go.RowKit
set_option maxHeartbeats 800000 in
set_option maxRecDepth 8000 in
theorem l12First_any (A : Option Addr) (n c : Nat) (xs : List Int) (w : World) (hn : n ≤ 1099511627776) (ha : Rd w A n (ints xs)) :
    Calls Tryz.prog 91 #[.slice A n c] w fun e w' => e = .returned (.int .i64 (leadL xs)) ∧ w = w' := by
 have hxl : xs.length = n := by have := ha.1; rwa [ints_length] at this
 have Hx := Lib.hid hxl; clear hxl
 go_enter Tryz.func91, Tryz.ntmps91
 go_wp2
 go_loop [3] (fun i => ∃ k : Nat, k ≤ n ∧ i = .int .i64 k ∧ k ≤ leadL xs) (fun i => n - (intOf i).toNat)
 case atStart => exact ⟨0, by omega, rfl, by omega⟩
 case round =>
  obtain ⟨k, hk, rfl, ht⟩ := hrel
  have H := Lib.hid ht; clear ht
  by_cases hlt : k < n
  · obtain ⟨g, o, rfl, hx, hcx⟩ := ha.int hlt
    clear ha
    by_cases hi : xs[k] = 0
    · have HI := Lib.hid hi
      rw [hi] at hcx
      clear hi
      go_wp2
      go_round
      case rel => exact ⟨k + 1, by omega, by go_num, leadL_step H.out hx HI.out⟩
      case measure => simp [intOf]; omega
    · have HI := Lib.hid hi
      have e0 : (xs[k] == 0) = false := by simpa using hi
      clear hi
      go_wp2
      go_ret
      exact ⟨ret_int (by rw [leadL_stop H.out hx HI.out]), rfl⟩
  · go_wp2
    go_ret
    have := H.out
    exact ⟨ret_int (by rw [leadL_end this (by rw [Hx.out]; omega), Hx.out, show k = n by omega]), rfl⟩
end Go.Proofs.YtaiegpggccdgoaaGreat
