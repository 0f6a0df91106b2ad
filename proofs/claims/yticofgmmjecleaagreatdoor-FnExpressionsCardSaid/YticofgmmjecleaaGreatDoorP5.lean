/-
  LawFnExpressions: part 5 of the texts that the proof needs. No condition.
-/
import Derived.Test.YticofgmmjecleaaGreatDoorP4
namespace Go.Proofs.YticofgmmjecleaaGreatDoor
open Go Go.RowKit
/-- One byte of a block of its own. -/
def VBy (d : Nat) : VP := ⟨fun v w => ∃ (b : Nat) (_ : Nat), v = .slice (some ⟨b, 0, none⟩) 1 1 ∧ Blk w b 5 #[.int .u8 (48 + (d : Int))], fun _ _ _ ⟨b, c, e, h⟩ hb => ⟨b, c, e, h.below hb h.lt⟩⟩
theorem byte_text {w : World} {b d : Nat} (hk : Blk w b 5 #[.int .u8 (48 + (d : Int))]) (hd : d < 10) :
    (convert 43 9 (.slice (some ⟨b, 0, none⟩) 1 1)).run Tryz.prog w = .ok (.string ⟨[UInt8.ofNat (48 + d)].toArray⟩) w := by
  refine run_convert_bytes_back _ _ _ 5 _ 1 [UInt8.ofNat (48 + d)] Tryz.underlying43 Tryz.underlying5 Tryz.underlying9 fun j hj => ?_
  obtain rfl : j = 0 := by simpa using hj
  rw [Addr.add_lit]
  refine (hk.cell 0).trans ?_
  have : (UInt8.ofNat (48 + d)).toNat = 48 + d := by rw [UInt8.toNat_ofNat']; omega
  show some (Value.int .u8 (48 + (d : Int))) = some (.int .u8 ((UInt8.ofNat (48 + d)).toNat : Int))
  rw [this]; simp
set_option maxHeartbeats 1600000 in
set_option maxRecDepth 8000 in
theorem l01Dec_two (n : Nat) (w : World) (hn : n < 100) :
    Calls Tryz.prog 113 #[.int .i64 n] w fun e w' => ∃ t : By, e = .returned (.string ⟨t.toArray⟩) ∧ t.length ≤ 2 ∧ Below w.heap.size w w' := by
  by_cases h10 : n < 10
  · refine (l01Dec_small n w h10).mono ?_
    rintro e w' ⟨rfl, hb⟩
    exact ⟨_, rfl, by rw [dec_one h10]; simp, hb⟩
  have d1 : decide ((n : Int) < 10) = false := by simp; omega
  have q3 : Int.tmod (n : Int) 10 = ((n % 10 : Nat) : Int) := by rw [Int.tmod_eq_emod_of_nonneg (by omega)]; omega
  have q4 : Int.tdiv (n : Int) 10 = ((n / 10 : Nat) : Int) := by rw [Int.tdiv_eq_ediv_of_nonneg (by omega)]; omega
  have hit0 := fun wx => l01Dec_small (n / 10) wx (by omega)
  rw [dec_one (by omega)] at hit0
  have hd10 : n % 10 < 10 := by omega
  obtain ⟨D, hD⟩ : ∃ D, D = n % 10 := ⟨_, rfl⟩
  obtain ⟨Q, hQ⟩ : ∃ Q, Q = n / 10 := ⟨_, rfl⟩
  rw [← hD] at q3 hd10
  rw [← hQ] at q4 hit0
  have W1 : IntKind.i64.wrap (48 + (D : Int)) = 48 + (D : Int) := by rw [IntWalk.i64_left]; unfold wrap64; omega
  have W2 : IntKind.u8.wrap (48 + (D : Int)) = 48 + (D : Int) := by
    have e : IntKind.u8.wrap (48 + (D : Int)) = (48 + (D : Int)) % 256 := rfl
    rw [e]; omega
  have W3 : IntKind.i64.wrap (Q : Int) = Q := by rw [IntWalk.i64_left]; unfold wrap64; omega
  have W4 : wrap64 (48 + (D : Int)) = 48 + (D : Int) := by unfold wrap64; omega
  have W5 : wrap64 (Q : Int) = Q := by unfold wrap64; omega
  obtain ⟨y, hy⟩ : ∃ y : By, y = [UInt8.ofNat (48 + Q)] := ⟨_, rfl⟩
  obtain ⟨z, hz⟩ : ∃ z : By, z = [UInt8.ofNat (48 + D)] := ⟨_, rfl⟩
  have hyl : y.length = 1 := by rw [hy]; rfl
  have hzl : z.length = 1 := by rw [hz]; rfl
  have hit : ∀ wx, Calls Tryz.prog 113 #[.int .i64 (Q : Int)] wx fun e w' => e = .returned (.string ⟨y.toArray⟩) ∧ Below wx.heap.size wx w' := by
    rw [hy]; exact hit0
  have hbt : ∀ {wx : World} {b : Nat}, Blk wx b 5 #[.int .u8 (48 + (D : Int))] → (convert 43 9 (.slice (some ⟨b, 0, none⟩) 1 1)).run Tryz.prog wx = .ok (.string ⟨z.toArray⟩) wx := by
    intro wx b hk; rw [hz]; exact byte_text hk hd10
  have hcat := fun wx => cat_big (P := Tryz.prog) wx y z (by omega)
  have HL : Hid ((y ++ z).length ≤ 2) := Lib.hid (by rw [List.length_append]; omega)
  clear hit0 hy hz hyl hzl hD hQ h10 hn
  go_enter Tryz.func113, Tryz.ntmps113
  go_wp2
  refine wp_obs 11 [[], [0], [0, 1], [], [3], [3, 4], [3, 4, 5], [3, 4, 5, 6], [3, 4, 5, 6, 7], [0, 1, 2, 3, 4, 5, 6, 7, 8], [0, 1, 2, 3, 4, 5, 6, 7, 8, 9]] [VIs (.int .i64 (n : Int)), VIs (.int .i64 (Q : Int)), VIs (.string ⟨y.toArray⟩), VIs (.int .i64 (n : Int)), VIs (.int .i64 (D : Int)), VIs (.int .i64 (48 + (D : Int))), VIs (.int .u8 (48 + (D : Int))), VBy D, VIs (.string ⟨z.toArray⟩), VIs (.string ⟨(y ++ z).toArray⟩), VIs (.string ⟨(y ++ z).toArray⟩)] (fun w' => Below w.heap.size w w') (by kernel_rfl) (by kernel_rfl) (fun _ _ h hb => h.trans (hb.mono h.size)) ((Below.refl _ _).drew) (fun x => ?_)
  refine obs_step (Eq.trans (by simp only [List.getElem?_toArray, List.getElem?_cons_zero]; exact rfl) rfl) rfl (fun w' hS hV K hK => ?_) ?_
  · go_simp
    exact hK.out _ _ _ rfl rfl rfl (Below.refl _ _)
  simp only [List.setIfInBounds_toArray, List.set_cons_zero, List.set_cons_succ]
  refine obs_step (Eq.trans (by simp only [List.getElem?_toArray, List.getElem?_cons_succ, List.getElem?_cons_zero]; exact rfl) rfl) rfl (fun w' hS hV K hK => ?_) ?_
  · have e0 : x 0 = (.int .i64 (n : Int)) := hV 0 (by decide)
    go_simp
    exact hK.out _ _ _ rfl rfl rfl (Below.refl _ _)
  simp only [List.setIfInBounds_toArray, List.set_cons_zero, List.set_cons_succ]
  refine obs_step (Eq.trans (by simp only [List.getElem?_toArray, List.getElem?_cons_succ, List.getElem?_cons_zero]; exact rfl) rfl) rfl (fun w' hS hV K hK => ?_) ?_
  · have e0 : x 0 = (.int .i64 (n : Int)) := hV 0 (by decide)
    have e1 : x 1 = (.int .i64 (Q : Int)) := hV 1 (by decide)
    go_simp
    refine (hit _).mono ?_
    rintro e v1 ⟨rfl, hb⟩
    exact hK.out _ _ _ rfl rfl rfl hb
  simp only [List.setIfInBounds_toArray, List.set_cons_zero, List.set_cons_succ]
  refine obs_step (Eq.trans (by simp only [List.getElem?_toArray, List.getElem?_cons_succ, List.getElem?_cons_zero]; exact rfl) rfl) rfl (fun w' hS hV K hK => ?_) ?_
  · go_simp
    exact hK.out _ _ _ rfl rfl rfl (Below.refl _ _)
  simp only [List.setIfInBounds_toArray, List.set_cons_zero, List.set_cons_succ]
  refine obs_step (Eq.trans (by simp only [List.getElem?_toArray, List.getElem?_cons_succ, List.getElem?_cons_zero]; exact rfl) rfl) rfl (fun w' hS hV K hK => ?_) ?_
  · have e3 : x 3 = (.int .i64 (n : Int)) := hV 3 (by decide)
    go_simp
    exact hK.out _ _ _ rfl rfl rfl (Below.refl _ _)
  simp only [List.setIfInBounds_toArray, List.set_cons_zero, List.set_cons_succ]
  refine obs_step (Eq.trans (by simp only [List.getElem?_toArray, List.getElem?_cons_succ, List.getElem?_cons_zero]; exact rfl) rfl) rfl (fun w' hS hV K hK => ?_) ?_
  · have e3 : x 3 = (.int .i64 (n : Int)) := hV 3 (by decide)
    have e4 : x 4 = (.int .i64 (D : Int)) := hV 4 (by decide)
    go_simp
    exact hK.out _ _ _ rfl rfl rfl (Below.refl _ _)
  simp only [List.setIfInBounds_toArray, List.set_cons_zero, List.set_cons_succ]
  refine obs_step (Eq.trans (by simp only [List.getElem?_toArray, List.getElem?_cons_succ, List.getElem?_cons_zero]; exact rfl) rfl) rfl (fun w' hS hV K hK => ?_) ?_
  · have e3 : x 3 = (.int .i64 (n : Int)) := hV 3 (by decide)
    have e4 : x 4 = (.int .i64 (D : Int)) := hV 4 (by decide)
    have e5 : x 5 = (.int .i64 (48 + (D : Int))) := hV 5 (by decide)
    go_simp
    exact hK.out _ _ _ rfl rfl rfl (Below.refl _ _)
  simp only [List.setIfInBounds_toArray, List.set_cons_zero, List.set_cons_succ]
  refine obs_step (Eq.trans (by simp only [List.getElem?_toArray, List.getElem?_cons_succ, List.getElem?_cons_zero]; exact rfl) rfl) rfl (fun w' hS hV K hK => ?_) ?_
  · have e3 : x 3 = (.int .i64 (n : Int)) := hV 3 (by decide)
    have e4 : x 4 = (.int .i64 (D : Int)) := hV 4 (by decide)
    have e5 : x 5 = (.int .i64 (48 + (D : Int))) := hV 5 (by decide)
    have e6 : x 6 = (.int .u8 (48 + (D : Int))) := hV 6 (by decide)
    go_simp
    exact hK.out _ _ _ rfl rfl ⟨_, 0, rfl, Blk.new _ _ _⟩ ((Below.refl _ _).alloc (Nat.le_refl _) _)
  simp only [List.setIfInBounds_toArray, List.set_cons_zero, List.set_cons_succ]
  refine obs_step (Eq.trans (by simp only [List.getElem?_toArray, List.getElem?_cons_succ, List.getElem?_cons_zero]; exact rfl) rfl) rfl (fun w' hS hV K hK => ?_) ?_
  · have e3 : x 3 = (.int .i64 (n : Int)) := hV 3 (by decide)
    have e4 : x 4 = (.int .i64 (D : Int)) := hV 4 (by decide)
    have e5 : x 5 = (.int .i64 (48 + (D : Int))) := hV 5 (by decide)
    have e6 : x 6 = (.int .u8 (48 + (D : Int))) := hV 6 (by decide)
    obtain ⟨A7, c7, e7, h7⟩ := hV 7 (by decide)
    have hcv := hbt h7
    go_simp
    exact hK.out _ _ _ rfl rfl rfl (Below.refl _ _)
  simp only [List.setIfInBounds_toArray, List.set_cons_zero, List.set_cons_succ]
  refine obs_step (Eq.trans (by simp only [List.getElem?_toArray, List.getElem?_cons_succ, List.getElem?_cons_zero]; exact rfl) rfl) rfl (fun w' hS hV K hK => ?_) ?_
  · have e0 : x 0 = (.int .i64 (n : Int)) := hV 0 (by decide)
    have e1 : x 1 = (.int .i64 (Q : Int)) := hV 1 (by decide)
    have e2 : x 2 = (.string ⟨y.toArray⟩) := hV 2 (by decide)
    have e3 : x 3 = (.int .i64 (n : Int)) := hV 3 (by decide)
    have e4 : x 4 = (.int .i64 (D : Int)) := hV 4 (by decide)
    have e5 : x 5 = (.int .i64 (48 + (D : Int))) := hV 5 (by decide)
    have e6 : x 6 = (.int .u8 (48 + (D : Int))) := hV 6 (by decide)
    obtain ⟨A7, c7, e7, h7⟩ := hV 7 (by decide)
    have e8 : x 8 = (.string ⟨z.toArray⟩) := hV 8 (by decide)
    go_simp
    exact hK.out _ _ _ rfl rfl rfl (Below.refl _ _)
  simp only [List.setIfInBounds_toArray, List.set_cons_zero, List.set_cons_succ]
  refine obs_step (Eq.trans (by simp only [List.getElem?_toArray, List.getElem?_cons_succ, List.getElem?_cons_zero]; exact rfl) rfl) rfl (fun w' hS hV K hK => ?_) ?_
  · have e0 : x 0 = (.int .i64 (n : Int)) := hV 0 (by decide)
    have e1 : x 1 = (.int .i64 (Q : Int)) := hV 1 (by decide)
    have e2 : x 2 = (.string ⟨y.toArray⟩) := hV 2 (by decide)
    have e3 : x 3 = (.int .i64 (n : Int)) := hV 3 (by decide)
    have e4 : x 4 = (.int .i64 (D : Int)) := hV 4 (by decide)
    have e5 : x 5 = (.int .i64 (48 + (D : Int))) := hV 5 (by decide)
    have e6 : x 6 = (.int .u8 (48 + (D : Int))) := hV 6 (by decide)
    obtain ⟨A7, c7, e7, h7⟩ := hV 7 (by decide)
    have e8 : x 8 = (.string ⟨z.toArray⟩) := hV 8 (by decide)
    have e9 : x 9 = (.string ⟨(y ++ z).toArray⟩) := hV 9 (by decide)
    go_simp
    exact hK.out _ _ _ rfl rfl rfl (Below.refl _ _)
  simp only [List.setIfInBounds_toArray, List.set_cons_zero, List.set_cons_succ]
  refine fun w' hS hV => ?_
  have e0 : x 0 = (.int .i64 (n : Int)) := hV 0 (by decide)
  have e1 : x 1 = (.int .i64 (Q : Int)) := hV 1 (by decide)
  have e2 : x 2 = (.string ⟨y.toArray⟩) := hV 2 (by decide)
  have e3 : x 3 = (.int .i64 (n : Int)) := hV 3 (by decide)
  have e4 : x 4 = (.int .i64 (D : Int)) := hV 4 (by decide)
  have e5 : x 5 = (.int .i64 (48 + (D : Int))) := hV 5 (by decide)
  have e6 : x 6 = (.int .u8 (48 + (D : Int))) := hV 6 (by decide)
  obtain ⟨A7, c7, e7, h7⟩ := hV 7 (by decide)
  have e8 : x 8 = (.string ⟨z.toArray⟩) := hV 8 (by decide)
  have e9 : x 9 = (.string ⟨(y ++ z).toArray⟩) := hV 9 (by decide)
  have e10 : x 10 = (.string ⟨(y ++ z).toArray⟩) := hV 10 (by decide)
  simp only [e0, e1, e2, e3, e4, e5, e6, e7, e8, e9, e10]
  clear e0 e1 e2 e3 e4 e5 e6 e7 e8 e9 e10
  refine wpAny_done (by kernel_rfl) ?_ _
  go_wp2
  go_ret
  exact ⟨y ++ z, rfl, HL.out, hS⟩
def DrawPost (g L : Nat) (w : World) (e : Ending) (w' : World) : Prop :=
  ∃ t : By, e = .returned (.string ⟨t.toArray⟩) ∧ t.length ≤ L ∧ Dr g 121 w w'
def DrC (f : FuncId) (n L : Nat) (d : Int) : Prop :=
  ∀ (g : Nat) (P : Int) (A : Option Addr) (c : Nat) (w : World), Src w g 121 → Calls Tryz.prog f #[.pointer (some ⟨g, 0, none⟩), .agg #[.int .i64 P, .slice A n c], .int .i64 d] w fun e w' => DrawPost g L w e w'
theorem neq_nil (t : By) : ((ByteArray.mk t.toArray) != ByteArray.mk #[]) = !t.isEmpty := by
  cases t with
  | nil => rfl
  | cons a l =>
    show (!((a :: l).toArray == #[])) = true
    simp
set_option maxHeartbeats 3200000 in
set_option maxRecDepth 8000 in
theorem atom_draw (n L : Nat) (d : Nat) (hn1 : 1 ≤ n) (hn : n ≤ 6) (hL : L ≤ 100000) (hdd : d ≤ 100) (hrec : ∀ e : Nat, d = e + 1 → DrC 115 n L (e : Int)) : DrC 138 n (L + 7) (d : Int) := by
  intro g P A c w hs
  have hd0 := (Dr.refl hs).alloc (.cells #[.int .i64 P, .slice A n c] 28)
  have kb0 : Blk (w.alloc (.cells #[.int .i64 P, .slice A n c] 28)) w.heap.size 28 #[.int .i64 P, .slice A n c] := Blk.new _ _ _
  have hnx := next_any g 4 _ hd0.s' (by omega)
  have HD0 := Lib.hid hd0
  have HK0 := Lib.hid kb0
  have HREC := Lib.hid hrec
  have hpw : 2 ≤ pw n := by unfold pw; exact Nat.le_trans (by decide) (Nat.pow_le_pow_right (by omega) hn1)
  have hpw2 : pw n ≤ 64 := pw_le hn
  have hsz := fun wx => l04Size_any P A n c wx (show n ≤ 30 by omega)
  obtain ⟨N, hN⟩ : ∃ N, N = pw n := ⟨_, rfl⟩
  rw [← hN] at hpw hpw2 hsz
  clear hd0 kb0 hs hrec hN
  go_enter Tryz.func138, Tryz.ntmps138
  go_wp2_with fail
  refine hnx.mono ?_
  rintro e w1 ⟨r, rfl, hr0, hr1, hd1⟩
  have kb1 := HK0.out.dr hd1 (by decide)
  obtain ⟨q0, q1⟩ := kb1.two
  have hd01 := HD0.out.trans hd1
  have hs1 := hd1.s'
  have HD1 := Lib.hid hd01
  clear hnx hd1 hd01 HD0 HK0 hr1
  by_cases e0 : r = 0
  · subst e0
    have hnx := next_any g 20 _ hs1 (by omega)
    clear hs1
    go_wp2_with fail
    refine hnx.mono ?_
    rintro e w2 ⟨m, rfl, hm0, hm1, hd2⟩
    obtain ⟨m, rfl⟩ : ∃ k : Nat, m = k := ⟨m.toNat, by omega⟩
    have hdc := l01Dec_two m w2 (by have := hm1 (by omega); omega)
    have HD2 := Lib.hid (HD1.out.trans hd2)
    clear hnx hd2 HD1 hm1
    go_wp2_with fail
    refine hdc.mono ?_
    rintro e w3 ⟨t, rfl, htl, hb3⟩
    have HB3 := Lib.hid hb3
    have HT := Lib.hid htl
    clear hb3 htl hdc
    go_wp2
    go_ret
    exact ⟨t, rfl, by have := HT.out; omega, HD2.out.then HB3.out⟩
  have q0' : (r == 0) = false := by simpa using e0
  by_cases e1 : r = 1
  · subst e1
    by_cases hdz : d = 0
    · subst hdz
      have hsz1 := hsz w1
      go_wp2_with fail
      refine hsz1.mono ?_
      rintro e w2 ⟨rfl, hb2⟩
      have hd2 := HD1.out.then hb2
      have hnx := next_any g ((N : Int) - 1) w2 hd2.s' (by omega)
      have W1 : wrap64 ((N : Int) - 1) = (N : Int) - 1 := by unfold wrap64; omega
      have W2 : IntKind.i64.wrap ((N : Int) - 1) = (N : Int) - 1 := by rw [IntWalk.i64_left]; exact W1
      have HD2 := Lib.hid hd2
      clear hsz1 hb2 hd2 hs1 HD1
      go_wp2_with fail
      refine hnx.mono ?_
      rintro e w3 ⟨m, rfl, hm0, hm1, hd3⟩
      obtain ⟨m, rfl⟩ : ∃ k : Nat, m = k := ⟨m.toNat, by omega⟩
      have hm2 := hm1 (by omega)
      have W3 : wrap64 (1 + (m : Int)) = ((m + 1 : Nat) : Int) := by unfold wrap64; omega
      have W4 : IntKind.i64.wrap (1 + (m : Int)) = ((m + 1 : Nat) : Int) := by rw [IntWalk.i64_left]; exact W3
      have hnm := l19Name_any (m + 1) w3 (by omega)
      have hnl : (nameL 6 (m + 1)).length ≤ 7 := by unfold nameL; rw [if_neg (by omega)]; exact nameTo_len (m + 1) 6
      generalize nameL 6 (m + 1) = z at hnm hnl
      have HD3 := Lib.hid (HD2.out.trans hd3)
      have HZ := Lib.hid hnl
      clear hnx hd3 HD2 hm1 hm2 hnl
      go_wp2_with fail
      refine hnm.mono ?_
      rintro e w4 ⟨rfl, hb4⟩
      have HB4 := Lib.hid hb4
      clear hb4 hnm
      go_wp2
      go_ret
      exact ⟨z, rfl, by have := HZ.out; omega, HD3.out.then HB4.out⟩
    · obtain ⟨e, rfl⟩ : ∃ e, d = e + 1 := ⟨d - 1, by omega⟩
      have hcall := HREC.out e rfl g P A c w1 hs1
      have D1 : decide ((0 : Int) < (e : Int) + 1) = true := decide_eq_true (by omega)
      have D2 : decide ((0 : Int) < ((e + 1 : Nat) : Int)) = true := decide_eq_true (by omega)
      have W1 : (e : Int) + 1 - 1 = e := by omega
      have W2 : wrap64 (e : Int) = e := by unfold wrap64; omega
      clear HREC hs1
      go_wp2_with fail
      refine hcall.mono ?_
      rintro e' w2 ⟨t, rfl, htl, hd2⟩
      have HD2 := Lib.hid (HD1.out.trans hd2)
      have g1 := fun wx => cat_big (P := Tryz.prog) wx [40] t (by simp only [List.length_cons, List.length_nil]; have := htl; omega)
      have g2 := fun wx => cat_big (P := Tryz.prog) wx ([40] ++ t) [41] (by simp only [List.length_append, List.length_cons, List.length_nil]; have := htl; omega)
      have HL : Hid (([40] ++ t ++ [41]).length ≤ L + 7) := Lib.hid (by simp only [List.length_append, List.length_cons, List.length_nil]; have := htl; omega)
      generalize [40] ++ t ++ [41] = z2 at *
      generalize [40] ++ t = z1 at *
      clear hd2 htl hcall HD1
      go_wp2
      go_ret
      exact ⟨z2, rfl, HL.out, HD2.out⟩
  have q1' : (r == 1) = false := by simpa using e1
  have hsz1 := hsz w1
  go_wp2_with fail
  refine hsz1.mono ?_
  rintro e w2 ⟨rfl, hb2⟩
  have hd2 := HD1.out.then hb2
  have hnx := next_any g ((N : Int) - 1) w2 hd2.s' (by omega)
  have W1 : wrap64 ((N : Int) - 1) = (N : Int) - 1 := by unfold wrap64; omega
  have W2 : IntKind.i64.wrap ((N : Int) - 1) = (N : Int) - 1 := by rw [IntWalk.i64_left]; exact W1
  have HD2 := Lib.hid hd2
  clear hsz1 hb2 hd2 hs1 HD1
  go_wp2_with fail
  refine hnx.mono ?_
  rintro e w3 ⟨m, rfl, hm0, hm1, hd3⟩
  obtain ⟨m, rfl⟩ : ∃ k : Nat, m = k := ⟨m.toNat, by omega⟩
  have hm2 := hm1 (by omega)
  have W3 : wrap64 (1 + (m : Int)) = ((m + 1 : Nat) : Int) := by unfold wrap64; omega
  have W4 : IntKind.i64.wrap (1 + (m : Int)) = ((m + 1 : Nat) : Int) := by rw [IntWalk.i64_left]; exact W3
  have hnm := l19Name_any (m + 1) w3 (by omega)
  have hnl : (nameL 6 (m + 1)).length ≤ 7 := by unfold nameL; rw [if_neg (by omega)]; exact nameTo_len (m + 1) 6
  generalize nameL 6 (m + 1) = z at hnm hnl
  have HD3 := Lib.hid (HD2.out.trans hd3)
  have HZ := Lib.hid hnl
  clear hnx hd3 HD2 hm1 hm2 hnl
  go_wp2_with fail
  refine hnm.mono ?_
  rintro e w4 ⟨rfl, hb4⟩
  have HB4 := Lib.hid hb4
  clear hb4 hnm
  go_wp2
  go_ret
  exact ⟨z, rfl, by have := HZ.out; omega, HD3.out.then HB4.out⟩
def signL : List By := [[43], [45]]
def mulSL : List By := [[42], [42], [94], [46]]
theorem signL_len : ∀ t ∈ signL, t.length = 1 := by decide
theorem mulSL_len : ∀ t ∈ mulSL, t.length = 1 := by decide
/-- One of some texts, drawn. -/
theorem pick_text (g : Nat) (l : List By) (w0 w : World) (hl : 1 ≤ l.length) (hl2 : l.length ≤ 1000) (hs : Src w g 121) :
    Calls Tryz.prog 72 #[.pointer (some ⟨g, 0, none⟩), .int .i64 (l.length : Int)] (w.alloc (.cells (txtCells l) 9)) fun e w' => ∃ (r : Nat) (h : r < l.length), e = .returned (.int .i64 (r : Int)) ∧ w'.cell? ⟨w.heap.size, r, none⟩ = some (.string ⟨l[r].toArray⟩) ∧ Dr g 121 w w' := by
  have hd0 := (Dr.refl hs).alloc (.cells (txtCells l) 9)
  have kb0 : Blk (w.alloc (.cells (txtCells l) 9)) w.heap.size 9 (txtCells l) := Blk.new _ _ _
  refine (next_any g (l.length : Int) _ hd0.s' (by omega)).mono ?_
  rintro e w1 ⟨r, rfl, hr0, hr1, hd1⟩
  have hr2 := hr1 (by omega)
  obtain ⟨r, rfl⟩ : ∃ k : Nat, r = k := ⟨r.toNat, by omega⟩
  exact ⟨r, by omega, rfl, txt_cell (kb0.dr hd1 (by decide)) (by omega), hd0.trans hd1⟩
set_option maxHeartbeats 6400000 in
set_option maxRecDepth 8000 in
theorem sum_draw (n L C : Nat) (d : Nat) (hC : C = 7 + 3 * L) (hL : L ≤ 100000) (hdd : d ≤ 100) (hrec : DrC 138 n L (d : Int)) : DrC 115 n (3 * C) (d : Int) := by
  intro g P A c w hs
  have hd0 := (Dr.refl hs).alloc (.cells #[.int .i64 P, .slice A n c] 28)
  have kb0 : Blk (w.alloc (.cells #[.int .i64 P, .slice A n c] 28)) w.heap.size 28 #[.int .i64 P, .slice A n c] := Blk.new _ _ _
  have hnx := next_any g 3 _ hd0.s' (by omega)
  have HD0 := Lib.hid hd0
  have HK0 := Lib.hid kb0
  have HREC := Lib.hid hrec
  have HC := Lib.hid hC
  have HCL : Hid (3 * C ≤ 1000000) := Lib.hid (by omega)
  clear hd0 kb0 hs hrec hC hL
  go_enter Tryz.func115, Tryz.ntmps115
  go_wp2_with fail
  refine hnx.mono ?_
  rintro e w1 ⟨r, rfl, hr0, hr1, hd1⟩
  obtain ⟨r, rfl⟩ : ∃ k : Nat, r = k := ⟨r.toNat, by omega⟩
  have hr2 := hr1 (by omega)
  have W1 : wrap64 (1 + (r : Int)) = ((r + 1 : Nat) : Int) := by unfold wrap64; omega
  have W2 : IntKind.i64.wrap (1 + (r : Int)) = ((r + 1 : Nat) : Int) := by rw [IntWalk.i64_left]; exact W1
  have kb1 := HK0.out.dr hd1 (by decide)
  have hd01 := HD0.out.trans hd1
  clear hnx hd1 HD0 HK0 hr1
  obtain ⟨m, hm⟩ : ∃ m, m = r + 1 := ⟨_, rfl⟩
  rw [← hm] at W1 W2
  have HM : Hid (m ≤ 3) := Lib.hid (by omega)
  clear hm hr2
  go_wp2
  clear W1 W2
  go_loopw [7, 8] (fun tv kv wr => ∃ (k : Nat) (t : By), k ≤ 3 ∧ kv = .int .i64 (k : Int) ∧ tv = .string ⟨t.toArray⟩ ∧ Hid (t.length + k * C ≤ 3 * C) ∧ Dr g 121 w wr ∧ Blk wr w.heap.size 28 #[.int .i64 P, .slice A n c]) (fun _ kv _ => (intOf kv).toNat)
  case atStart => exact ⟨m, [], HM.out, rfl, rfl, Lib.hid (by have := HM.out; have := Nat.mul_le_mul_right C this; simpa using this), hd01, kb1⟩
  case round =>
    obtain ⟨k, t, hk, rfl, rfl, ht, hd2, kb2⟩ := hrel
    clear hd01 kb1 HM
    by_cases hk0 : k = 0
    · subst hk0
      have HD2 := Lib.hid hd2
      clear hd2 kb2
      go_wp2
      go_ret
      exact ⟨t, rfl, by have := ht.out; omega, HD2.out⟩
    obtain ⟨k, rfl⟩ : ∃ j, k = j + 1 := ⟨k - 1, by omega⟩
    have D1 : decide ((0 : Int) < (k : Int) + 1) = true := decide_eq_true (by omega)
    have D2 : decide ((0 : Int) < ((k + 1 : Nat) : Int)) = true := decide_eq_true (by omega)
    have W3 : (k : Int) + 1 - 1 = k := by omega
    have W4 : wrap64 (k : Int) = k := by unfold wrap64; omega
    have HT : Hid (t.length + k * C + C ≤ 3 * C) := Lib.hid (by have := ht.out; rw [Nat.succ_mul] at this; omega)
    have HTL : Hid (t.length ≤ 1000000) := Lib.hid (by have := HT.out; have := HCL.out; omega)
    have hneq := neq_nil t
    clear ht
    obtain ⟨q0, q1⟩ := kb2.two
    have HK2 := Lib.hid kb2
    have hd2s := hd2.s'
    have HD2 := Lib.hid hd2
    clear hd2 kb2
    cases hemp : t.isEmpty
    · clear hneq
      have hpk := pick_text g signL wr wr (by decide) (by decide) hd2s
      clear hd2s
      go_wp2_with fail
      refine hpk.mono ?_
      rintro e w3 ⟨r3, hr3, rfl, hcell, hd3⟩
      have hcl := signL_len signL[r3] (List.getElem_mem hr3)
      have hrr : r3 < 2 := hr3
      generalize signL[r3] = z at hcell hcl
      have hcat := fun wx => cat_big (P := Tryz.prog) wx t z (by have := HTL.out; omega)
      have HT1 : Hid ((t ++ z).length + k * C + C ≤ 3 * C + 1) := Lib.hid (by have := HT.out; rw [List.length_append]; omega)
      have HT1L : Hid ((t ++ z).length ≤ 2000000) := Lib.hid (by have := HTL.out; rw [List.length_append]; omega)
      have HK3 := Lib.hid (HK2.out.dr hd3 (by decide))
      have hs3 := hd3.s'
      have HD3 := Lib.hid (HD2.out.trans hd3)
      have i1 : (0 : Int) ≤ (r3 : Int) := by omega
      have i2 : (r3 : Int) < 2 := by omega
      clear hpk hd3 hcl hr3 hrr HD2 HK2 q0 q1 hemp
      generalize t ++ z = t1 at *
      obtain ⟨q0, q1⟩ := HK3.out.two

      have hnx := next_any g 3 w3 hs3 (by omega)
      clear hs3
      go_wp2_with fail
      refine hnx.mono ?_
      rintro e w5 ⟨r5, rfl, h50, h51, hd5⟩
      obtain ⟨r5, rfl⟩ : ∃ x : Nat, r5 = x := ⟨r5.toNat, by omega⟩
      have h52 := h51 (by omega)
      have W5 : wrap64 (1 + (r5 : Int)) = ((r5 + 1 : Nat) : Int) := by unfold wrap64; omega
      have W6 : IntKind.i64.wrap (1 + (r5 : Int)) = ((r5 + 1 : Nat) : Int) := by rw [IntWalk.i64_left]; exact W5
      have kb5 := HK3.out.dr hd5 (by decide)
      have hd05 := HD3.out.trans hd5
      obtain ⟨m5, hm5⟩ : ∃ x, x = r5 + 1 := ⟨_, rfl⟩
      rw [← hm5] at W5 W6
      have HM5 : Hid (m5 ≤ 3) := Lib.hid (by omega)
      clear hnx hd5 h51 h52 hm5 HK3 HD3 q0 q1 hcell hcat i1 i2 D1 D2
      go_wp2
      clear W5 W6
      go_loopw [7, 9] (fun tv jv wq => ∃ (j : Nat) (s : By), j ≤ 3 ∧ jv = .int .i64 (j : Int) ∧ tv = .string ⟨s.toArray⟩ ∧ Hid (s.length + j * (L + 2) + k * C ≤ 3 * C) ∧ Dr g 121 w wq ∧ Blk wq w.heap.size 28 #[.int .i64 P, .slice A n c]) (fun _ jv _ => (intOf jv).toNat)
      case atStart => exact ⟨m5, t1, HM5.out, rfl, rfl, Lib.hid (by have h1 := HM5.out; have h2 := Nat.mul_le_mul_right (L + 2) h1; have h3 := HT1.out; have h4 := HC.out; omega), hd05, kb5⟩
      case round =>
        obtain ⟨j, s, hj, rfl, rfl, hsl, hd6, kb6⟩ := hrel
        clear hd05 kb5 HM5 HT1 HT1L
        by_cases hj0 : j = 0
        · subst hj0
          have HE : Hid (s.length + k * C ≤ 3 * C) := Lib.hid (by have := hsl.out; omega)
          clear hsl
          go_wp2
          go_roundw
          case rel => exact ⟨k, s, by omega, by go_num, rfl, HE, hd6, kb6⟩
          case measure => simp [intOf]
        obtain ⟨j, rfl⟩ : ∃ x, j = x + 1 := ⟨j - 1, by omega⟩
        have E1 : decide ((0 : Int) < (j : Int) + 1) = true := decide_eq_true (by omega)
        have E2 : decide ((0 : Int) < ((j + 1 : Nat) : Int)) = true := decide_eq_true (by omega)
        have W7 : (j : Int) + 1 - 1 = j := by omega
        have W8 : wrap64 (j : Int) = j := by unfold wrap64; omega
        have HS : Hid (s.length + j * (L + 2) + (L + 2) + k * C ≤ 3 * C) := Lib.hid (by have := hsl.out; rw [Nat.succ_mul] at this; omega)
        have HSL : Hid (s.length + L + 2 ≤ 1000000) := Lib.hid (by have := HS.out; have := HCL.out; omega)
        clear hsl
        obtain ⟨q0, q1⟩ := kb6.two
        have hnx := next_any g 8 _ hd6.s' (by omega)
        have HK6 := Lib.hid kb6
        have HD6 := Lib.hid hd6
        clear hd6 kb6
        go_wp2_with fail
        refine hnx.mono ?_
        rintro e w7 ⟨r7, rfl, h70, h71, hd7⟩
        have hs7 := hd7.s'
        have HK7 := Lib.hid (HK6.out.dr hd7 (by decide))
        have HD7 := Lib.hid (HD6.out.trans hd7)
        clear hnx hd7 h71 HK6 HD6 q0 q1
        obtain ⟨q0, q1⟩ := HK7.out.two
        by_cases e0 : r7 = 0
        · subst e0
          have hct := fun wx => cat_big (P := Tryz.prog) wx s [45] (by have := HSL.out; simp only [List.length_cons, List.length_nil]; omega)
          have HU : Hid ((s ++ [45]).length ≤ s.length + 1) := Lib.hid (by simp)
          generalize s ++ [45] = u at *
          have hat := HREC.out g P A c w7 hs7
          clear hs7
          go_wp2_with fail
          refine hat.mono ?_
          rintro e w8 ⟨v, rfl, hv, hd8⟩
          have HK8 := Lib.hid (HK7.out.dr hd8 (by decide))
          have hs8 := hd8.s'
          have HD8 := Lib.hid (HD7.out.trans hd8)
          have hc2 := fun wx => cat_big (P := Tryz.prog) wx u v (by have := HSL.out; have := HU.out; omega)
          have HUV : Hid ((u ++ v).length ≤ s.length + 1 + L) := Lib.hid (by have := HU.out; rw [List.length_append]; omega)
          generalize u ++ v = x at *
          clear hct hat hd8 hv HK7 HD7 q0 q1
          obtain ⟨q0, q1⟩ := HK8.out.two
          by_cases hj1 : j = 0
          · subst hj1
            clear hs8
            go_wp2
            go_roundw
            case rel => exact ⟨0, x, by omega, by go_num, rfl, Lib.hid (by have := HUV.out; have := HS.out; omega), HD8.out, HK8.out⟩
            case measure => simp [intOf]
          · have E3 : decide ((1 : Int) < (j : Int) + 1) = true := decide_eq_true (by omega)
            have E4 : decide ((1 : Int) < ((j + 1 : Nat) : Int)) = true := decide_eq_true (by omega)
            have hpk := pick_text g mulSL w8 w8 (by decide) (by decide) hs8
            clear hs8
            go_wp2_with fail
            refine hpk.mono ?_
            rintro e w9 ⟨r9, hr9, rfl, hcell9, hd9⟩
            have hcl := mulSL_len mulSL[r9] (List.getElem_mem hr9)
            have hrr : r9 < 4 := hr9
            generalize mulSL[r9] = z9 at hcell9 hcl
            have hc3 := fun wx => cat_big (P := Tryz.prog) wx x z9 (by have := HSL.out; have := HUV.out; omega)
            have HX9 : Hid ((x ++ z9).length ≤ s.length + 2 + L) := Lib.hid (by have := HUV.out; rw [List.length_append]; omega)
            generalize x ++ z9 = x9 at *
            have HK9 := Lib.hid (HK8.out.dr hd9 (by decide))
            have HD9 := Lib.hid (HD8.out.trans hd9)
            have i3 : (0 : Int) ≤ (r9 : Int) := by omega
            have i4 : (r9 : Int) < 4 := by omega
            clear hpk hd9 hcl hr9 hrr HD8 HK8 q0 q1 hc2
            go_wp2
            go_roundw
            case rel => exact ⟨j, x9, by omega, by go_num, rfl, Lib.hid (by have := HX9.out; have := HS.out; omega), HD9.out, HK9.out⟩
            case measure => simp [intOf]
        have f0 : (r7 == 0) = false := by simpa using e0
        by_cases e1 : r7 = 1
        · subst e1
          have hct := fun wx => cat_big (P := Tryz.prog) wx s [126] (by have := HSL.out; simp only [List.length_cons, List.length_nil]; omega)
          have HU : Hid ((s ++ [126]).length ≤ s.length + 1) := Lib.hid (by simp)
          generalize s ++ [126] = u at *
          have hat := HREC.out g P A c w7 hs7
          clear hs7
          go_wp2_with fail
          refine hat.mono ?_
          rintro e w8 ⟨v, rfl, hv, hd8⟩
          have HK8 := Lib.hid (HK7.out.dr hd8 (by decide))
          have hs8 := hd8.s'
          have HD8 := Lib.hid (HD7.out.trans hd8)
          have hc2 := fun wx => cat_big (P := Tryz.prog) wx u v (by have := HSL.out; have := HU.out; omega)
          have HUV : Hid ((u ++ v).length ≤ s.length + 1 + L) := Lib.hid (by have := HU.out; rw [List.length_append]; omega)
          generalize u ++ v = x at *
          clear hct hat hd8 hv HK7 HD7 q0 q1
          obtain ⟨q0, q1⟩ := HK8.out.two
          by_cases hj1 : j = 0
          · subst hj1
            clear hs8
            go_wp2
            go_roundw
            case rel => exact ⟨0, x, by omega, by go_num, rfl, Lib.hid (by have := HUV.out; have := HS.out; omega), HD8.out, HK8.out⟩
            case measure => simp [intOf]
          · have E3 : decide ((1 : Int) < (j : Int) + 1) = true := decide_eq_true (by omega)
            have E4 : decide ((1 : Int) < ((j + 1 : Nat) : Int)) = true := decide_eq_true (by omega)
            have hpk := pick_text g mulSL w8 w8 (by decide) (by decide) hs8
            clear hs8
            go_wp2_with fail
            refine hpk.mono ?_
            rintro e w9 ⟨r9, hr9, rfl, hcell9, hd9⟩
            have hcl := mulSL_len mulSL[r9] (List.getElem_mem hr9)
            have hrr : r9 < 4 := hr9
            generalize mulSL[r9] = z9 at hcell9 hcl
            have hc3 := fun wx => cat_big (P := Tryz.prog) wx x z9 (by have := HSL.out; have := HUV.out; omega)
            have HX9 : Hid ((x ++ z9).length ≤ s.length + 2 + L) := Lib.hid (by have := HUV.out; rw [List.length_append]; omega)
            generalize x ++ z9 = x9 at *
            have HK9 := Lib.hid (HK8.out.dr hd9 (by decide))
            have HD9 := Lib.hid (HD8.out.trans hd9)
            have i3 : (0 : Int) ≤ (r9 : Int) := by omega
            have i4 : (r9 : Int) < 4 := by omega
            clear hpk hd9 hcl hr9 hrr HD8 HK8 q0 q1 hc2
            go_wp2
            go_roundw
            case rel => exact ⟨j, x9, by omega, by go_num, rfl, Lib.hid (by have := HX9.out; have := HS.out; omega), HD9.out, HK9.out⟩
            case measure => simp [intOf]
        have f1 : (r7 == 1) = false := by simpa using e1
        have HU : Hid (s.length ≤ s.length + 1) := Lib.hid (by omega)
        have hat := HREC.out g P A c w7 hs7
        clear hs7
        go_wp2_with fail
        refine hat.mono ?_
        rintro e w8 ⟨v, rfl, hv, hd8⟩
        have HK8 := Lib.hid (HK7.out.dr hd8 (by decide))
        have hs8 := hd8.s'
        have HD8 := Lib.hid (HD7.out.trans hd8)
        have hc2 := fun wx => cat_big (P := Tryz.prog) wx s v (by have := HSL.out; have := HU.out; omega)
        have HUV : Hid ((s ++ v).length ≤ s.length + 1 + L) := Lib.hid (by have := HU.out; rw [List.length_append]; omega)
        generalize s ++ v = x at *
        clear hat hd8 hv HK7 HD7 q0 q1
        obtain ⟨q0, q1⟩ := HK8.out.two
        by_cases hj1 : j = 0
        · subst hj1
          clear hs8
          go_wp2
          go_roundw
          case rel => exact ⟨0, x, by omega, by go_num, rfl, Lib.hid (by have := HUV.out; have := HS.out; omega), HD8.out, HK8.out⟩
          case measure => simp [intOf]
        · have E3 : decide ((1 : Int) < (j : Int) + 1) = true := decide_eq_true (by omega)
          have E4 : decide ((1 : Int) < ((j + 1 : Nat) : Int)) = true := decide_eq_true (by omega)
          have hpk := pick_text g mulSL w8 w8 (by decide) (by decide) hs8
          clear hs8
          go_wp2_with fail
          refine hpk.mono ?_
          rintro e w9 ⟨r9, hr9, rfl, hcell9, hd9⟩
          have hcl := mulSL_len mulSL[r9] (List.getElem_mem hr9)
          have hrr : r9 < 4 := hr9
          generalize mulSL[r9] = z9 at hcell9 hcl
          have hc3 := fun wx => cat_big (P := Tryz.prog) wx x z9 (by have := HSL.out; have := HUV.out; omega)
          have HX9 : Hid ((x ++ z9).length ≤ s.length + 2 + L) := Lib.hid (by have := HUV.out; rw [List.length_append]; omega)
          generalize x ++ z9 = x9 at *
          have HK9 := Lib.hid (HK8.out.dr hd9 (by decide))
          have HD9 := Lib.hid (HD8.out.trans hd9)
          have i3 : (0 : Int) ≤ (r9 : Int) := by omega
          have i4 : (r9 : Int) < 4 := by omega
          clear hpk hd9 hcl hr9 hrr HD8 HK8 q0 q1 hc2
          go_wp2
          go_roundw
          case rel => exact ⟨j, x9, by omega, by go_num, rfl, Lib.hid (by have := HX9.out; have := HS.out; omega), HD9.out, HK9.out⟩
          case measure => simp [intOf]
    · clear hneq
      have HT1 : Hid (t.length + k * C + C ≤ 3 * C + 1) := Lib.hid (by have := HT.out; omega)
      have HT1L : Hid (t.length ≤ 2000000) := Lib.hid (by have := HTL.out; omega)

      have hnx := next_any g 3 wr hd2s (by omega)
      clear hd2s
      go_wp2_with fail
      refine hnx.mono ?_
      rintro e w5 ⟨r5, rfl, h50, h51, hd5⟩
      obtain ⟨r5, rfl⟩ : ∃ x : Nat, r5 = x := ⟨r5.toNat, by omega⟩
      have h52 := h51 (by omega)
      have W5 : wrap64 (1 + (r5 : Int)) = ((r5 + 1 : Nat) : Int) := by unfold wrap64; omega
      have W6 : IntKind.i64.wrap (1 + (r5 : Int)) = ((r5 + 1 : Nat) : Int) := by rw [IntWalk.i64_left]; exact W5
      have kb5 := HK2.out.dr hd5 (by decide)
      have hd05 := HD2.out.trans hd5
      obtain ⟨m5, hm5⟩ : ∃ x, x = r5 + 1 := ⟨_, rfl⟩
      rw [← hm5] at W5 W6
      have HM5 : Hid (m5 ≤ 3) := Lib.hid (by omega)
      clear hnx hd5 h51 h52 hm5 HK2 HD2 q0 q1 hemp D1 D2
      go_wp2
      clear W5 W6
      go_loopw [7, 9] (fun tv jv wq => ∃ (j : Nat) (s : By), j ≤ 3 ∧ jv = .int .i64 (j : Int) ∧ tv = .string ⟨s.toArray⟩ ∧ Hid (s.length + j * (L + 2) + k * C ≤ 3 * C) ∧ Dr g 121 w wq ∧ Blk wq w.heap.size 28 #[.int .i64 P, .slice A n c]) (fun _ jv _ => (intOf jv).toNat)
      case atStart => exact ⟨m5, t, HM5.out, rfl, rfl, Lib.hid (by have h1 := HM5.out; have h2 := Nat.mul_le_mul_right (L + 2) h1; have h3 := HT1.out; have h4 := HC.out; omega), hd05, kb5⟩
      case round =>
        obtain ⟨j, s, hj, rfl, rfl, hsl, hd6, kb6⟩ := hrel
        clear hd05 kb5 HM5 HT1 HT1L
        by_cases hj0 : j = 0
        · subst hj0
          have HE : Hid (s.length + k * C ≤ 3 * C) := Lib.hid (by have := hsl.out; omega)
          clear hsl
          go_wp2
          go_roundw
          case rel => exact ⟨k, s, by omega, by go_num, rfl, HE, hd6, kb6⟩
          case measure => simp [intOf]
        obtain ⟨j, rfl⟩ : ∃ x, j = x + 1 := ⟨j - 1, by omega⟩
        have E1 : decide ((0 : Int) < (j : Int) + 1) = true := decide_eq_true (by omega)
        have E2 : decide ((0 : Int) < ((j + 1 : Nat) : Int)) = true := decide_eq_true (by omega)
        have W7 : (j : Int) + 1 - 1 = j := by omega
        have W8 : wrap64 (j : Int) = j := by unfold wrap64; omega
        have HS : Hid (s.length + j * (L + 2) + (L + 2) + k * C ≤ 3 * C) := Lib.hid (by have := hsl.out; rw [Nat.succ_mul] at this; omega)
        have HSL : Hid (s.length + L + 2 ≤ 1000000) := Lib.hid (by have := HS.out; have := HCL.out; omega)
        clear hsl
        obtain ⟨q0, q1⟩ := kb6.two
        have hnx := next_any g 8 _ hd6.s' (by omega)
        have HK6 := Lib.hid kb6
        have HD6 := Lib.hid hd6
        clear hd6 kb6
        go_wp2_with fail
        refine hnx.mono ?_
        rintro e w7 ⟨r7, rfl, h70, h71, hd7⟩
        have hs7 := hd7.s'
        have HK7 := Lib.hid (HK6.out.dr hd7 (by decide))
        have HD7 := Lib.hid (HD6.out.trans hd7)
        clear hnx hd7 h71 HK6 HD6 q0 q1
        obtain ⟨q0, q1⟩ := HK7.out.two
        by_cases e0 : r7 = 0
        · subst e0
          have hct := fun wx => cat_big (P := Tryz.prog) wx s [45] (by have := HSL.out; simp only [List.length_cons, List.length_nil]; omega)
          have HU : Hid ((s ++ [45]).length ≤ s.length + 1) := Lib.hid (by simp)
          generalize s ++ [45] = u at *
          have hat := HREC.out g P A c w7 hs7
          clear hs7
          go_wp2_with fail
          refine hat.mono ?_
          rintro e w8 ⟨v, rfl, hv, hd8⟩
          have HK8 := Lib.hid (HK7.out.dr hd8 (by decide))
          have hs8 := hd8.s'
          have HD8 := Lib.hid (HD7.out.trans hd8)
          have hc2 := fun wx => cat_big (P := Tryz.prog) wx u v (by have := HSL.out; have := HU.out; omega)
          have HUV : Hid ((u ++ v).length ≤ s.length + 1 + L) := Lib.hid (by have := HU.out; rw [List.length_append]; omega)
          generalize u ++ v = x at *
          clear hct hat hd8 hv HK7 HD7 q0 q1
          obtain ⟨q0, q1⟩ := HK8.out.two
          by_cases hj1 : j = 0
          · subst hj1
            clear hs8
            go_wp2
            go_roundw
            case rel => exact ⟨0, x, by omega, by go_num, rfl, Lib.hid (by have := HUV.out; have := HS.out; omega), HD8.out, HK8.out⟩
            case measure => simp [intOf]
          · have E3 : decide ((1 : Int) < (j : Int) + 1) = true := decide_eq_true (by omega)
            have E4 : decide ((1 : Int) < ((j + 1 : Nat) : Int)) = true := decide_eq_true (by omega)
            have hpk := pick_text g mulSL w8 w8 (by decide) (by decide) hs8
            clear hs8
            go_wp2_with fail
            refine hpk.mono ?_
            rintro e w9 ⟨r9, hr9, rfl, hcell9, hd9⟩
            have hcl := mulSL_len mulSL[r9] (List.getElem_mem hr9)
            have hrr : r9 < 4 := hr9
            generalize mulSL[r9] = z9 at hcell9 hcl
            have hc3 := fun wx => cat_big (P := Tryz.prog) wx x z9 (by have := HSL.out; have := HUV.out; omega)
            have HX9 : Hid ((x ++ z9).length ≤ s.length + 2 + L) := Lib.hid (by have := HUV.out; rw [List.length_append]; omega)
            generalize x ++ z9 = x9 at *
            have HK9 := Lib.hid (HK8.out.dr hd9 (by decide))
            have HD9 := Lib.hid (HD8.out.trans hd9)
            have i3 : (0 : Int) ≤ (r9 : Int) := by omega
            have i4 : (r9 : Int) < 4 := by omega
            clear hpk hd9 hcl hr9 hrr HD8 HK8 q0 q1 hc2
            go_wp2
            go_roundw
            case rel => exact ⟨j, x9, by omega, by go_num, rfl, Lib.hid (by have := HX9.out; have := HS.out; omega), HD9.out, HK9.out⟩
            case measure => simp [intOf]
        have f0 : (r7 == 0) = false := by simpa using e0
        by_cases e1 : r7 = 1
        · subst e1
          have hct := fun wx => cat_big (P := Tryz.prog) wx s [126] (by have := HSL.out; simp only [List.length_cons, List.length_nil]; omega)
          have HU : Hid ((s ++ [126]).length ≤ s.length + 1) := Lib.hid (by simp)
          generalize s ++ [126] = u at *
          have hat := HREC.out g P A c w7 hs7
          clear hs7
          go_wp2_with fail
          refine hat.mono ?_
          rintro e w8 ⟨v, rfl, hv, hd8⟩
          have HK8 := Lib.hid (HK7.out.dr hd8 (by decide))
          have hs8 := hd8.s'
          have HD8 := Lib.hid (HD7.out.trans hd8)
          have hc2 := fun wx => cat_big (P := Tryz.prog) wx u v (by have := HSL.out; have := HU.out; omega)
          have HUV : Hid ((u ++ v).length ≤ s.length + 1 + L) := Lib.hid (by have := HU.out; rw [List.length_append]; omega)
          generalize u ++ v = x at *
          clear hct hat hd8 hv HK7 HD7 q0 q1
          obtain ⟨q0, q1⟩ := HK8.out.two
          by_cases hj1 : j = 0
          · subst hj1
            clear hs8
            go_wp2
            go_roundw
            case rel => exact ⟨0, x, by omega, by go_num, rfl, Lib.hid (by have := HUV.out; have := HS.out; omega), HD8.out, HK8.out⟩
            case measure => simp [intOf]
          · have E3 : decide ((1 : Int) < (j : Int) + 1) = true := decide_eq_true (by omega)
            have E4 : decide ((1 : Int) < ((j + 1 : Nat) : Int)) = true := decide_eq_true (by omega)
            have hpk := pick_text g mulSL w8 w8 (by decide) (by decide) hs8
            clear hs8
            go_wp2_with fail
            refine hpk.mono ?_
            rintro e w9 ⟨r9, hr9, rfl, hcell9, hd9⟩
            have hcl := mulSL_len mulSL[r9] (List.getElem_mem hr9)
            have hrr : r9 < 4 := hr9
            generalize mulSL[r9] = z9 at hcell9 hcl
            have hc3 := fun wx => cat_big (P := Tryz.prog) wx x z9 (by have := HSL.out; have := HUV.out; omega)
            have HX9 : Hid ((x ++ z9).length ≤ s.length + 2 + L) := Lib.hid (by have := HUV.out; rw [List.length_append]; omega)
            generalize x ++ z9 = x9 at *
            have HK9 := Lib.hid (HK8.out.dr hd9 (by decide))
            have HD9 := Lib.hid (HD8.out.trans hd9)
            have i3 : (0 : Int) ≤ (r9 : Int) := by omega
            have i4 : (r9 : Int) < 4 := by omega
            clear hpk hd9 hcl hr9 hrr HD8 HK8 q0 q1 hc2
            go_wp2
            go_roundw
            case rel => exact ⟨j, x9, by omega, by go_num, rfl, Lib.hid (by have := HX9.out; have := HS.out; omega), HD9.out, HK9.out⟩
            case measure => simp [intOf]
        have f1 : (r7 == 1) = false := by simpa using e1
        have HU : Hid (s.length ≤ s.length + 1) := Lib.hid (by omega)
        have hat := HREC.out g P A c w7 hs7
        clear hs7
        go_wp2_with fail
        refine hat.mono ?_
        rintro e w8 ⟨v, rfl, hv, hd8⟩
        have HK8 := Lib.hid (HK7.out.dr hd8 (by decide))
        have hs8 := hd8.s'
        have HD8 := Lib.hid (HD7.out.trans hd8)
        have hc2 := fun wx => cat_big (P := Tryz.prog) wx s v (by have := HSL.out; have := HU.out; omega)
        have HUV : Hid ((s ++ v).length ≤ s.length + 1 + L) := Lib.hid (by have := HU.out; rw [List.length_append]; omega)
        generalize s ++ v = x at *
        clear hat hd8 hv HK7 HD7 q0 q1
        obtain ⟨q0, q1⟩ := HK8.out.two
        by_cases hj1 : j = 0
        · subst hj1
          clear hs8
          go_wp2
          go_roundw
          case rel => exact ⟨0, x, by omega, by go_num, rfl, Lib.hid (by have := HUV.out; have := HS.out; omega), HD8.out, HK8.out⟩
          case measure => simp [intOf]
        · have E3 : decide ((1 : Int) < (j : Int) + 1) = true := decide_eq_true (by omega)
          have E4 : decide ((1 : Int) < ((j + 1 : Nat) : Int)) = true := decide_eq_true (by omega)
          have hpk := pick_text g mulSL w8 w8 (by decide) (by decide) hs8
          clear hs8
          go_wp2_with fail
          refine hpk.mono ?_
          rintro e w9 ⟨r9, hr9, rfl, hcell9, hd9⟩
          have hcl := mulSL_len mulSL[r9] (List.getElem_mem hr9)
          have hrr : r9 < 4 := hr9
          generalize mulSL[r9] = z9 at hcell9 hcl
          have hc3 := fun wx => cat_big (P := Tryz.prog) wx x z9 (by have := HSL.out; have := HUV.out; omega)
          have HX9 : Hid ((x ++ z9).length ≤ s.length + 2 + L) := Lib.hid (by have := HUV.out; rw [List.length_append]; omega)
          generalize x ++ z9 = x9 at *
          have HK9 := Lib.hid (HK8.out.dr hd9 (by decide))
          have HD9 := Lib.hid (HD8.out.trans hd9)
          have i3 : (0 : Int) ≤ (r9 : Int) := by omega
          have i4 : (r9 : Int) < 4 := by omega
          clear hpk hd9 hcl hr9 hrr HD8 HK8 q0 q1 hc2
          go_wp2
          go_roundw
          case rel => exact ⟨j, x9, by omega, by go_num, rfl, Lib.hid (by have := HX9.out; have := HS.out; omega), HD9.out, HK9.out⟩
          case measure => simp [intOf]
end Go.Proofs.YticofgmmjecleaaGreatDoor
namespace Go.Proofs.YticofgmmjecleaaGreatDoor
open Go.RowKit
/-- A world of the first B blocks. -/
def cutW (w : World) (B : Nat) : World := { w with heap := w.heap.extract 0 B }
theorem cutW_size {w : World} {B : Nat} (h : B ≤ w.heap.size) : (cutW w B).heap.size = B := by simp [cutW]; omega
theorem cutW_below {w : World} {B : Nat} (h : B ≤ w.heap.size) : Below (cutW w B).heap.size (cutW w B) w := by
  refine ⟨rfl, rfl, rfl, by rw [cutW_size h]; exact h, fun k hk => ?_⟩
  rw [cutW_size h] at hk
  simp [cutW, Array.getElem?_extract, hk]
  intro h2
  omega
theorem Own.mk_ {w : World} {E : TypeId} {B : Nat} {A : Option Addr} {n c : Nat} {us : List Value} (h : Own w B E A n c us) (hB : B ≤ w.heap.size) : Mk (cutW w B) w E A n c us := ⟨cutW_below hB, by rw [cutW_size hB]; exact h⟩
theorem Mk.own_ {w0 w : World} {E : TypeId} {B : Nat} {A : Option Addr} {n c : Nat} {us : List Value} (h : Mk w0 w E A n c us) (hB : w0.heap.size = B) : Own w B E A n c us := by rw [← hB]; exact h.2
set_option maxHeartbeats 1600000 in
set_option maxRecDepth 8000 in
theorem from__any (B : Option Addr) (nb cb : Nat) (bs : List Int) (w : World) (hnb : nb ≤ 4096) (r : Rd w B nb (bs.map (Value.int .u8))) (hbs : ∀ b ∈ bs, 0 ≤ b ∧ b < 256) (hbg : ∀ a, B = some a → a.block < w.heap.size) :
    Calls Tryz.prog 69 #[.slice B nb cb] w fun e w' => ∃ g, e = .returned (.pointer (some ⟨g, 0, none⟩)) ∧ w.heap.size ≤ g ∧ Src w' g 121 ∧ Below w.heap.size w w' := by
  have W0 : wrap64 (nb : Int) = nb := by unfold wrap64; omega
  go_enter Tryz.func69, Tryz.ntmps69
  go_wp2
  go_loopw [4] (fun i wr => ∃ (j : Nat) (h : Int), j ≤ nb ∧ i = .int .i64 j ∧ Blk wr w.heap.size 121 #[.slice B nb cb, .int .i64 0, .int .u64 h] ∧ Below w.heap.size w wr) (fun i _ => nb - (intOf i).toNat)
  case atStart => exact ⟨0, _, by omega, rfl, Blk.new _ _ _, (Below.refl _ _).alloc (Nat.le_refl _) _⟩
  case round =>
    obtain ⟨j, h, hj, rfl, k1, hb1⟩ := hrel
    by_cases hlt : j < nb
    · have d1 : decide ((j : Int) < (nb : Int)) = true := by simp; omega
      have d2 : decide ((j : Int) < 4096) = true := by simp; omega
      obtain ⟨gb, ob, rfl, hc⟩ := (r.below hb1).2 (by omega)
      have hbl : j < bs.length := by have := r.1; rw [List.length_map] at this; omega
      have hcb := hc j (.int .u8 bs[j]) (by simp [hbl])
      obtain ⟨b1, b2⟩ := hbs _ (List.getElem_mem hbl)
      obtain ⟨bb, hbb⟩ : ∃ x, x = bs[j] := ⟨_, rfl⟩
      rw [← hbb] at hcb b1 b2
      have i1 : (0 : Int) ≤ (j : Int) := by omega
      have i2 : (j : Int) < (nb : Int) := by omega
      have W2 : IntKind.u64.wrap bb = bb := IntWalk.u64_in _ ⟨b1, by omega⟩
      clear hc hbb
      go_wp2
      refine wp_obs 15 [[], [], [1], [1, 2], [1, 2, 3], [1, 2, 3, 4], [], [], [6, 7], [6, 7, 8], [6, 7, 8, 9], [1, 2, 3, 4, 5, 6, 7, 8, 9, 10], [1, 2, 3, 4, 5, 6, 7, 8, 9, 10, 11], [0], [0, 13], [0, 1, 2, 3, 4, 5, 6, 7, 8, 9, 10, 11, 12, 13, 14]] [VIs (.pointer (some ⟨w.heap.size, 0, none⟩)), VIs (.pointer (some ⟨w.heap.size, 0, none⟩)), VIs (.pointer (some ⟨w.heap.size, 0, none⟩)), VIs (.pointer (some ⟨w.heap.size, 2, none⟩)), VIs (.int .u64 (h)), VIs (.int .u64 (IntKind.u64.wrap (h * 1099511628211))), VIs (.slice (some ⟨gb, ob, none⟩) nb cb), VIs (.int .i64 (j)), VIs (.pointer (some ⟨gb, ob + j, none⟩)), VIs (.int .u8 bb), VIs (.int .u64 (bb)), VIs (.int .u64 (IntKind.u64.wrap (IntKind.u64.wrap (h * 1099511628211) + bb))), VIs (.int .u64 (IntKind.u64.wrap (IntKind.u64.wrap (IntKind.u64.wrap (h * 1099511628211) + bb) + 11))), VIs (.pointer (some ⟨w.heap.size, 0, none⟩)), VIs (.pointer (some ⟨w.heap.size, 2, none⟩))] (fun w' => Blk w' w.heap.size 121 #[.slice (some ⟨gb, ob, none⟩) nb cb, .int .i64 0, .int .u64 h] ∧ w'.cell? ⟨gb, ob + j, none⟩ = some (.int .u8 bb) ∧ Below wr.heap.size wr w') (by kernel_rfl) (by kernel_rfl) (fun _ _ h hb => ⟨h.1.below hb h.1.lt, (hb.cell (World.block_lt_of_cell? _ _ h.2.1)).trans h.2.1, h.2.2.trans (hb.mono h.2.2.size)⟩) (⟨k1.drew, hcb, (Below.refl _ _).drew⟩) (fun x => ?_)
      refine obs_step (Eq.trans (by simp only [List.getElem?_toArray, List.getElem?_cons_zero]; exact rfl) rfl) rfl (fun w' hS hV K hK => ?_) ?_
      · obtain ⟨q0, q1, q2⟩ := hS.1.three; have qb := hS.2.1
        go_simp
        exact hK.out _ _ _ rfl rfl rfl (Below.refl _ _)
      simp only [List.setIfInBounds_toArray, List.set_cons_zero, List.set_cons_succ]
      refine obs_step (Eq.trans (by simp only [List.getElem?_toArray, List.getElem?_cons_succ, List.getElem?_cons_zero]; exact rfl) rfl) rfl (fun w' hS hV K hK => ?_) ?_
      · obtain ⟨q0, q1, q2⟩ := hS.1.three; have qb := hS.2.1
        go_simp
        exact hK.out _ _ _ rfl rfl rfl (Below.refl _ _)
      simp only [List.setIfInBounds_toArray, List.set_cons_zero, List.set_cons_succ]
      refine obs_step (Eq.trans (by simp only [List.getElem?_toArray, List.getElem?_cons_succ, List.getElem?_cons_zero]; exact rfl) rfl) rfl (fun w' hS hV K hK => ?_) ?_
      · have e1 : x 1 = (.pointer (some ⟨w.heap.size, 0, none⟩)) := hV 1 (by decide)
        obtain ⟨q0, q1, q2⟩ := hS.1.three; have qb := hS.2.1
        go_simp
        exact hK.out _ _ _ rfl rfl rfl (Below.refl _ _)
      simp only [List.setIfInBounds_toArray, List.set_cons_zero, List.set_cons_succ]
      refine obs_step (Eq.trans (by simp only [List.getElem?_toArray, List.getElem?_cons_succ, List.getElem?_cons_zero]; exact rfl) rfl) rfl (fun w' hS hV K hK => ?_) ?_
      · have e1 : x 1 = (.pointer (some ⟨w.heap.size, 0, none⟩)) := hV 1 (by decide)
        have e2 : x 2 = (.pointer (some ⟨w.heap.size, 0, none⟩)) := hV 2 (by decide)
        obtain ⟨q0, q1, q2⟩ := hS.1.three; have qb := hS.2.1
        go_simp
        exact hK.out _ _ _ rfl rfl rfl (Below.refl _ _)
      simp only [List.setIfInBounds_toArray, List.set_cons_zero, List.set_cons_succ]
      refine obs_step (Eq.trans (by simp only [List.getElem?_toArray, List.getElem?_cons_succ, List.getElem?_cons_zero]; exact rfl) rfl) rfl (fun w' hS hV K hK => ?_) ?_
      · have e1 : x 1 = (.pointer (some ⟨w.heap.size, 0, none⟩)) := hV 1 (by decide)
        have e2 : x 2 = (.pointer (some ⟨w.heap.size, 0, none⟩)) := hV 2 (by decide)
        have e3 : x 3 = (.pointer (some ⟨w.heap.size, 2, none⟩)) := hV 3 (by decide)
        obtain ⟨q0, q1, q2⟩ := hS.1.three; have qb := hS.2.1
        go_simp
        exact hK.out _ _ _ rfl rfl rfl (Below.refl _ _)
      simp only [List.setIfInBounds_toArray, List.set_cons_zero, List.set_cons_succ]
      refine obs_step (Eq.trans (by simp only [List.getElem?_toArray, List.getElem?_cons_succ, List.getElem?_cons_zero]; exact rfl) rfl) rfl (fun w' hS hV K hK => ?_) ?_
      · have e1 : x 1 = (.pointer (some ⟨w.heap.size, 0, none⟩)) := hV 1 (by decide)
        have e2 : x 2 = (.pointer (some ⟨w.heap.size, 0, none⟩)) := hV 2 (by decide)
        have e3 : x 3 = (.pointer (some ⟨w.heap.size, 2, none⟩)) := hV 3 (by decide)
        have e4 : x 4 = (.int .u64 (h)) := hV 4 (by decide)
        obtain ⟨q0, q1, q2⟩ := hS.1.three; have qb := hS.2.1
        go_simp
        exact hK.out _ _ _ rfl rfl rfl (Below.refl _ _)
      simp only [List.setIfInBounds_toArray, List.set_cons_zero, List.set_cons_succ]
      refine obs_step (Eq.trans (by simp only [List.getElem?_toArray, List.getElem?_cons_succ, List.getElem?_cons_zero]; exact rfl) rfl) rfl (fun w' hS hV K hK => ?_) ?_
      · obtain ⟨q0, q1, q2⟩ := hS.1.three; have qb := hS.2.1
        go_simp
        exact hK.out _ _ _ rfl rfl rfl (Below.refl _ _)
      simp only [List.setIfInBounds_toArray, List.set_cons_zero, List.set_cons_succ]
      refine obs_step (Eq.trans (by simp only [List.getElem?_toArray, List.getElem?_cons_succ, List.getElem?_cons_zero]; exact rfl) rfl) rfl (fun w' hS hV K hK => ?_) ?_
      · obtain ⟨q0, q1, q2⟩ := hS.1.three; have qb := hS.2.1
        go_simp
        exact hK.out _ _ _ rfl rfl rfl (Below.refl _ _)
      simp only [List.setIfInBounds_toArray, List.set_cons_zero, List.set_cons_succ]
      refine obs_step (Eq.trans (by simp only [List.getElem?_toArray, List.getElem?_cons_succ, List.getElem?_cons_zero]; exact rfl) rfl) rfl (fun w' hS hV K hK => ?_) ?_
      · have e6 : x 6 = (.slice (some ⟨gb, ob, none⟩) nb cb) := hV 6 (by decide)
        have e7 : x 7 = (.int .i64 (j)) := hV 7 (by decide)
        obtain ⟨q0, q1, q2⟩ := hS.1.three; have qb := hS.2.1
        go_simp
        exact hK.out _ _ _ rfl rfl rfl (Below.refl _ _)
      simp only [List.setIfInBounds_toArray, List.set_cons_zero, List.set_cons_succ]
      refine obs_step (Eq.trans (by simp only [List.getElem?_toArray, List.getElem?_cons_succ, List.getElem?_cons_zero]; exact rfl) rfl) rfl (fun w' hS hV K hK => ?_) ?_
      · have e6 : x 6 = (.slice (some ⟨gb, ob, none⟩) nb cb) := hV 6 (by decide)
        have e7 : x 7 = (.int .i64 (j)) := hV 7 (by decide)
        have e8 : x 8 = (.pointer (some ⟨gb, ob + j, none⟩)) := hV 8 (by decide)
        obtain ⟨q0, q1, q2⟩ := hS.1.three; have qb := hS.2.1
        go_simp
        exact hK.out _ _ _ rfl rfl rfl (Below.refl _ _)
      simp only [List.setIfInBounds_toArray, List.set_cons_zero, List.set_cons_succ]
      refine obs_step (Eq.trans (by simp only [List.getElem?_toArray, List.getElem?_cons_succ, List.getElem?_cons_zero]; exact rfl) rfl) rfl (fun w' hS hV K hK => ?_) ?_
      · have e6 : x 6 = (.slice (some ⟨gb, ob, none⟩) nb cb) := hV 6 (by decide)
        have e7 : x 7 = (.int .i64 (j)) := hV 7 (by decide)
        have e8 : x 8 = (.pointer (some ⟨gb, ob + j, none⟩)) := hV 8 (by decide)
        have e9 : x 9 = (.int .u8 bb) := hV 9 (by decide)
        obtain ⟨q0, q1, q2⟩ := hS.1.three; have qb := hS.2.1
        go_simp
        exact hK.out _ _ _ rfl rfl rfl (Below.refl _ _)
      simp only [List.setIfInBounds_toArray, List.set_cons_zero, List.set_cons_succ]
      refine obs_step (Eq.trans (by simp only [List.getElem?_toArray, List.getElem?_cons_succ, List.getElem?_cons_zero]; exact rfl) rfl) rfl (fun w' hS hV K hK => ?_) ?_
      · have e1 : x 1 = (.pointer (some ⟨w.heap.size, 0, none⟩)) := hV 1 (by decide)
        have e2 : x 2 = (.pointer (some ⟨w.heap.size, 0, none⟩)) := hV 2 (by decide)
        have e3 : x 3 = (.pointer (some ⟨w.heap.size, 2, none⟩)) := hV 3 (by decide)
        have e4 : x 4 = (.int .u64 (h)) := hV 4 (by decide)
        have e5 : x 5 = (.int .u64 (IntKind.u64.wrap (h * 1099511628211))) := hV 5 (by decide)
        have e6 : x 6 = (.slice (some ⟨gb, ob, none⟩) nb cb) := hV 6 (by decide)
        have e7 : x 7 = (.int .i64 (j)) := hV 7 (by decide)
        have e8 : x 8 = (.pointer (some ⟨gb, ob + j, none⟩)) := hV 8 (by decide)
        have e9 : x 9 = (.int .u8 bb) := hV 9 (by decide)
        have e10 : x 10 = (.int .u64 (bb)) := hV 10 (by decide)
        obtain ⟨q0, q1, q2⟩ := hS.1.three; have qb := hS.2.1
        go_simp
        exact hK.out _ _ _ rfl rfl rfl (Below.refl _ _)
      simp only [List.setIfInBounds_toArray, List.set_cons_zero, List.set_cons_succ]
      refine obs_step (Eq.trans (by simp only [List.getElem?_toArray, List.getElem?_cons_succ, List.getElem?_cons_zero]; exact rfl) rfl) rfl (fun w' hS hV K hK => ?_) ?_
      · have e1 : x 1 = (.pointer (some ⟨w.heap.size, 0, none⟩)) := hV 1 (by decide)
        have e2 : x 2 = (.pointer (some ⟨w.heap.size, 0, none⟩)) := hV 2 (by decide)
        have e3 : x 3 = (.pointer (some ⟨w.heap.size, 2, none⟩)) := hV 3 (by decide)
        have e4 : x 4 = (.int .u64 (h)) := hV 4 (by decide)
        have e5 : x 5 = (.int .u64 (IntKind.u64.wrap (h * 1099511628211))) := hV 5 (by decide)
        have e6 : x 6 = (.slice (some ⟨gb, ob, none⟩) nb cb) := hV 6 (by decide)
        have e7 : x 7 = (.int .i64 (j)) := hV 7 (by decide)
        have e8 : x 8 = (.pointer (some ⟨gb, ob + j, none⟩)) := hV 8 (by decide)
        have e9 : x 9 = (.int .u8 bb) := hV 9 (by decide)
        have e10 : x 10 = (.int .u64 (bb)) := hV 10 (by decide)
        have e11 : x 11 = (.int .u64 (IntKind.u64.wrap (IntKind.u64.wrap (h * 1099511628211) + bb))) := hV 11 (by decide)
        obtain ⟨q0, q1, q2⟩ := hS.1.three; have qb := hS.2.1
        go_simp
        exact hK.out _ _ _ rfl rfl rfl (Below.refl _ _)
      simp only [List.setIfInBounds_toArray, List.set_cons_zero, List.set_cons_succ]
      refine obs_step (Eq.trans (by simp only [List.getElem?_toArray, List.getElem?_cons_succ, List.getElem?_cons_zero]; exact rfl) rfl) rfl (fun w' hS hV K hK => ?_) ?_
      · have e0 : x 0 = (.pointer (some ⟨w.heap.size, 0, none⟩)) := hV 0 (by decide)
        obtain ⟨q0, q1, q2⟩ := hS.1.three; have qb := hS.2.1
        go_simp
        exact hK.out _ _ _ rfl rfl rfl (Below.refl _ _)
      simp only [List.setIfInBounds_toArray, List.set_cons_zero, List.set_cons_succ]
      refine obs_step (Eq.trans (by simp only [List.getElem?_toArray, List.getElem?_cons_succ, List.getElem?_cons_zero]; exact rfl) rfl) rfl (fun w' hS hV K hK => ?_) ?_
      · have e0 : x 0 = (.pointer (some ⟨w.heap.size, 0, none⟩)) := hV 0 (by decide)
        have e13 : x 13 = (.pointer (some ⟨w.heap.size, 0, none⟩)) := hV 13 (by decide)
        obtain ⟨q0, q1, q2⟩ := hS.1.three; have qb := hS.2.1
        go_simp
        exact hK.out _ _ _ rfl rfl rfl (Below.refl _ _)
      simp only [List.setIfInBounds_toArray, List.set_cons_zero, List.set_cons_succ]
      refine fun w' hS hV => ?_
      have e0 : x 0 = (.pointer (some ⟨w.heap.size, 0, none⟩)) := hV 0 (by decide)
      have e1 : x 1 = (.pointer (some ⟨w.heap.size, 0, none⟩)) := hV 1 (by decide)
      have e2 : x 2 = (.pointer (some ⟨w.heap.size, 0, none⟩)) := hV 2 (by decide)
      have e3 : x 3 = (.pointer (some ⟨w.heap.size, 2, none⟩)) := hV 3 (by decide)
      have e4 : x 4 = (.int .u64 (h)) := hV 4 (by decide)
      have e5 : x 5 = (.int .u64 (IntKind.u64.wrap (h * 1099511628211))) := hV 5 (by decide)
      have e6 : x 6 = (.slice (some ⟨gb, ob, none⟩) nb cb) := hV 6 (by decide)
      have e7 : x 7 = (.int .i64 (j)) := hV 7 (by decide)
      have e8 : x 8 = (.pointer (some ⟨gb, ob + j, none⟩)) := hV 8 (by decide)
      have e9 : x 9 = (.int .u8 bb) := hV 9 (by decide)
      have e10 : x 10 = (.int .u64 (bb)) := hV 10 (by decide)
      have e11 : x 11 = (.int .u64 (IntKind.u64.wrap (IntKind.u64.wrap (h * 1099511628211) + bb))) := hV 11 (by decide)
      have e12 : x 12 = (.int .u64 (IntKind.u64.wrap (IntKind.u64.wrap (IntKind.u64.wrap (h * 1099511628211) + bb) + 11))) := hV 12 (by decide)
      have e13 : x 13 = (.pointer (some ⟨w.heap.size, 0, none⟩)) := hV 13 (by decide)
      have e14 : x 14 = (.pointer (some ⟨w.heap.size, 2, none⟩)) := hV 14 (by decide)
      simp only [e0, e1, e2, e3, e4, e5, e6, e7, e8, e9, e10, e11, e12, e13, e14]
      clear e0 e1 e2 e3 e4 e5 e6 e7 e8 e9 e10 e11 e12 e13 e14
      obtain ⟨k2, _, hb2⟩ := hS
      have q2 := k2.three.2.2
      have f2 := k2.frozen 2
      refine any_one (j := 15) (by kernel_rfl) (Eq.trans (by simp only [List.getElem?_toArray, List.getElem?_cons_succ, List.getElem?_cons_zero]; exact rfl) rfl) (fun K hK => ?_)
      go_simp
      refine hK.out _ _ (wpAny_done (by kernel_rfl) ?_ _)
      have k3 := k2.set_ 2 (.int .u64 (IntKind.u64.wrap (IntKind.u64.wrap (IntKind.u64.wrap (h * 1099511628211) + bb) + 11)))
      simp only [List.setIfInBounds_toArray, List.set_cons_zero, List.set_cons_succ] at k3
      have hb3 := (hb1.trans (hb2.mono hb1.size)).setCell (p := ⟨w.heap.size, 2, none⟩) (Nat.le_refl _) (.int .u64 (IntKind.u64.wrap (IntKind.u64.wrap (IntKind.u64.wrap (h * 1099511628211) + bb) + 11)))
      clear q2 f2 k2 hb2 k1
      go_wp2
      go_roundw
      case rel => exact ⟨j + 1, _, by omega, by go_num, k3, hb3⟩
      case measure => simp [intOf]; omega
    · have d1 : decide ((j : Int) < (nb : Int)) = false := by simp; omega
      go_wp2
      go_ret
      exact ⟨_, rfl, Nat.le_refl _, ⟨B, nb, cb, bs, 0, h, k1, r.below hb1, hbs, by omega, hnb, hbg⟩, hb1⟩
set_option maxHeartbeats 1600000 in
set_option maxRecDepth 8000 in
theorem roll_any (B : Option Addr) (nb cb : Nat) (bs : List Int) (sd : Int) (w : World) (hnb : nb ≤ 4096) (r : Rd w B nb (bs.map (Value.int .u8))) (hbs : ∀ b ∈ bs, 0 ≤ b ∧ b < 256) (hbg : ∀ a, B = some a → a.block < w.heap.size) :
    Calls Tryz.prog 40 #[.slice B nb cb, .int .u64 sd] w fun e w' => ∃ g, e = .returned (.pointer (some ⟨g, 0, none⟩)) ∧ w.heap.size ≤ g ∧ Src w' g 98 ∧ Below w.heap.size w w' := by
  have W0 : wrap64 (nb : Int) = nb := by unfold wrap64; omega
  go_enter Tryz.func40, Tryz.ntmps40
  go_wp2
  go_loopw [6] (fun i wr => ∃ (j : Nat) (h : Int), j ≤ nb ∧ i = .int .i64 j ∧ Blk wr w.heap.size 98 #[.slice B nb cb, .int .i64 0, .int .u64 h] ∧ Below w.heap.size w wr) (fun i _ => nb - (intOf i).toNat)
  case atStart => exact ⟨0, _, by omega, rfl, Blk.new _ _ _, (Below.refl _ _).alloc (Nat.le_refl _) _⟩
  case round =>
    obtain ⟨j, h, hj, rfl, k1, hb1⟩ := hrel
    by_cases hlt : j < nb
    · have d1 : decide ((j : Int) < (nb : Int)) = true := by simp; omega
      skip
      obtain ⟨gb, ob, rfl, hc⟩ := (r.below hb1).2 (by omega)
      have hbl : j < bs.length := by have := r.1; rw [List.length_map] at this; omega
      have hcb := hc j (.int .u8 bs[j]) (by simp [hbl])
      obtain ⟨b1, b2⟩ := hbs _ (List.getElem_mem hbl)
      obtain ⟨bb, hbb⟩ : ∃ x, x = bs[j] := ⟨_, rfl⟩
      rw [← hbb] at hcb b1 b2
      have i1 : (0 : Int) ≤ (j : Int) := by omega
      have i2 : (j : Int) < (nb : Int) := by omega
      have W2 : IntKind.u64.wrap bb = bb := IntWalk.u64_in _ ⟨b1, by omega⟩
      clear hc hbb
      go_wp2
      refine wp_obs 15 [[], [], [1], [1, 2], [1, 2, 3], [1, 2, 3, 4], [], [], [6, 7], [6, 7, 8], [6, 7, 8, 9], [1, 2, 3, 4, 5, 6, 7, 8, 9, 10], [1, 2, 3, 4, 5, 6, 7, 8, 9, 10, 11], [0], [0, 13], [0, 1, 2, 3, 4, 5, 6, 7, 8, 9, 10, 11, 12, 13, 14]] [VIs (.pointer (some ⟨w.heap.size, 0, none⟩)), VIs (.pointer (some ⟨w.heap.size, 0, none⟩)), VIs (.pointer (some ⟨w.heap.size, 0, none⟩)), VIs (.pointer (some ⟨w.heap.size, 2, none⟩)), VIs (.int .u64 (h)), VIs (.int .u64 (IntKind.u64.wrap (h * 1099511628211))), VIs (.slice (some ⟨gb, ob, none⟩) nb cb), VIs (.int .i64 (j)), VIs (.pointer (some ⟨gb, ob + j, none⟩)), VIs (.int .u8 bb), VIs (.int .u64 (bb)), VIs (.int .u64 (IntKind.u64.wrap (IntKind.u64.wrap (h * 1099511628211) + bb))), VIs (.int .u64 (IntKind.u64.wrap (IntKind.u64.wrap (IntKind.u64.wrap (h * 1099511628211) + bb) + 5))), VIs (.pointer (some ⟨w.heap.size, 0, none⟩)), VIs (.pointer (some ⟨w.heap.size, 2, none⟩))] (fun w' => Blk w' w.heap.size 98 #[.slice (some ⟨gb, ob, none⟩) nb cb, .int .i64 0, .int .u64 h] ∧ w'.cell? ⟨gb, ob + j, none⟩ = some (.int .u8 bb) ∧ Below wr.heap.size wr w') (by kernel_rfl) (by kernel_rfl) (fun _ _ h hb => ⟨h.1.below hb h.1.lt, (hb.cell (World.block_lt_of_cell? _ _ h.2.1)).trans h.2.1, h.2.2.trans (hb.mono h.2.2.size)⟩) (⟨k1.drew, hcb, (Below.refl _ _).drew⟩) (fun x => ?_)
      refine obs_step (Eq.trans (by simp only [List.getElem?_toArray, List.getElem?_cons_zero]; exact rfl) rfl) rfl (fun w' hS hV K hK => ?_) ?_
      · obtain ⟨q0, q1, q2⟩ := hS.1.three; have qb := hS.2.1
        go_simp
        exact hK.out _ _ _ rfl rfl rfl (Below.refl _ _)
      simp only [List.setIfInBounds_toArray, List.set_cons_zero, List.set_cons_succ]
      refine obs_step (Eq.trans (by simp only [List.getElem?_toArray, List.getElem?_cons_succ, List.getElem?_cons_zero]; exact rfl) rfl) rfl (fun w' hS hV K hK => ?_) ?_
      · obtain ⟨q0, q1, q2⟩ := hS.1.three; have qb := hS.2.1
        go_simp
        exact hK.out _ _ _ rfl rfl rfl (Below.refl _ _)
      simp only [List.setIfInBounds_toArray, List.set_cons_zero, List.set_cons_succ]
      refine obs_step (Eq.trans (by simp only [List.getElem?_toArray, List.getElem?_cons_succ, List.getElem?_cons_zero]; exact rfl) rfl) rfl (fun w' hS hV K hK => ?_) ?_
      · have e1 : x 1 = (.pointer (some ⟨w.heap.size, 0, none⟩)) := hV 1 (by decide)
        obtain ⟨q0, q1, q2⟩ := hS.1.three; have qb := hS.2.1
        go_simp
        exact hK.out _ _ _ rfl rfl rfl (Below.refl _ _)
      simp only [List.setIfInBounds_toArray, List.set_cons_zero, List.set_cons_succ]
      refine obs_step (Eq.trans (by simp only [List.getElem?_toArray, List.getElem?_cons_succ, List.getElem?_cons_zero]; exact rfl) rfl) rfl (fun w' hS hV K hK => ?_) ?_
      · have e1 : x 1 = (.pointer (some ⟨w.heap.size, 0, none⟩)) := hV 1 (by decide)
        have e2 : x 2 = (.pointer (some ⟨w.heap.size, 0, none⟩)) := hV 2 (by decide)
        obtain ⟨q0, q1, q2⟩ := hS.1.three; have qb := hS.2.1
        go_simp
        exact hK.out _ _ _ rfl rfl rfl (Below.refl _ _)
      simp only [List.setIfInBounds_toArray, List.set_cons_zero, List.set_cons_succ]
      refine obs_step (Eq.trans (by simp only [List.getElem?_toArray, List.getElem?_cons_succ, List.getElem?_cons_zero]; exact rfl) rfl) rfl (fun w' hS hV K hK => ?_) ?_
      · have e1 : x 1 = (.pointer (some ⟨w.heap.size, 0, none⟩)) := hV 1 (by decide)
        have e2 : x 2 = (.pointer (some ⟨w.heap.size, 0, none⟩)) := hV 2 (by decide)
        have e3 : x 3 = (.pointer (some ⟨w.heap.size, 2, none⟩)) := hV 3 (by decide)
        obtain ⟨q0, q1, q2⟩ := hS.1.three; have qb := hS.2.1
        go_simp
        exact hK.out _ _ _ rfl rfl rfl (Below.refl _ _)
      simp only [List.setIfInBounds_toArray, List.set_cons_zero, List.set_cons_succ]
      refine obs_step (Eq.trans (by simp only [List.getElem?_toArray, List.getElem?_cons_succ, List.getElem?_cons_zero]; exact rfl) rfl) rfl (fun w' hS hV K hK => ?_) ?_
      · have e1 : x 1 = (.pointer (some ⟨w.heap.size, 0, none⟩)) := hV 1 (by decide)
        have e2 : x 2 = (.pointer (some ⟨w.heap.size, 0, none⟩)) := hV 2 (by decide)
        have e3 : x 3 = (.pointer (some ⟨w.heap.size, 2, none⟩)) := hV 3 (by decide)
        have e4 : x 4 = (.int .u64 (h)) := hV 4 (by decide)
        obtain ⟨q0, q1, q2⟩ := hS.1.three; have qb := hS.2.1
        go_simp
        exact hK.out _ _ _ rfl rfl rfl (Below.refl _ _)
      simp only [List.setIfInBounds_toArray, List.set_cons_zero, List.set_cons_succ]
      refine obs_step (Eq.trans (by simp only [List.getElem?_toArray, List.getElem?_cons_succ, List.getElem?_cons_zero]; exact rfl) rfl) rfl (fun w' hS hV K hK => ?_) ?_
      · obtain ⟨q0, q1, q2⟩ := hS.1.three; have qb := hS.2.1
        go_simp
        exact hK.out _ _ _ rfl rfl rfl (Below.refl _ _)
      simp only [List.setIfInBounds_toArray, List.set_cons_zero, List.set_cons_succ]
      refine obs_step (Eq.trans (by simp only [List.getElem?_toArray, List.getElem?_cons_succ, List.getElem?_cons_zero]; exact rfl) rfl) rfl (fun w' hS hV K hK => ?_) ?_
      · obtain ⟨q0, q1, q2⟩ := hS.1.three; have qb := hS.2.1
        go_simp
        exact hK.out _ _ _ rfl rfl rfl (Below.refl _ _)
      simp only [List.setIfInBounds_toArray, List.set_cons_zero, List.set_cons_succ]
      refine obs_step (Eq.trans (by simp only [List.getElem?_toArray, List.getElem?_cons_succ, List.getElem?_cons_zero]; exact rfl) rfl) rfl (fun w' hS hV K hK => ?_) ?_
      · have e6 : x 6 = (.slice (some ⟨gb, ob, none⟩) nb cb) := hV 6 (by decide)
        have e7 : x 7 = (.int .i64 (j)) := hV 7 (by decide)
        obtain ⟨q0, q1, q2⟩ := hS.1.three; have qb := hS.2.1
        go_simp
        exact hK.out _ _ _ rfl rfl rfl (Below.refl _ _)
      simp only [List.setIfInBounds_toArray, List.set_cons_zero, List.set_cons_succ]
      refine obs_step (Eq.trans (by simp only [List.getElem?_toArray, List.getElem?_cons_succ, List.getElem?_cons_zero]; exact rfl) rfl) rfl (fun w' hS hV K hK => ?_) ?_
      · have e6 : x 6 = (.slice (some ⟨gb, ob, none⟩) nb cb) := hV 6 (by decide)
        have e7 : x 7 = (.int .i64 (j)) := hV 7 (by decide)
        have e8 : x 8 = (.pointer (some ⟨gb, ob + j, none⟩)) := hV 8 (by decide)
        obtain ⟨q0, q1, q2⟩ := hS.1.three; have qb := hS.2.1
        go_simp
        exact hK.out _ _ _ rfl rfl rfl (Below.refl _ _)
      simp only [List.setIfInBounds_toArray, List.set_cons_zero, List.set_cons_succ]
      refine obs_step (Eq.trans (by simp only [List.getElem?_toArray, List.getElem?_cons_succ, List.getElem?_cons_zero]; exact rfl) rfl) rfl (fun w' hS hV K hK => ?_) ?_
      · have e6 : x 6 = (.slice (some ⟨gb, ob, none⟩) nb cb) := hV 6 (by decide)
        have e7 : x 7 = (.int .i64 (j)) := hV 7 (by decide)
        have e8 : x 8 = (.pointer (some ⟨gb, ob + j, none⟩)) := hV 8 (by decide)
        have e9 : x 9 = (.int .u8 bb) := hV 9 (by decide)
        obtain ⟨q0, q1, q2⟩ := hS.1.three; have qb := hS.2.1
        go_simp
        exact hK.out _ _ _ rfl rfl rfl (Below.refl _ _)
      simp only [List.setIfInBounds_toArray, List.set_cons_zero, List.set_cons_succ]
      refine obs_step (Eq.trans (by simp only [List.getElem?_toArray, List.getElem?_cons_succ, List.getElem?_cons_zero]; exact rfl) rfl) rfl (fun w' hS hV K hK => ?_) ?_
      · have e1 : x 1 = (.pointer (some ⟨w.heap.size, 0, none⟩)) := hV 1 (by decide)
        have e2 : x 2 = (.pointer (some ⟨w.heap.size, 0, none⟩)) := hV 2 (by decide)
        have e3 : x 3 = (.pointer (some ⟨w.heap.size, 2, none⟩)) := hV 3 (by decide)
        have e4 : x 4 = (.int .u64 (h)) := hV 4 (by decide)
        have e5 : x 5 = (.int .u64 (IntKind.u64.wrap (h * 1099511628211))) := hV 5 (by decide)
        have e6 : x 6 = (.slice (some ⟨gb, ob, none⟩) nb cb) := hV 6 (by decide)
        have e7 : x 7 = (.int .i64 (j)) := hV 7 (by decide)
        have e8 : x 8 = (.pointer (some ⟨gb, ob + j, none⟩)) := hV 8 (by decide)
        have e9 : x 9 = (.int .u8 bb) := hV 9 (by decide)
        have e10 : x 10 = (.int .u64 (bb)) := hV 10 (by decide)
        obtain ⟨q0, q1, q2⟩ := hS.1.three; have qb := hS.2.1
        go_simp
        exact hK.out _ _ _ rfl rfl rfl (Below.refl _ _)
      simp only [List.setIfInBounds_toArray, List.set_cons_zero, List.set_cons_succ]
      refine obs_step (Eq.trans (by simp only [List.getElem?_toArray, List.getElem?_cons_succ, List.getElem?_cons_zero]; exact rfl) rfl) rfl (fun w' hS hV K hK => ?_) ?_
      · have e1 : x 1 = (.pointer (some ⟨w.heap.size, 0, none⟩)) := hV 1 (by decide)
        have e2 : x 2 = (.pointer (some ⟨w.heap.size, 0, none⟩)) := hV 2 (by decide)
        have e3 : x 3 = (.pointer (some ⟨w.heap.size, 2, none⟩)) := hV 3 (by decide)
        have e4 : x 4 = (.int .u64 (h)) := hV 4 (by decide)
        have e5 : x 5 = (.int .u64 (IntKind.u64.wrap (h * 1099511628211))) := hV 5 (by decide)
        have e6 : x 6 = (.slice (some ⟨gb, ob, none⟩) nb cb) := hV 6 (by decide)
        have e7 : x 7 = (.int .i64 (j)) := hV 7 (by decide)
        have e8 : x 8 = (.pointer (some ⟨gb, ob + j, none⟩)) := hV 8 (by decide)
        have e9 : x 9 = (.int .u8 bb) := hV 9 (by decide)
        have e10 : x 10 = (.int .u64 (bb)) := hV 10 (by decide)
        have e11 : x 11 = (.int .u64 (IntKind.u64.wrap (IntKind.u64.wrap (h * 1099511628211) + bb))) := hV 11 (by decide)
        obtain ⟨q0, q1, q2⟩ := hS.1.three; have qb := hS.2.1
        go_simp
        exact hK.out _ _ _ rfl rfl rfl (Below.refl _ _)
      simp only [List.setIfInBounds_toArray, List.set_cons_zero, List.set_cons_succ]
      refine obs_step (Eq.trans (by simp only [List.getElem?_toArray, List.getElem?_cons_succ, List.getElem?_cons_zero]; exact rfl) rfl) rfl (fun w' hS hV K hK => ?_) ?_
      · have e0 : x 0 = (.pointer (some ⟨w.heap.size, 0, none⟩)) := hV 0 (by decide)
        obtain ⟨q0, q1, q2⟩ := hS.1.three; have qb := hS.2.1
        go_simp
        exact hK.out _ _ _ rfl rfl rfl (Below.refl _ _)
      simp only [List.setIfInBounds_toArray, List.set_cons_zero, List.set_cons_succ]
      refine obs_step (Eq.trans (by simp only [List.getElem?_toArray, List.getElem?_cons_succ, List.getElem?_cons_zero]; exact rfl) rfl) rfl (fun w' hS hV K hK => ?_) ?_
      · have e0 : x 0 = (.pointer (some ⟨w.heap.size, 0, none⟩)) := hV 0 (by decide)
        have e13 : x 13 = (.pointer (some ⟨w.heap.size, 0, none⟩)) := hV 13 (by decide)
        obtain ⟨q0, q1, q2⟩ := hS.1.three; have qb := hS.2.1
        go_simp
        exact hK.out _ _ _ rfl rfl rfl (Below.refl _ _)
      simp only [List.setIfInBounds_toArray, List.set_cons_zero, List.set_cons_succ]
      refine fun w' hS hV => ?_
      have e0 : x 0 = (.pointer (some ⟨w.heap.size, 0, none⟩)) := hV 0 (by decide)
      have e1 : x 1 = (.pointer (some ⟨w.heap.size, 0, none⟩)) := hV 1 (by decide)
      have e2 : x 2 = (.pointer (some ⟨w.heap.size, 0, none⟩)) := hV 2 (by decide)
      have e3 : x 3 = (.pointer (some ⟨w.heap.size, 2, none⟩)) := hV 3 (by decide)
      have e4 : x 4 = (.int .u64 (h)) := hV 4 (by decide)
      have e5 : x 5 = (.int .u64 (IntKind.u64.wrap (h * 1099511628211))) := hV 5 (by decide)
      have e6 : x 6 = (.slice (some ⟨gb, ob, none⟩) nb cb) := hV 6 (by decide)
      have e7 : x 7 = (.int .i64 (j)) := hV 7 (by decide)
      have e8 : x 8 = (.pointer (some ⟨gb, ob + j, none⟩)) := hV 8 (by decide)
      have e9 : x 9 = (.int .u8 bb) := hV 9 (by decide)
      have e10 : x 10 = (.int .u64 (bb)) := hV 10 (by decide)
      have e11 : x 11 = (.int .u64 (IntKind.u64.wrap (IntKind.u64.wrap (h * 1099511628211) + bb))) := hV 11 (by decide)
      have e12 : x 12 = (.int .u64 (IntKind.u64.wrap (IntKind.u64.wrap (IntKind.u64.wrap (h * 1099511628211) + bb) + 5))) := hV 12 (by decide)
      have e13 : x 13 = (.pointer (some ⟨w.heap.size, 0, none⟩)) := hV 13 (by decide)
      have e14 : x 14 = (.pointer (some ⟨w.heap.size, 2, none⟩)) := hV 14 (by decide)
      simp only [e0, e1, e2, e3, e4, e5, e6, e7, e8, e9, e10, e11, e12, e13, e14]
      clear e0 e1 e2 e3 e4 e5 e6 e7 e8 e9 e10 e11 e12 e13 e14
      obtain ⟨k2, _, hb2⟩ := hS
      have q2 := k2.three.2.2
      have f2 := k2.frozen 2
      refine any_one (j := 15) (by kernel_rfl) (Eq.trans (by simp only [List.getElem?_toArray, List.getElem?_cons_succ, List.getElem?_cons_zero]; exact rfl) rfl) (fun K hK => ?_)
      go_simp
      refine hK.out _ _ (wpAny_done (by kernel_rfl) ?_ _)
      have k3 := k2.set_ 2 (.int .u64 (IntKind.u64.wrap (IntKind.u64.wrap (IntKind.u64.wrap (h * 1099511628211) + bb) + 5)))
      simp only [List.setIfInBounds_toArray, List.set_cons_zero, List.set_cons_succ] at k3
      have hb3 := (hb1.trans (hb2.mono hb1.size)).setCell (p := ⟨w.heap.size, 2, none⟩) (Nat.le_refl _) (.int .u64 (IntKind.u64.wrap (IntKind.u64.wrap (IntKind.u64.wrap (h * 1099511628211) + bb) + 5)))
      clear q2 f2 k2 hb2 k1
      go_wp2
      go_roundw
      case rel => exact ⟨j + 1, _, by omega, by go_num, k3, hb3⟩
      case measure => simp [intOf]; omega
    · have d1 : decide ((j : Int) < (nb : Int)) = false := by simp; omega
      go_wp2
      go_ret
      exact ⟨_, rfl, Nat.le_refl _, ⟨B, nb, cb, bs, 0, h, k1, r.below hb1, hbs, by omega, hnb, hbg⟩, hb1⟩
set_option maxHeartbeats 1600000 in
set_option maxRecDepth 8000 in
theorem belowList_any (g : Nat) (p : Int) (n : Nat) (w : World) (hs : Src w g 98) (hp : p ≤ 4611686018427387904) (hn : n ≤ 1048576) :
    Calls Tryz.prog 39 #[.pointer (some ⟨g, 0, none⟩), .int .i64 n, .int .i64 p] w fun e w' => ∃ (A : Option Addr) (c : Nat) (xs : List Int), e = .returned (.slice A n c) ∧ xs.length = n ∧ (∀ x ∈ xs, 0 ≤ x ∧ (1 ≤ p → x < p)) ∧ Own w' w.heap.size 2 A n c (ints xs) ∧ Dr g 98 w w' := by
  have hM0 := Mk.lit (E := 2) (Below.refl w.heap.size w) #[] (by simp)
  have hd0 := (Dr.refl hs).alloc (.cells #[] 2)
  go_enter Tryz.func39, Tryz.ntmps39
  go_wp2
  go_loopw [7, 1] (fun out i wr => ∃ (j : Nat) (A : Option Addr) (c : Nat) (xs : List Int), j ≤ n ∧ i = .int .i64 ((n - j : Nat) : Int) ∧ out = .slice A j c ∧ xs.length = j ∧ (∀ x ∈ xs, 0 ≤ x ∧ (1 ≤ p → x < p)) ∧ Own wr w.heap.size 2 A j c (ints xs) ∧ Dr g 98 w wr) (fun _ i _ => (intOf i).toNat)
  case atStart => exact ⟨0, _, _, [], by omega, by simp, rfl, rfl, fun x hx => (by cases hx), by simpa [ints] using hM0.2, hd0⟩
  case round =>
    obtain ⟨j, A, c, xs, hj, rfl, rfl, hl, hx, hO, hd⟩ := hrel
    clear hM0 hd0
    by_cases hlt : j < n
    · have d1 : decide (0 < ((n - j : Nat) : Int)) = true := by simp; omega
      have W5 : wrap64 (((n - j : Nat) : Int) - 1) = ((n - (j + 1) : Nat) : Int) := by unfold wrap64; omega
      have hnx := below_any g p wr hd.s' hp
      have HX := Lib.hid hx
      have HO := Lib.hid hO
      have HD := Lib.hid hd
      clear hx hO hd
      go_wp2_with (first
        | (go_at_call 81; refine hnx.mono ?_; rintro e w' ⟨r, rfl, hr1, hr2, hd2⟩
           have HO2 := Lib.hid (HO.out.dr hd2 (by decide))
           have HD2 := Lib.hid (HD.out.trans hd2)
           clear hnx hd2)
        | (at_builtin; refine wpList_app1 (cutW w' w.heap.size) w' 22 2 _ _ Tryz.underlying22 info_i rfl (by omega) rfl _ _ rfl A j c _ _ (HO2.out.mk_ HD2.out.size) (by omega) rfl rfl rfl ?_; intro A2 c2 w2 hM2 hg2 _))
      have hO3 := hM2.own_ (cutW_size HD2.out.size)
      have hd3 := HD2.out.grown HO2.out hg2
      clear hM2 hg2
      go_roundw
      case rel => exact ⟨j + 1, A2, c2, xs ++ [r], by omega, by go_num, rfl, by simp [hl], fun x hx => by
        rcases List.mem_append.1 hx with hx | hx
        · exact HX.out x hx
        · rw [List.mem_singleton.1 hx]; exact ⟨hr1, hr2⟩, by simpa [ints] using hO3, hd3⟩
      case measure => simp [intOf]; omega
    · obtain rfl : j = n := by omega
      have d1 : decide (0 < ((j - j : Nat) : Int)) = false := by simp
      go_wp2
      go_ret
      exact ⟨A, c, xs, rfl, hl, hx, hO, hd⟩
end Go.Proofs.YticofgmmjecleaaGreatDoor
namespace Go.Proofs.YticofgmmjecleaaGreatDoor
open Go.RowKit
set_option maxHeartbeats 800000 in
set_option maxRecDepth 8000 in
theorem pick_any (g gl : Nat) (xs : List Int) (w : World) (hs : Src w g 121) (kl : Blk w gl 2 (ints xs).toArray) (h0 : 0 < xs.length) (hl : xs.length ≤ 1000) :
    Calls Tryz.prog 106 #[.pointer (some ⟨g, 0, none⟩), .slice (some ⟨gl, 0, none⟩) xs.length xs.length] w fun e w' => ∃ r : Int, r ∈ xs ∧ e = .returned (.int .i64 r) ∧ Dr g 121 w w' := by
  have hnx := next_any g (xs.length : Int) w hs (by omega)
  go_enter Tryz.func106, Tryz.ntmps106
  go_wp2_with fail
  refine hnx.mono ?_
  rintro e w2 ⟨r, rfl, hr1, hr2, hd⟩
  have hr3 := hr2 (by omega)
  obtain ⟨rn, rfl⟩ : ∃ rn : Nat, r = rn := ⟨r.toNat, by omega⟩
  have hlt : rn < xs.length := by omega
  have kl2 := kl.dr hd (by decide)
  have hc : w2.cell? ⟨gl, rn, none⟩ = some (.int .i64 xs[rn]) := by
    rw [kl2.cell]
    simp [ints, hlt]
  have hmem := List.getElem_mem hlt
  obtain ⟨x, hx⟩ : ∃ x, x = xs[rn] := ⟨_, rfl⟩
  rw [← hx] at hc hmem
  clear hnx hx
  go_wp2
  go_ret
  exact ⟨x, hmem, rfl, hd⟩
set_option maxHeartbeats 800000 in
set_option maxRecDepth 8000 in
theorem drawPrime_any (g : Nat) (w : World) (hs : Src w g 121) :
    Calls Tryz.prog 161 #[.pointer (some ⟨g, 0, none⟩)] w fun e w' => ∃ r : Int, 3 ≤ r ∧ r ≤ 13 ∧ e = .returned (.int .i64 r) ∧ Dr g 121 w w' := by
  have hd1 := (Dr.refl hs).alloc (.cells #[.int .i64 3, .int .i64 5, .int .i64 7, .int .i64 11, .int .i64 13, .int .i64 3, .int .i64 5, .int .i64 7] 2)
  have hpk := pick_any g w.heap.size [3, 5, 7, 11, 13, 3, 5, 7] _ hd1.s' (Blk.new w 2 _) (by decide) (by decide)
  go_enter Tryz.func161, Tryz.ntmps161
  go_wp2_with fail
  refine hpk.mono ?_
  rintro e w2 ⟨r, hr, rfl, hd⟩
  go_wp2
  go_ret
  refine ⟨r, ?_, ?_, rfl, hd1.trans hd⟩
  · simp at hr; omega
  · simp at hr; omega
theorem ints4 (a b c d : Int) : (ints [a, b, c, d]).toArray = #[.int .i64 a, .int .i64 b, .int .i64 c, .int .i64 d] := rfl
theorem ints2 (a b : Int) : (ints [a, b]).toArray = #[.int .i64 a, .int .i64 b] := rfl
theorem Dr.setNew {w wr : World} {g b : Nat} {T : TypeId} (d : Dr g T w wr) (hb : w.heap.size ≤ b) (i : Nat) (u : Value) : Dr g T w (wr.setCell ⟨b, i, none⟩ u) := by
  have hlt := d.s.lt
  have hfar : ∀ k, k ≠ b → (wr.setCell ⟨b, i, none⟩ u).heap[k]? = wr.heap[k]? := fun k hk => Below.heap_setCell wr ⟨b, i, none⟩ _ k hk
  have hB : Below g wr (wr.setCell ⟨b, i, none⟩ u) := (Below.refl _ _).setCell (p := ⟨b, i, none⟩) (Nat.le_trans (Nat.le_of_lt hlt) hb) _
  exact ⟨d.s, d.s'.keep (hfar g (by omega)) hB, d.b.trans hB, fun k hk hne => (hfar k (by omega)).trans (d.k k hk hne)⟩
set_option maxHeartbeats 3200000 in
set_option maxRecDepth 8000 in
theorem l03Any_any (g : Nat) (most : Nat) (w : World) (hs : Src w g 121) (hm1 : 1 ≤ most) (hm2 : most ≤ 100) :
    Calls Tryz.prog 134 #[.pointer (some ⟨g, 0, none⟩), .int .i64 most] w fun e w' => ∃ (P : Int) (A : Option Addr) (n c : Nat) (xs : List Int), e = .returned (.agg #[.int .i64 P, .slice A n c]) ∧ 3 ≤ P ∧ P ≤ 13 ∧ 1 ≤ n ∧ n ≤ most ∧ Own w' w.heap.size 2 A n c (ints xs) ∧ Dr g 121 w w' := by
  have hd1 := (Dr.refl hs).alloc (.cells #[.int .i64 0, .slice none 0 0] 28)
  have k1 : Blk (w.alloc (.cells #[.int .i64 0, .slice none 0 0] 28)) w.heap.size 28 #[.int .i64 0, .slice none 0 0] := Blk.new _ _ _
  have hdp := drawPrime_any g (w.alloc (.cells #[.int .i64 0, .slice none 0 0] 28)) hd1.s'
  have hsw : (w.alloc (.cells #[.int .i64 0, .slice none 0 0] 28)).heap.size = w.heap.size + 1 := by simp
  go_enter Tryz.func134, Tryz.ntmps134
  go_wp2_with fail
  refine hdp.mono ?_
  rintro e w2 ⟨p, hp1, hp2, rfl, hd2⟩
  have hd2' := hd1.trans hd2
  have k2 := k1.dr hd2 (by decide)
  have hs2 := hd2.size
  have hd3 := hd2'.alloc (.cells #[.int .i64 p, .slice none 0 0] 28)
  have k3 := k2.alloc (.cells #[.int .i64 p, .slice none 0 0] 28)
  have kb3 : Blk (w2.alloc (.cells #[.int .i64 p, .slice none 0 0] 28)) w2.heap.size 28 #[.int .i64 p, .slice none 0 0] := Blk.new _ _ _
  have hnx := fun w' (h : Src w' g 121) => next_any g (most : Int) w' h (by omega)
  have hsw2 : w.heap.size + 1 ≤ w2.heap.size := by omega
  clear hdp hd1 k1 hd2 hd2' k2 hsw hs2
  go_wp2_with fail
  refine (hnx _ hd3.s').mono ?_
  rintro e w3 ⟨r, rfl, hr1, hr2, hd4⟩
  have hr3 := hr2 (by omega)
  obtain ⟨N, hN⟩ : ∃ N : Nat, (N : Int) = 1 + r := ⟨(1 + r).toNat, by omega⟩
  have hd5 := hd3.trans hd4
  have k5 := k3.dr hd4 (by decide)
  have kb5 := kb3.dr hd4 (by decide)
  have WN : wrap64 (1 + r) = (N : Int) := by unfold wrap64; omega
  have WP : wrap64 (p - 1) = p - 1 := by unfold wrap64; omega
  have hnxp := fun w' (h : Src w' g 121) => next_any g (p - 1) w' h (by omega)
  have hnx10 := fun w' (h : Src w' g 121) => next_any g 10 w' h (by omega)
  clear hnx hd3 k3 kb3 hd4
  go_wp2
  go_loopw [7] (fun q wr => ∃ (j m : Nat) (A : Option Addr) (c : Nat) (xs : List Int), j + m = N ∧ q = .int .i64 m ∧ Blk wr w.heap.size 28 #[.int .i64 0, .slice none 0 0] ∧ Blk wr w2.heap.size 28 #[.int .i64 p, .slice A j c] ∧ Own wr w.heap.size 2 A j c (ints xs) ∧ Dr g 121 w wr) (fun q _ => (intOf q).toNat)
  case atStart => exact ⟨0, N, none, 0, [], by omega, by rw [hN], k5, kb5, World.ownsRow_nil _ _ _ _, hd5⟩
  case round =>
    obtain ⟨j, m, A, c, xs, hjm, rfl, k4, k6, hO, hd⟩ := hrel
    clear k5 kb5 hd5
    cases m with
    | zero =>
      have hjN : j = N := by omega
      subst hjN
      obtain ⟨q0, q1⟩ := k6.two
      obtain ⟨p0, p1⟩ := k4.two
      have f0 := k4.frozen 0
      have f1 := k4.frozen 1
      go_wp2
      have kz := k4.set_ 0 (.int .i64 p)
      refine bodyPost_ret (v := .agg #[.int .i64 p, .slice A j c]) (by simp [results, Tryz.results134, go_sem, p0, p1]) rfl ⟨p, A, j, c, xs, rfl, hp1, hp2, by omega, by omega, (hO.far k4 (by decide) 0 _).far kz (by decide) 1 _, (hd.setNew (Nat.le_refl _) 0 _).setNew (Nat.le_refl _) 1 _⟩
    | succ m =>
      have d1 : decide (0 < ((m + 1 : Nat) : Int)) = true := by rw [decide_eq_true_eq]; omega
      have WM : wrap64 (((m + 1 : Nat) : Int) - 1) = (m : Int) := by unfold wrap64; omega
      have HO := Lib.hid hO
      clear hO
      go_wp2_with fail
      refine (hnxp _ hd.s').mono ?_
      rintro e wA ⟨ra, rfl, ra1, ra2, hdA⟩
      have ra3 := ra2 (by omega)
      have WA : wrap64 (1 + ra) = 1 + ra := by unfold wrap64; omega
      have hdA' := (Dr.refl hdA.s').alloc (.cells #[.int .i64 1, .int .i64 (p - 1), .int .i64 (1 + ra), .int .i64 1] 2)
      have hpk := pick_any g wA.heap.size [1, p - 1, 1 + ra, 1] _ hdA'.s' (by rw [ints4]; exact Blk.new wA 2 _) (by simp) (by simp)
      go_wp2_with fail
      refine hpk.mono ?_
      rintro e wB ⟨rb, _, rfl, hdB⟩
      go_wp2_with fail
      refine (hnx10 _ hdB.s').mono ?_
      rintro e wC ⟨rc, rfl, rc1, rc2, hdC⟩
      have hdAC := ((hdA.trans hdA').trans hdB).trans hdC
      have HD2 := Lib.hid (hd.trans hdAC)
      have HO2 := Lib.hid (HO.out.dr hdAC (by decide))
      have k4C := k4.dr hdAC (by decide)
      have k6C := k6.dr hdAC (by decide)
      obtain ⟨q0, q1⟩ := k6C.two
      clear hd hdA hdA' hdB hdC hdAC hpk hnxp hnx10 k4 k6
      by_cases hrc : rc = 0
      · have er : (rc == 0) = true := by simp [hrc]
        go_wp2_with (at_builtin; refine wpList_app1 (cutW wC w.heap.size) wC 22 2 _ _ Tryz.underlying22 info_i rfl (by omega) rfl _ _ rfl A j c _ _ (HO2.out.mk_ HD2.out.size) (by omega) rfl rfl rfl ?_; intro A8 c8 w8 hM8 hg8 _
                     have k4a := k4C.grown hg8 (HO2.out.ne_blk k4C (by decide))
                     have k6a := k6C.grown hg8 (HO2.out.ne_blk k6C (by decide))
                     have hO3 := hM8.own_ (cutW_size HD2.out.size)
                     have hd3 := HD2.out.grown HO2.out hg8
                     have f8 := k6a.frozen 1
                     have f9 := k6a.cell 1
                     simp only [List.getElem?_toArray, List.getElem?_cons_zero, List.getElem?_cons_succ] at f9)
        have k4b := k4a.far (p := ⟨w2.heap.size, 1, none⟩) (show w.heap.size ≠ w2.heap.size by omega) (.slice A8 (j + 1) c8)
        have k6b := k6a.set_ 1 (.slice A8 (j + 1) c8)
        have hO4 := hO3.far k6a (by decide) 1 (.slice A8 (j + 1) c8)
        have hd4 := hd3.setNew (b := w2.heap.size) (by omega) 1 (.slice A8 (j + 1) c8)
        simp only [List.setIfInBounds_toArray, List.set_cons_zero, List.set_cons_succ] at k6b
        clear k4a k6a hO3 hd3 f8 f9 hM8 hg8 k4C k6C
        go_roundw
        case rel => exact ⟨j + 1, m, A8, c8, xs ++ [0], by omega, by go_num, k4b, k6b, by simpa [ints] using hO4, hd4⟩
        case measure => simp [intOf]
      · have er : (rc == 0) = false := by simp [hrc]
        go_wp2_with (at_builtin; refine wpList_app1 (cutW wC w.heap.size) wC 22 2 _ _ Tryz.underlying22 info_i rfl (by omega) rfl _ _ rfl A j c _ _ (HO2.out.mk_ HD2.out.size) (by omega) rfl rfl rfl ?_; intro A8 c8 w8 hM8 hg8 _
                     have k4a := k4C.grown hg8 (HO2.out.ne_blk k4C (by decide))
                     have k6a := k6C.grown hg8 (HO2.out.ne_blk k6C (by decide))
                     have hO3 := hM8.own_ (cutW_size HD2.out.size)
                     have hd3 := HD2.out.grown HO2.out hg8
                     have f8 := k6a.frozen 1
                     have f9 := k6a.cell 1
                     simp only [List.getElem?_toArray, List.getElem?_cons_zero, List.getElem?_cons_succ] at f9)
        have k4b := k4a.far (p := ⟨w2.heap.size, 1, none⟩) (show w.heap.size ≠ w2.heap.size by omega) (.slice A8 (j + 1) c8)
        have k6b := k6a.set_ 1 (.slice A8 (j + 1) c8)
        have hO4 := hO3.far k6a (by decide) 1 (.slice A8 (j + 1) c8)
        have hd4 := hd3.setNew (b := w2.heap.size) (by omega) 1 (.slice A8 (j + 1) c8)
        simp only [List.setIfInBounds_toArray, List.set_cons_zero, List.set_cons_succ] at k6b
        clear k4a k6a hO3 hd3 f8 f9 hM8 hg8 k4C k6C
        go_roundw
        case rel => exact ⟨j + 1, m, A8, c8, xs ++ [rb], by omega, by go_num, k4b, k6b, by simpa [ints] using hO4, hd4⟩
        case measure => simp [intOf]
set_option maxHeartbeats 1600000 in
set_option maxRecDepth 8000 in
theorem l03Draw_any (g : Nat) (w : World) (hs : Src w g 121) :
    Calls Tryz.prog 105 #[.pointer (some ⟨g, 0, none⟩)] w fun e w' => ∃ (P : Int) (A : Option Addr) (n c : Nat) (xs : List Int), e = .returned (.agg #[.int .i64 P, .slice A n c]) ∧ 3 ≤ P ∧ P ≤ 13 ∧ 1 ≤ n ∧ n ≤ 6 ∧ Own w' w.heap.size 2 A n c (ints xs) ∧ Dr g 121 w w' := by
  have hd1 := ((Dr.refl hs).alloc (.cells #[.int .i64 0, .slice none 0 0] 28)).alloc (.cells #[.int .i64 2, .int .i64 3, .int .i64 3, .int .i64 4, .int .i64 6] 2)
  have k1 : Blk ((w.alloc (.cells #[.int .i64 0, .slice none 0 0] 28)).alloc (.cells #[.int .i64 2, .int .i64 3, .int .i64 3, .int .i64 4, .int .i64 6] 2)) w.heap.size 28 #[.int .i64 0, .slice none 0 0] := (Blk.new _ _ _).alloc _
  have hpk := pick_any g (w.alloc (.cells #[.int .i64 0, .slice none 0 0] 28)).heap.size [2, 3, 3, 4, 6] _ hd1.s' (Blk.new _ 2 _) (by decide) (by decide)
  have e1 : (w.alloc (.cells #[.int .i64 0, .slice none 0 0] 28)).heap.size = w.heap.size + 1 := by simp
  rw [e1] at hpk
  go_enter Tryz.func105, Tryz.ntmps105
  go_wp2_with fail
  refine hpk.mono ?_
  rintro e w2 ⟨r, hr, rfl, hd2⟩
  have hr1 : 2 ≤ r ∧ r ≤ 6 := by simp at hr; omega
  obtain ⟨mn, rfl⟩ : ∃ mn : Nat, r = mn := ⟨r.toNat, by omega⟩
  have hd3 := hd1.trans hd2
  have k2 := k1.dr hd2 (by decide)
  have han := l03Any_any g mn w2 hd3.s' (by omega) (by omega)
  clear hpk hd1 hd2 k1 hr
  go_wp2_with fail
  refine han.mono ?_
  rintro e w3 ⟨P, A, n, c, xs, rfl, hP1, hP2, hn1, hn2, hO, hd4⟩
  have k3 := k2.dr hd4 (by decide)
  have hd5 := hd3.trans hd4
  have hO5 := hO.base hd3.size
  obtain ⟨p0, p1⟩ := k3.two
  have f0 := k3.frozen 0
  have f1 := k3.frozen 1
  have kz := k3.set_ 0 (.int .i64 P)
  clear han k2 hd3 hd4 hO
  go_wp2
  exact bodyPost_ret (v := .agg #[.int .i64 P, .slice A n c]) (by simp [results, Tryz.results105, go_sem, p0, p1]) rfl ⟨P, A, n, c, xs, rfl, hP1, hP2, hn1, by omega, (hO5.far k3 (by decide) 0 _).far kz (by decide) 1 _, (hd5.setNew (Nat.le_refl _) 0 _).setNew (Nat.le_refl _) 1 _⟩
/-- What a struct's box is left as, when the space in it is returned. -/
theorem space_back {w wr : World} {g b : Nat} {T : TypeId} {P : Int} {A : Option Addr} {n c : Nat} {xs : List Int} {cs : Array Value} (k : Blk wr b 28 cs) (hb : w.heap.size ≤ b) (hO : Own wr w.heap.size 2 A n c (ints xs)) (hd : Dr g T w wr) :
    Own ((wr.setCell ⟨b, 0, none⟩ (.int .i64 P)).setCell ⟨b, 1, none⟩ (.slice A n c)) w.heap.size 2 A n c (ints xs) ∧ Dr g T w ((wr.setCell ⟨b, 0, none⟩ (.int .i64 P)).setCell ⟨b, 1, none⟩ (.slice A n c)) :=
  ⟨(hO.far k (by decide) 0 _).far (k.set_ 0 (.int .i64 P)) (by decide) 1 _, (hd.setNew hb 0 _).setNew hb 1 _⟩
/-- The value is a number. -/
def VNum : VP := ⟨fun v _ => ∃ r : Int, v = .int .i64 r, fun _ _ _ h _ => h⟩
theorem Own.set_ {w : World} {E : TypeId} {B g : Nat} {n c : Nat} {us : List Value} (h : Own w B E (some ⟨g, 0, none⟩) n c us) (k : Nat) (u : Value) : Own (w.setCell ⟨g, k, none⟩ u) B E (some ⟨g, 0, none⟩) n c (us.set k u) ∧ w.grownBy (w.setCell ⟨g, k, none⟩ u) (some g) := World.ownsRow.stored h k u
set_option maxHeartbeats 3200000 in
set_option maxRecDepth 8000 in
theorem l03Spoil_any (g : Nat) (w : World) (hs : Src w g 121) :
    Calls Tryz.prog 70 #[.pointer (some ⟨g, 0, none⟩)] w fun e w' => ∃ (P : Int) (A : Option Addr) (n c : Nat) (xs : List Int), e = .returned (.agg #[.int .i64 P, .slice A n c]) ∧ P ≤ 17 ∧ n ≤ 7 ∧ Own w' w.heap.size 2 A n c (ints xs) ∧ Dr g 121 w w' := by
  have hd1 := (Dr.refl hs).alloc (.cells #[.int .i64 0, .slice none 0 0] 28)
  have k1 : Blk (w.alloc (.cells #[.int .i64 0, .slice none 0 0] 28)) w.heap.size 28 #[.int .i64 0, .slice none 0 0] := Blk.new _ _ _
  have hdr := l03Draw_any g (w.alloc (.cells #[.int .i64 0, .slice none 0 0] 28)) hd1.s'
  have hsw : (w.alloc (.cells #[.int .i64 0, .slice none 0 0] 28)).heap.size = w.heap.size + 1 := by simp
  go_enter Tryz.func70, Tryz.ntmps70
  go_wp2_with fail
  refine hdr.mono ?_
  rintro e w2 ⟨P, A, n, c, xs, rfl, hP1, hP2, hn1, hn2, hO, hd2⟩
  have hs2 := hd2.size
  have hlt2 : w.heap.size < w2.heap.size := by omega
  have hd3 := (hd1.trans hd2).alloc (.cells #[.int .i64 P, .slice A n c] 28)
  have k3 := (k1.dr hd2 (by decide)).alloc (.cells #[.int .i64 P, .slice A n c] 28)
  have kb3 : Blk (w2.alloc (.cells #[.int .i64 P, .slice A n c] 28)) w2.heap.size 28 #[.int .i64 P, .slice A n c] := Blk.new _ _ _
  have hO3 := (hO.base (B' := w.heap.size) (by omega)).below ((Below.refl _ _).alloc (Nat.le_refl _) (.cells #[.int .i64 P, .slice A n c] 28))
  have hnx := next_any g 40 _ hd3.s' (by omega)
  clear hdr hd1 k1 hsw hd2 hs2 hO
  go_wp2_with fail
  refine hnx.mono ?_
  rintro e w3 ⟨r, rfl, hr1, hr2, hd4⟩
  have hd5 := hd3.trans hd4
  have k5 := k3.dr hd4 (by decide)
  have kb5 := kb3.dr hd4 (by decide)
  have hO5 := hO3.dr hd4 (by decide)
  clear hnx hd3 k3 kb3 hO3 hd4
  by_cases h0 : r = 0
  · have e0 : (r == 0) = true := by simp [h0]
    obtain ⟨q0, q1⟩ := kb5.two
    have hd6 := (Dr.refl hd5.s').alloc (.cells #[.int .i64 4, .int .i64 1, .int .i64 17, .int .i64 0] 2)
    have hpk := pick_any g w3.heap.size [4, 1, 17, 0] _ hd6.s' (Blk.new w3 2 _) (by decide) (by decide)
    go_wp2_with fail
    refine hpk.mono ?_
    rintro e w4 ⟨P2, hP, rfl, hd7⟩
    have hd67 := hd6.trans hd7
    have k7 := k5.dr hd67 (by decide)
    have kb7 := kb5.dr hd67 (by decide)
    have hO7 := hO5.dr hd67 (by decide)
    have hd8 := hd5.trans hd67
    obtain ⟨p0, p1⟩ := k7.two
    have f0 := k7.frozen 0
    have f1 := k7.frozen 1
    have g0 := kb7.frozen 0
    have g1 := kb7.cell 0
    have g2 := kb7.cell 1
    simp only [List.getElem?_toArray, List.getElem?_cons_zero, List.getElem?_cons_succ] at g1 g2
    clear hpk hd6 hd7 hd67 k5 kb5 hO5 hd5 q0 q1
    go_wp2
    have k8 := k7.far (p := ⟨w2.heap.size, 0, none⟩) (show w.heap.size ≠ w2.heap.size by omega) (.int .i64 P2)
    have hO8 := hO7.far kb7 (by decide) 0 (.int .i64 P2)
    have hd9 := hd8.setNew (b := w2.heap.size) (by omega) 0 (.int .i64 P2)
    obtain ⟨w5, hw5⟩ : ∃ W, W = w4.setCell ⟨w2.heap.size, 0, none⟩ (.int .i64 P2) := ⟨_, rfl⟩
    rw [← hw5] at k8 hO8 hd9 ⊢
    obtain ⟨p0, p1⟩ := k8.two
    first | exact bodyPost_ret (v := .agg #[.int .i64 P2, .slice A n c]) (by simp [results, Tryz.results70, go_sem, p0, p1]) rfl ⟨P2, A, n, c, xs, rfl, by simp at hP; omega, by omega, (space_back k8 (Nat.le_refl _) hO8 hd9).1, (space_back k8 (Nat.le_refl _) hO8 hd9).2⟩ | exact bodyPost_ret (v := .agg #[.int .i64 P2, .slice A n c]) (by simp [results, Tryz.results70, go_sem, p0, p1]) rfl ⟨P2, A, n, c, rfl, by simp at hP; omega, by omega, ⟨xs, (space_back k8 (Nat.le_refl _) hO8 hd9).1⟩, (space_back k8 (Nat.le_refl _) hO8 hd9).2⟩
  · have e0 : (r == 0) = false := by simp [h0]
    by_cases h1 : r = 1
    · have e1 : (r == 1) = true := by simp [h1]
      rcases hO5.form with ⟨_, hz⟩ | ⟨gA, rfl, hg1, hg2⟩
      · omega
      obtain ⟨q0, q1⟩ := kb5.two
      have i1 : (0 : Int) < (n : Int) := by omega
      have i2 : 0 < n := by omega
      go_wp2
      refine wp_obsR 8 (Dr g 121) [[], [0], [], [], [3], [3, 4], [2, 3, 4, 5], [0, 1], [0, 1, 2, 3, 4, 5, 6, 7]] [[], [], [], [], [], [], [5], []] (fun x => [VIs (.pointer (some ⟨w2.heap.size, 1, none⟩)), VIs (.slice (some ⟨gA, 0, none⟩) n c), VIs (.pointer (some ⟨g, 0, none⟩)), VIs (.pointer (some ⟨w2.heap.size, 0, none⟩)), VIs (.int .i64 (P)), VBs 2 #[.int .i64 (-1), .int .i64 P], VNum, VIs (.pointer (some ⟨gA, 0, none⟩))]) (fun w' => Blk w' w.heap.size 28 #[.int .i64 0, .slice none 0 0] ∧ Blk w' w2.heap.size 28 #[.int .i64 P, .slice (some ⟨gA, 0, none⟩) n c] ∧ Own w' w.heap.size 2 (some ⟨gA, 0, none⟩) n c (ints xs) ∧ Dr g 121 w w') (by kernel_rfl) (by kernel_rfl) (fun x x' j hx => by
          rcases j with _ | _ | _ | _ | _ | _ | _ | _ | j
          · rfl
          · rfl
          · rfl
          · rfl
          · rfl
          · rfl
          · rfl
          · rfl
          · rfl)
        (weak_ofR [0, 1, 2, 3, 4, 7] (by decide) (fun k hk x v w w' hp hr => by
          simp only [List.mem_cons, List.not_mem_nil, or_false] at hk
          rcases hk with rfl | rfl | rfl | rfl | rfl | rfl
          · exact hp
          · exact hp
          · exact hp
          · exact hp
          · exact hp
          · exact hp)) (fun j _ _ h hb => hb.either (fun hb => ⟨h.1.below hb h.1.lt, h.2.1.below hb h.2.1.lt, h.2.2.1.below hb, h.2.2.2.then hb⟩) (fun hr => ⟨h.1.dr hr (by decide), h.2.1.dr hr (by decide), h.2.2.1.dr hr (by decide), h.2.2.2.trans hr⟩)) (⟨k5.drew, kb5.drew, hO5.below (Below.refl _ _).drew, hd5.then (Below.refl _ _).drew⟩) (fun x => ?_)
      refine obs_stepR (Eq.trans (by simp only [List.getElem?_toArray, List.getElem?_cons_zero]; exact rfl) rfl) rfl (fun w' hS hV K hK => ?_) ?_
      · obtain ⟨q0, q1⟩ := hS.2.1.two
        go_simp
        exact hK.out _ _ _ rfl rfl rfl (Below.refl _ _)
      simp only [List.setIfInBounds_toArray, List.set_cons_zero, List.set_cons_succ]
      refine obs_stepR (Eq.trans (by simp only [List.getElem?_toArray, List.getElem?_cons_succ, List.getElem?_cons_zero]; exact rfl) rfl) rfl (fun w' hS hV K hK => ?_) ?_
      · have e0 : x 0 = (.pointer (some ⟨w2.heap.size, 1, none⟩)) := hV 0 (by decide)
        obtain ⟨q0, q1⟩ := hS.2.1.two
        go_simp
        exact hK.out _ _ _ rfl rfl rfl (Below.refl _ _)
      simp only [List.setIfInBounds_toArray, List.set_cons_zero, List.set_cons_succ]
      refine obs_stepR (Eq.trans (by simp only [List.getElem?_toArray, List.getElem?_cons_succ, List.getElem?_cons_zero]; exact rfl) rfl) rfl (fun w' hS hV K hK => ?_) ?_
      · obtain ⟨q0, q1⟩ := hS.2.1.two
        go_simp
        exact hK.out _ _ _ rfl rfl rfl (Below.refl _ _)
      simp only [List.setIfInBounds_toArray, List.set_cons_zero, List.set_cons_succ]
      refine obs_stepR (Eq.trans (by simp only [List.getElem?_toArray, List.getElem?_cons_succ, List.getElem?_cons_zero]; exact rfl) rfl) rfl (fun w' hS hV K hK => ?_) ?_
      · obtain ⟨q0, q1⟩ := hS.2.1.two
        go_simp
        exact hK.out _ _ _ rfl rfl rfl (Below.refl _ _)
      simp only [List.setIfInBounds_toArray, List.set_cons_zero, List.set_cons_succ]
      refine obs_stepR (Eq.trans (by simp only [List.getElem?_toArray, List.getElem?_cons_succ, List.getElem?_cons_zero]; exact rfl) rfl) rfl (fun w' hS hV K hK => ?_) ?_
      · have e3 : x 3 = (.pointer (some ⟨w2.heap.size, 0, none⟩)) := hV 3 (by decide)
        obtain ⟨q0, q1⟩ := hS.2.1.two
        go_simp
        exact hK.out _ _ _ rfl rfl rfl (Below.refl _ _)
      simp only [List.setIfInBounds_toArray, List.set_cons_zero, List.set_cons_succ]
      refine obs_stepR (Eq.trans (by simp only [List.getElem?_toArray, List.getElem?_cons_succ, List.getElem?_cons_zero]; exact rfl) rfl) rfl (fun w' hS hV K hK => ?_) ?_
      · have e3 : x 3 = (.pointer (some ⟨w2.heap.size, 0, none⟩)) := hV 3 (by decide)
        have e4 : x 4 = (.int .i64 (P)) := hV 4 (by decide)
        obtain ⟨q0, q1⟩ := hS.2.1.two
        go_simp
        exact hK.out _ _ _ rfl rfl ⟨_, rfl, Blk.new _ _ _⟩ ((Below.refl _ _).alloc (Nat.le_refl _) _)
      simp only [List.setIfInBounds_toArray, List.set_cons_zero, List.set_cons_succ]
      refine obs_stepR (Eq.trans (by simp only [List.getElem?_toArray, List.getElem?_cons_succ, List.getElem?_cons_zero]; exact rfl) rfl) rfl (fun w' hS hV K hK => ?_) ?_
      · have e2 : x 2 = (.pointer (some ⟨g, 0, none⟩)) := hV 2 (by decide)
        have e3 : x 3 = (.pointer (some ⟨w2.heap.size, 0, none⟩)) := hV 3 (by decide)
        have e4 : x 4 = (.int .i64 (P)) := hV 4 (by decide)
        obtain ⟨G5, e5, b5⟩ := hV 5 (by decide)
        obtain ⟨q0, q1⟩ := hS.2.1.two
        go_simp
        refine (pick_any g G5 [-1, P] _ hS.2.2.2.s' (by rw [ints2]; exact b5) (by simp) (by simp)).mono ?_
        rintro e v1 ⟨r1, _, rfl, hr⟩
        exact hK.out _ _ _ rfl rfl ⟨_, rfl⟩ hr
      simp only [List.setIfInBounds_toArray, List.set_cons_zero, List.set_cons_succ]
      refine obs_stepR (Eq.trans (by simp only [List.getElem?_toArray, List.getElem?_cons_succ, List.getElem?_cons_zero]; exact rfl) rfl) rfl (fun w' hS hV K hK => ?_) ?_
      · have e0 : x 0 = (.pointer (some ⟨w2.heap.size, 1, none⟩)) := hV 0 (by decide)
        have e1 : x 1 = (.slice (some ⟨gA, 0, none⟩) n c) := hV 1 (by decide)
        obtain ⟨q0, q1⟩ := hS.2.1.two
        go_simp
        exact hK.out _ _ _ rfl rfl rfl (Below.refl _ _)
      simp only [List.setIfInBounds_toArray, List.set_cons_zero, List.set_cons_succ]
      refine fun w' hS hV => ?_
      have e0 : x 0 = (.pointer (some ⟨w2.heap.size, 1, none⟩)) := hV 0 (by decide)
      have e1 : x 1 = (.slice (some ⟨gA, 0, none⟩) n c) := hV 1 (by decide)
      have e2 : x 2 = (.pointer (some ⟨g, 0, none⟩)) := hV 2 (by decide)
      have e3 : x 3 = (.pointer (some ⟨w2.heap.size, 0, none⟩)) := hV 3 (by decide)
      have e4 : x 4 = (.int .i64 (P)) := hV 4 (by decide)
      obtain ⟨rv, e6⟩ := hV 6 (by decide)
      have e7 : x 7 = (.pointer (some ⟨gA, 0, none⟩)) := hV 7 (by decide)
      simp only [e0, e1, e2, e3, e4, e6, e7]
      clear e0 e1 e2 e3 e4 e6 e7
      obtain ⟨k6, kb6, hO6, hd6⟩ := hS
      obtain ⟨w6, rfl⟩ : ∃ W, W = w' := ⟨_, rfl⟩
      obtain ⟨gB, oB, eB, hxB, hcB⟩ := hO6.rd.int (show 0 < n by omega)
      injection eB with eB
      injection eB with eB1 eB2 _
      subst eB1; subst eB2
      rw [Nat.zero_add] at hcB
      have ff := hO6.frozen_ 0
      refine any_one (j := 8) (by kernel_rfl) (Eq.trans (by simp only [List.getElem?_toArray, List.getElem?_cons_succ, List.getElem?_cons_zero]; exact rfl) rfl) (fun K hK => ?_)
      go_simp
      refine hK.out _ _ (wpAny_done (by kernel_rfl) ?_ _)
      obtain ⟨hO7, hg7⟩ := hO6.set_ 0 (.int .i64 rv)
      rw [ints_set] at hO7
      have k7 := k6.grown hg7 (hO6.ne_blk k6 (by decide))
      have kb7 := kb6.grown hg7 (hO6.ne_blk kb6 (by decide))
      have hd7 := hd6.grown hO6 hg7
      obtain ⟨w7, hw7⟩ : ∃ W, W = w6.setCell ⟨gA, 0, none⟩ (.int .i64 rv) := ⟨_, rfl⟩
      rw [← hw7] at hO7 k7 kb7 hd7 ⊢
      obtain ⟨p0, p1⟩ := k7.two
      have f0 := k7.frozen 0
      have f1 := k7.frozen 1
      obtain ⟨g1, g2⟩ := kb7.two
      clear q0 q1 k5 kb5 hO5 hd5 k6 kb6 hO6 hd6 hg7 hw7 hcB ff
      go_wp2
      first | exact bodyPost_ret (v := .agg #[.int .i64 P, .slice (some ⟨gA, 0, none⟩) n c]) (by simp [results, Tryz.results70, go_sem, p0, p1]) rfl ⟨P, (some ⟨gA, 0, none⟩), n, c, (xs.set 0 rv), rfl, by omega, by omega, (space_back k7 (Nat.le_refl _) hO7 hd7).1, (space_back k7 (Nat.le_refl _) hO7 hd7).2⟩ | exact bodyPost_ret (v := .agg #[.int .i64 P, .slice (some ⟨gA, 0, none⟩) n c]) (by simp [results, Tryz.results70, go_sem, p0, p1]) rfl ⟨P, (some ⟨gA, 0, none⟩), n, c, rfl, by omega, by omega, ⟨(xs.set 0 rv), (space_back k7 (Nat.le_refl _) hO7 hd7).1⟩, (space_back k7 (Nat.le_refl _) hO7 hd7).2⟩
    · have e1 : (r == 1) = false := by simp [h1]
      by_cases h2 : r = 2
      · have e2 : (r == 2) = true := by simp [h2]
        have kA := k5.alloc (.cells #[] 2)
        have kbA := kb5.alloc (.cells #[] 2)
        have hdA := hd5.alloc (.cells #[] 2)
        have hOA : Own (w3.alloc (.cells #[] 2)) w.heap.size 2 (some ⟨w3.heap.size, 0, none⟩) 0 0 (ints []) := Own.of_cells (cs := #[]) (Nat.le_trans (Nat.le_of_lt hlt2) (Nat.le_trans (Nat.le_of_lt kb5.lt) (Nat.le_refl _))) (Blk.new w3 2 #[]) (by simp [maxLen])
        obtain ⟨p0, p1⟩ := kA.two
        have f0 := kA.frozen 0
        have f1 := kA.frozen 1
        obtain ⟨g1, g2⟩ := kbA.two
        have g0 := kbA.frozen 1
        go_wp2
        have k8 := kA.far (p := ⟨w2.heap.size, 1, none⟩) (show w.heap.size ≠ w2.heap.size by omega) (.slice (some ⟨w3.heap.size, 0, none⟩) 0 0)
        have hO8 := hOA.far kbA (by decide) 1 (.slice (some ⟨w3.heap.size, 0, none⟩) 0 0)
        have hd9 := hdA.setNew (b := w2.heap.size) (by omega) 1 (.slice (some ⟨w3.heap.size, 0, none⟩) 0 0)
        obtain ⟨w5, hw5⟩ : ∃ W, W = (w3.alloc (.cells #[] 2)).setCell ⟨w2.heap.size, 1, none⟩ (.slice (some ⟨w3.heap.size, 0, none⟩) 0 0) := ⟨_, rfl⟩
        rw [← hw5] at k8 hO8 hd9 ⊢
        obtain ⟨p0, p1⟩ := k8.two
        first | exact bodyPost_ret (v := .agg #[.int .i64 P, .slice (some ⟨w3.heap.size, 0, none⟩) 0 0]) (by simp [results, Tryz.results70, go_sem, p0, p1]) rfl ⟨P, (some ⟨w3.heap.size, 0, none⟩), 0, 0, [], rfl, by omega, by omega, (space_back k8 (Nat.le_refl _) hO8 hd9).1, (space_back k8 (Nat.le_refl _) hO8 hd9).2⟩ | exact bodyPost_ret (v := .agg #[.int .i64 P, .slice (some ⟨w3.heap.size, 0, none⟩) 0 0]) (by simp [results, Tryz.results70, go_sem, p0, p1]) rfl ⟨P, (some ⟨w3.heap.size, 0, none⟩), 0, 0, rfl, by omega, by omega, ⟨[], (space_back k8 (Nat.le_refl _) hO8 hd9).1⟩, (space_back k8 (Nat.le_refl _) hO8 hd9).2⟩
      · have e2 : (r == 2) = false := by simp [h2]
        by_cases h3 : r = 3
        · have e3 : (r == 3) = true := by simp [h3]
          go_wp2
          go_loopw [] (fun wr => ∃ (j : Nat) (A1 : Option Addr) (c1 : Nat) (xs1 : List Int), j ≤ 7 ∧ Blk wr w.heap.size 28 #[.int .i64 0, .slice none 0 0] ∧ Blk wr w2.heap.size 28 #[.int .i64 P, .slice A1 j c1] ∧ Own wr w.heap.size 2 A1 j c1 (ints xs1) ∧ Dr g 121 w wr) (fun wr => 7 - (match wr.cell? ⟨w2.heap.size, 1, none⟩ with | some (.slice _ l _) => l | _ => 0))
          case atStart => exact ⟨n, A, c, xs, by omega, k5, kb5, hO5, hd5⟩
          case round =>
            obtain ⟨j, A1, c1, xs1, hj, k6, kb6, hO6, hd6⟩ := hrel
            clear k5 kb5 hO5 hd5
            obtain ⟨q0, q1⟩ := kb6.two
            by_cases hlt : j < 7
            · have d7 : decide ((j : Int) < 7) = true := by rw [decide_eq_true_eq]; omega
              go_wp2_with (at_builtin; refine wpList_app1 (cutW wr w.heap.size) wr 22 2 _ _ Tryz.underlying22 info_i rfl (by omega) rfl _ _ rfl A1 j c1 _ _ (hO6.mk_ hd6.size) (by omega) rfl rfl rfl ?_; intro A8 c8 w8 hM8 hg8 _
                           have k4a := k6.grown hg8 (hO6.ne_blk k6 (by decide))
                           have k6a := kb6.grown hg8 (hO6.ne_blk kb6 (by decide))
                           have hO7 := hM8.own_ (cutW_size hd6.size)
                           have hd7 := hd6.grown hO6 hg8
                           have f8 := k6a.frozen 1
                           obtain ⟨f9, f10⟩ := k6a.two)
              have k4b := k4a.far (p := ⟨w2.heap.size, 1, none⟩) (show w.heap.size ≠ w2.heap.size by omega) (.slice A8 (j + 1) c8)
              have k6b := k6a.set_ 1 (.slice A8 (j + 1) c8)
              have hO8 := hO7.far k6a (by decide) 1 (.slice A8 (j + 1) c8)
              have hd8 := hd7.setNew (b := w2.heap.size) (by omega) 1 (.slice A8 (j + 1) c8)
              simp only [List.setIfInBounds_toArray, List.set_cons_zero, List.set_cons_succ] at k6b
              have hm2 := k6b.two.2
              clear k4a k6a hO7 hd7 f8 f9 f10 hM8 hg8
              go_roundw
              case rel => exact ⟨j + 1, A8, c8, xs1 ++ [1], by omega, k4b, k6b, by simpa [ints] using hO8, hd8⟩
              case measure =>
                simp only [hm2, q1]
                show 7 - (j + 1) < 7 - j
                omega
            · have d7 : decide ((j : Int) < 7) = false := by rw [decide_eq_false_iff_not]; omega
              obtain ⟨p0, p1⟩ := k6.two
              have f0 := k6.frozen 0
              have f1 := k6.frozen 1
              go_wp2
              first | exact bodyPost_ret (v := .agg #[.int .i64 P, .slice A1 j c1]) (by simp [results, Tryz.results70, go_sem, p0, p1]) rfl ⟨P, A1, j, c1, xs1, rfl, by omega, by omega, (space_back k6 (Nat.le_refl _) hO6 hd6).1, (space_back k6 (Nat.le_refl _) hO6 hd6).2⟩ | exact bodyPost_ret (v := .agg #[.int .i64 P, .slice A1 j c1]) (by simp [results, Tryz.results70, go_sem, p0, p1]) rfl ⟨P, A1, j, c1, rfl, by omega, by omega, ⟨xs1, (space_back k6 (Nat.le_refl _) hO6 hd6).1⟩, (space_back k6 (Nat.le_refl _) hO6 hd6).2⟩
        · have e3 : (r == 3) = false := by simp [h3]
          obtain ⟨p0, p1⟩ := k5.two
          have f0 := k5.frozen 0
          have f1 := k5.frozen 1
          obtain ⟨q0, q1⟩ := kb5.two
          go_wp2
          first | exact bodyPost_ret (v := .agg #[.int .i64 P, .slice A n c]) (by simp [results, Tryz.results70, go_sem, p0, p1]) rfl ⟨P, A, n, c, xs, rfl, by omega, by omega, (space_back k5 (Nat.le_refl _) hO5 hd5).1, (space_back k5 (Nat.le_refl _) hO5 hd5).2⟩ | exact bodyPost_ret (v := .agg #[.int .i64 P, .slice A n c]) (by simp [results, Tryz.results70, go_sem, p0, p1]) rfl ⟨P, A, n, c, rfl, by omega, by omega, ⟨xs, (space_back k5 (Nat.le_refl _) hO5 hd5).1⟩, (space_back k5 (Nat.le_refl _) hO5 hd5).2⟩
end Go.Proofs.YticofgmmjecleaaGreatDoor
namespace Go.Proofs.YticofgmmjecleaaGreatDoor
open Go Go.RowKit
theorem sum_two (n : Nat) (hn1 : 1 ≤ n) (hn : n ≤ 6) : DrC 115 n 7644 ((2 : Nat) : Int) := by
  have a0 := atom_draw n 0 0 hn1 hn (by decide) (by decide) (fun e h => by cases h)
  have s0 := sum_draw n 7 28 0 rfl (by decide) (by decide) a0
  have a1 := atom_draw n 84 1 hn1 hn (by decide) (by decide) (fun e h => by obtain rfl : e = 0 := by omega
                                                                            exact s0)
  have s1 := sum_draw n 91 280 1 rfl (by decide) (by decide) a1
  have a2 := atom_draw n 840 2 hn1 hn (by decide) (by decide) (fun e h => by obtain rfl : e = 1 := by omega
                                                                             exact s1)
  exact sum_draw n 847 2548 2 rfl (by decide) (by decide) a2
/-- How far a source is: what is left of its code, then the count of its number. -/
def dme (g nb : Nat) (M : Int → Nat) (w : World) : Nat :=
  match w.cell? ⟨g, 1, none⟩, w.cell? ⟨g, 2, none⟩ with
  | some (.int _ pl), some (.int _ h) => (nb - pl.toNat) * 288230376151711744 + M h
  | _, _ => 0
theorem SrcA.dme {w : World} {g : Nat} {T : TypeId} {nb pl : Nat} {h : Int} (s : SrcA w g T nb pl h) (M : Int → Nat) : dme g nb M w = (nb - pl) * 288230376151711744 + M h := by
  obtain ⟨c1, c2⟩ := s.cells
  unfold Proofs.YticofgmmjecleaaGreatDoor.dme
  rw [c1, c2]
  simp
/-- How long a text may have become. -/
def Lng (M : Int → Nat) (nb pl : Nat) (h : Int) (l : Nat) : Prop := (pl < nb ∧ l ≤ 8000 + 2 * pl) ∨ (pl = nb ∧ l + 2 * M h ≤ 288230376151728000)
theorem Lng.big {M : Int → Nat} {nb pl : Nat} {h : Int} {l : Nat} (x : Lng M nb pl h l) (hn : nb ≤ 4096) : l ≤ 288230376151728000 := by
  rcases x with ⟨h1, h2⟩ | ⟨h1, h2⟩ <;> omega
theorem Lng.next {M : Int → Nat} (hM : ∀ h, M h ≤ 144115188075855872) (hM2 : ∀ h h', (eqM h' (itI 2 h) ∨ eqM h' (itI 4 h)) → xI (gI h) % 5 = 0 → M h' < M h) {nb pl pl1 pl2 : Nat} {h h1 h2 : Int} {l l' : Nat} (x : Lng M nb pl h l) (hl : l' ≤ l + 2) (hn : nb ≤ 4096) (hp1 : pl1 = (if pl < nb then pl + 1 else pl)) (hp2 : pl1 ≤ pl2) (hp3 : pl2 ≤ nb)
    (e1 : eqM h1 (gI h)) (e2 : eqM h2 (gI h1) ∨ eqM h2 (itI 3 h1)) (hr : pl = nb → 0 = xI (gI h) % 5) :
    Lng M nb pl2 h2 l' ∧ (nb - pl2) * 288230376151711744 + M h2 < (nb - pl) * 288230376151711744 + M h := by
  have m2 := hM h2
  rcases x with ⟨hlt, hb⟩ | ⟨he, hb⟩
  · rw [if_pos hlt] at hp1
    refine ⟨?_, by omega⟩
    by_cases hq : pl2 < nb
    · exact .inl ⟨hq, by omega⟩
    · exact .inr ⟨by omega, by omega⟩
  · rw [if_neg (by omega)] at hp1
    have e3 : eqM h2 (itI 2 h) ∨ eqM h2 (itI 4 h) := e2.elim (fun e => .inl (eqM_trans e (eqM_step e1))) (fun e => .inr (eqM_trans e (it_mod 3 e1)))
    have m3 := hM2 h h2 e3 (hr he).symm
    exact ⟨.inr ⟨by omega, by omega⟩, by omega⟩
set_option maxHeartbeats 3200000 in
set_option maxRecDepth 8000 in
theorem l19Draw_any (g : Nat) (P : Int) (A : Option Addr) (n c : Nat) (sq : List Int) (w : World) (hs : Src w g 121) (hn : n ≤ 1048576) (ha : Rd w A n (ints sq)) :
    Calls Tryz.prog 80 #[.pointer (some ⟨g, 0, none⟩), .agg #[.int .i64 P, .slice A n c]] w fun e w' => DrawPost g 288230376151730000 w e w' := by
  have hB0 : Below w.heap.size w (w.alloc (.cells #[.int .i64 P, .slice A n c] 28)) := (Below.refl _ _).alloc (Nat.le_refl _) _
  have k0 : Blk (w.alloc (.cells #[.int .i64 P, .slice A n c] 28)) w.heap.size 28 #[.int .i64 P, .slice A n c] := Blk.new _ _ _
  have hd0 := Dr.of_below hs hB0
  cases hsp : isSp P sq
  · have his := l03Is_b P A n c sq _ (by omega) (ha.below hB0) hsp
    have HD0 := Lib.hid hd0
    clear hd0 hsp
    go_enter Tryz.func80, Tryz.ntmps80
    go_wp2_with fail
    refine his.mono ?_
    rintro e w1 ⟨rfl, hb1⟩
    have HD1 := Lib.hid (HD0.out.then hb1)
    go_wp2
    go_ret
    exact ⟨[49], rfl, by decide, HD1.out⟩
  have his := l03Is_b P A n c sq _ (by omega) (ha.below hB0) hsp
  obtain ⟨hP, hn1, hn6, hnum⟩ := isSp_dim hsp
  have hln : sq.length = n := ha.lenI
  rw [hln] at hn1 hn6
  have hsum := sum_two n hn1 hn6
  have HSUM := Lib.hid hsum
  have HD0 := Lib.hid hd0
  clear hd0 hsp hP hnum hln hn1 hn6 hsum ha hn
  go_enter Tryz.func80, Tryz.ntmps80
  go_wp2_with fail
  refine his.mono ?_
  rintro e w1 ⟨rfl, hb1⟩
  have k1 := k0.below hb1 k0.lt
  have hd1 := HD0.out.then hb1
  have hcall := HSUM.out g P A c w1 hd1.s'
  have HD1 := Lib.hid hd1
  clear his hb1 hB0 k0 HD0 hd1 HSUM
  obtain ⟨q0, q1⟩ := k1.two
  go_wp2_with fail
  refine hcall.mono ?_
  rintro e w2 ⟨t0, rfl, ht0, hd2⟩
  have hd02 := HD1.out.trans hd2
  obtain ⟨nb, pl0, h0, hs2⟩ := hd2.s'.at_
  obtain ⟨M, hM1, hM2⟩ := clock5
  have hle := hs2.le
  have HM1 := Lib.hid hM1
  have HM2 := Lib.hid hM2
  have HNB := Lib.hid hle.2
  have HL0 : Hid (Lng M nb pl0 h0 t0.length) := Lib.hid (by
    have := hM1 h0
    by_cases hq : pl0 < nb
    · exact .inl ⟨hq, by omega⟩
    · exact .inr ⟨by omega, by omega⟩)
  clear hcall hd2 HD1 k1 q0 q1 hM1 hM2 hle ht0
  go_wp2
  go_loopw [5] (fun tv wr => ∃ (pl : Nat) (h : Int) (t : By), tv = .string ⟨t.toArray⟩ ∧ SrcA wr g 121 nb pl h ∧ Dr g 121 w wr ∧ Hid (Lng M nb pl h t.length)) (fun _ wr => dme g nb M wr)
  case atStart => exact ⟨pl0, h0, t0, rfl, hs2, hd02, HL0⟩
  case round =>
    obtain ⟨pl, h, t, rfl, hs3, hd3, hl3⟩ := hrel
    clear hs2 hd02 HL0
    have hdm := hs3.dme M
    have hnx := next_at g 5 nb pl h wr hs3 (by omega) (by omega)
    have HDM := Lib.hid hdm
    have HD3 := Lib.hid hd3
    clear hs3 hd3 hdm
    go_wp2_with fail
    refine hnx.mono ?_
    rintro e w4 ⟨r, rfl, hr0, hr1, hd4, pl4, h4, hs4, hp4, he4, hx4⟩
    have HD4 := Lib.hid (HD3.out.trans hd4)
    clear hnx HD3
    by_cases hr : r = 0
    · subst hr
      have hdg := damage_at g nb pl4 h4 t w4 hs4 (by have := hl3.out.big HNB.out; omega)
      have HP4 := Lib.hid hp4
      have HE4 := Lib.hid he4
      have HX4 := Lib.hid hx4
      clear hs4 hd4 hp4 he4 hx4 hr1
      go_wp2_with fail
      refine hdg.mono ?_
      rintro e w5 ⟨t5, rfl, ht5, hd5, pl5, h5, hs5, hp5, he5⟩
      have HN : Hid (Lng M nb pl5 h5 t5.length ∧ (nb - pl5) * 288230376151711744 + M h5 < (nb - pl) * 288230376151711744 + M h) := Lib.hid (hl3.out.next HM1.out HM2.out ht5 HNB.out HP4.out hp5 hs5.le.1 HE4.out he5 HX4.out)
      have HDM5 := Lib.hid (hs5.dme M)
      have HD5 := Lib.hid (HD4.out.trans hd5)
      have HS5 := Lib.hid hs5
      clear hdg hd5 hs5 hp5 he5 ht5
      go_wp2
      go_roundw
      case rel => exact ⟨pl5, h5, t5, rfl, HS5.out, HD5.out, Lib.hid HN.out.1⟩
      case measure => rw [HDM.out, HDM5.out]; exact HN.out.2
    · have hr' : (r == 0) = false := by simpa using hr
      have hbig := hl3.out.big HNB.out
      have hnx := next_any g 40 w4 hs4.src (by omega)
      clear hs4 hd4 hp4 he4 hx4 hr1 hl3
      go_wp2_with fail
      refine hnx.mono ?_
      rintro e w6 ⟨r6, rfl, h60, h61, hd6⟩
      have HD6 := Lib.hid (HD4.out.trans hd6)
      have HBIG := Lib.hid hbig
      clear hnx hd6 h61 hbig
      by_cases f0 : r6 = 0
      · subst f0
        go_wp2
        go_loop [5] (fun tv => ∃ (t : By), tv = .string ⟨t.toArray⟩ ∧ Hid (t.length ≤ 288230376151730000)) (fun tv => match tv with | .string s => 200 - s.size | _ => 0)
        case atStart => exact ⟨t, rfl, Lib.hid (by have := HBIG.out; omega)⟩
        case round =>
          obtain ⟨t, rfl, ht⟩ := hrel
          have hln := fun wx ty => str_len wx ty t
          by_cases h200 : t.length < 200
          · have d1 : decide ((t.length : Int) < 200) = true := decide_eq_true (by omega)
            have hct := fun wx => cat_big (P := Tryz.prog) wx t [43, 49] (by have := ht.out; simp only [List.length_cons, List.length_nil]; omega)
            have hl2 : (t ++ [43, 49]).length = t.length + 2 := by simp
            have hz1 : (ByteArray.mk (t ++ [43, 49]).toArray).size = (t ++ [43, 49]).length := bs_len _
            have hz2 : (ByteArray.mk t.toArray).size = t.length := bs_len _
            generalize t ++ [43, 49] = u at *
            have HU := Lib.hid hl2
            have HZ1 := Lib.hid hz1
            have HZ2 := Lib.hid hz2
            have H2 := Lib.hid h200
            clear hl2 hz1 hz2 h200
            go_wp2
            go_round
            case rel => exact ⟨u, rfl, Lib.hid (by have := HU.out; have := H2.out; omega)⟩
            case measure => show 200 - _ < 200 - _; rw [HZ1.out, HZ2.out]; have := HU.out; have := H2.out; omega
          · have d1 : decide ((t.length : Int) < 200) = false := decide_eq_false (by omega)
            clear h200
            go_wp2
            go_ret
            exact ⟨t, rfl, ht.out, HD6.out⟩
      · have f0' : (r6 == 0) = false := by simpa using f0
        by_cases f1 : r6 = 1
        · subst f1
          go_wp2
          go_loop [5] (fun tv => ∃ (t : By), tv = .string ⟨t.toArray⟩ ∧ Hid (t.length ≤ 288230376151730000)) (fun tv => match tv with | .string s => 200 - s.size | _ => 0)
          case atStart => exact ⟨t, rfl, Lib.hid (by have := HBIG.out; omega)⟩
          case round =>
            obtain ⟨t, rfl, ht⟩ := hrel
            have hln := fun wx ty => str_len wx ty t
            by_cases h200 : t.length < 198
            · have d1 : decide ((t.length : Int) < 198) = true := decide_eq_true (by omega)
              have hct := fun wx => cat_big (P := Tryz.prog) wx [45] t (by have := ht.out; simp only [List.length_cons, List.length_nil]; omega)
              have hl2 : ([45] ++ t).length = t.length + 1 := by simp
              have hz1 : (ByteArray.mk ([45] ++ t).toArray).size = ([45] ++ t).length := bs_len _
              have hz2 : (ByteArray.mk t.toArray).size = t.length := bs_len _
              generalize [45] ++ t = u at *
              have HU := Lib.hid hl2
              have HZ1 := Lib.hid hz1
              have HZ2 := Lib.hid hz2
              have H2 := Lib.hid h200
              clear hl2 hz1 hz2 h200
              go_wp2
              go_round
              case rel => exact ⟨u, rfl, Lib.hid (by have := HU.out; have := H2.out; omega)⟩
              case measure => show 200 - _ < 200 - _; rw [HZ1.out, HZ2.out]; have := HU.out; have := H2.out; omega
            · have d1 : decide ((t.length : Int) < 198) = false := decide_eq_false (by omega)
              clear h200
              go_wp2
              go_ret
              exact ⟨t, rfl, ht.out, HD6.out⟩
        · have f1' : (r6 == 1) = false := by simpa using f1
          go_wp2
          go_ret
          exact ⟨t, rfl, by have := HBIG.out; omega, HD6.out⟩
end Go.Proofs.YticofgmmjecleaaGreatDoor
namespace Go.Proofs.YticofgmmjecleaaGreatDoor
open Go.RowKit
set_option maxHeartbeats 400000 in
set_option maxRecDepth 8000 in
theorem l04Zero_any (P : Int) (A : Option Addr) (n c : Nat) (w : World) (hn : n ≤ 10) :
    Calls Tryz.prog 51 #[.agg #[.int .i64 P, .slice A n c]] w fun e w' => ∃ A' c', e = .returned (.slice A' (pw n) c') ∧ MkI w w' A' (pw n) c' (List.replicate (pw n) 0) := by
  have hp : pw n ≤ 1024 := pw_le hn
  have hmk := make_i (P := Tryz.prog) 22 2 Tryz.underlying22 info_i (pw n) (by omega)
  go_enter Tryz.func51, Tryz.ntmps51
  go_wp2_with (go_at_call 74; refine (l04Size_any _ _ _ _ _ (by omega)).mono ?_; rintro e w1 ⟨rfl, hb1⟩)
  go_ret
  have hb2 := (((Below.refl _ _).alloc (Nat.le_refl _) _).trans (hb1.mono (by simp)))
  exact ⟨_, _, rfl, by have := Mk.made (E := 2) (n := pw n) (z := .int .i64 0) hb2 (by simp only [maxLen]; omega); rwa [ints_replicate] at this⟩
end Go.Proofs.YticofgmmjecleaaGreatDoor
namespace Go.Proofs.YticofgmmjecleaaGreatDoor
open Go.RowKit
/-- The value is a list of n numbers of the field that was made since the heap had B blocks. -/
def VLs (B n : Nat) (P : Int) : VP := ⟨fun v w => ∃ (A : Option Addr) (c : Nat) (xs : List Int), v = .slice A n c ∧ xs.length = n ∧ NumsL P xs ∧ Own w B 2 A n c (ints xs), fun _ _ _ ⟨A, c, xs, e, hl, hn, ho⟩ hb => ⟨A, c, xs, e, hl, hn, ho.below hb⟩⟩
theorem VLs.dr {B n g : Nat} {P : Int} {T : TypeId} {v : Value} {w w' : World} (h : (VLs B n P).p v w) (d : Dr g T w w') (hT : 2 ≠ T) : (VLs B n P).p v w' := by
  obtain ⟨A, c, xs, e, hl, hn, ho⟩ := h
  refine ⟨A, c, xs, e, ?_, hn, ho.dr d hT⟩
  exact hl
theorem nums_of {P : Int} {xs : List Int} (hp : 1 ≤ P) (h : ∀ x ∈ xs, 0 ≤ x ∧ (1 ≤ P → x < P)) : NumsL P xs := fun x hx => ⟨(h x hx).1, (h x hx).2 hp⟩
end Go.Proofs.YticofgmmjecleaaGreatDoor
namespace Go.Proofs.YticofgmmjecleaaGreatDoor
open Go.RowKit
/-- The value is a list of at most 100 numbers that was made since the heap had B blocks. -/
def VLx (B : Nat) : VP := ⟨fun v w => ∃ (A : Option Addr) (m c : Nat) (xs : List Int), v = .slice A m c ∧ m ≤ 100 ∧ Own w B 2 A m c (ints xs), fun _ _ _ ⟨A, m, c, xs, e, hm, ho⟩ hb => ⟨A, m, c, xs, e, hm, ho.below hb⟩⟩
theorem VLx.dr {B g : Nat} {T : TypeId} {v : Value} {w w' : World} (h : (VLx B).p v w) (d : Dr g T w w') (hT : 2 ≠ T) : (VLx B).p v w' := by
  obtain ⟨A, m, c, xs, e, hm, ho⟩ := h
  exact ⟨A, m, c, xs, e, hm, ho.dr d hT⟩
end Go.Proofs.YticofgmmjecleaaGreatDoor
namespace Go.Proofs.YticofgmmjecleaaGreatDoor
open Go Go.RowKit
/-- Some text, not too long. -/
def VTx : VP := ⟨fun v _ => ∃ t : By, v = .string ⟨t.toArray⟩ ∧ t.length ≤ 288230376151730000, fun _ _ _ h _ => h⟩
def DrewT (w : World) (e : Ending) (w' : World) : Prop := ∃ (P : Int) (A : Option Addr) (n c : Nat) (sq : List Int) (t : By), e = .returned (.tuple #[.agg #[.int .i64 P, .slice A n c], .string ⟨t.toArray⟩]) ∧ P ≤ 17 ∧ n ≤ 7 ∧ t.length ≤ 288230376151730000 ∧ Own w' w.heap.size 2 A n c (ints sq) ∧ Below w.heap.size w w'
set_option maxHeartbeats 6400000 in
set_option maxRecDepth 8000 in
theorem DrawEvaluateText_any (B : Option Addr) (nb cb : Nat) (bs : List Int) (w : World) (hnb : nb ≤ 4096) (r : Rd w B nb (bs.map (Value.int .u8))) (hbs : ∀ b ∈ bs, 0 ≤ b ∧ b < 256) (hbg : ∀ a, B = some a → a.block < w.heap.size) :
    Calls Tryz.prog 38 #[.slice B nb cb] w (DrewT w) := by
  have hB0 : Below w.heap.size w (w.alloc (.cells #[.int .i64 0, .slice none 0 0] 28)) := (Below.refl _ _).alloc (Nat.le_refl _) _
  have k0 : Blk (w.alloc (.cells #[.int .i64 0, .slice none 0 0] 28)) w.heap.size 28 #[.int .i64 0, .slice none 0 0] := Blk.new _ _ _
  have hfr := from__any B nb cb bs (w.alloc (.cells #[.int .i64 0, .slice none 0 0] 28)) hnb (r.below hB0) hbs (fun a e => by have := hbg a e; simp; omega)
  go_enter Tryz.func38, Tryz.ntmps38
  go_wp2_with fail
  refine hfr.mono ?_
  rintro e w2 ⟨g, rfl, hg, hs2, hb2⟩
  have k2 := k0.below hb2 k0.lt
  have hB2 := hB0.trans (hb2.mono hB0.size)
  have hw := hB2.size
  have hgw : w.heap.size ≤ g := Nat.le_trans hB0.size hg
  have hsp := l03Spoil_any g w2 hs2
  clear hfr hb2 k0 hB0 hg
  go_wp2_with fail
  refine hsp.mono ?_
  rintro e w3 ⟨P, A, n, c, sq, rfl, hP, hn, hO, hd3⟩
  have d4 := hd3.alloc (.cells #[.int .i64 P, .slice A n c] 28)
  have k4 := (k2.dr hd3 (by decide)).alloc (.cells #[.int .i64 P, .slice A n c] 28)
  have kb4 : Blk (w3.alloc (.cells #[.int .i64 P, .slice A n c] 28)) w3.heap.size 28 #[.int .i64 P, .slice A n c] := Blk.new _ _ _
  have o4 := (hO.base (B' := w.heap.size) hw).below ((Below.refl _ _).alloc (Nat.le_refl _) (.cells #[.int .i64 P, .slice A n c] 28))
  clear hsp k2 hO hd3
  obtain ⟨q0, q1⟩ := kb4.two
  go_wp2
  refine wp_obsR 4 (Dr g 121) [[], [], [], [1, 2], [0, 1, 2, 3], [0, 1, 2, 3]] [[], [], [], [99]] (fun x => [VIs (.agg #[.int .i64 P, .slice A n c]), VIs (.pointer (some ⟨g, 0, none⟩)), VIs (.agg #[.int .i64 P, .slice A n c]), VTx]) (fun w' => Blk w' w.heap.size 28 #[.int .i64 0, .slice none 0 0] ∧ Blk w' w3.heap.size 28 #[.int .i64 P, .slice A n c] ∧ Own w' w.heap.size 2 A n c (ints sq) ∧ Dr g 121 w2 w') (by kernel_rfl) (by kernel_rfl) (fun x x' j hx => by
      rcases j with _ | _ | _ | _ | j
      · rfl
      · rfl
      · rfl
      · rfl
      · rfl)
    (weak_ofR [0, 1, 2, 3] (by decide) (fun k hk x v w w' hp hr => by
      simp only [List.mem_cons, List.not_mem_nil, or_false] at hk
      rcases hk with rfl | rfl | rfl | rfl
      · exact hp
      · exact hp
      · exact hp
      · exact hp)) (fun j _ _ h hb => hb.either (fun hb => ⟨h.1.below hb h.1.lt, h.2.1.below hb h.2.1.lt, h.2.2.1.below hb, h.2.2.2.then hb⟩) (fun hr => ⟨h.1.dr hr (by decide), h.2.1.dr hr (by decide), h.2.2.1.dr hr (by decide), h.2.2.2.trans hr⟩)) (⟨k4.drew, kb4.drew, o4.below (Below.refl _ _).drew, d4.then (Below.refl _ _).drew⟩) (fun x => ?_)
  refine obs_stepR (Eq.trans (by simp only [List.getElem?_toArray, List.getElem?_cons_zero]; exact rfl) rfl) rfl (fun w' hS hV K hK => ?_) ?_
  · obtain ⟨q0, q1⟩ := hS.2.1.two
    go_simp
    exact hK.out _ _ _ rfl rfl rfl (Below.refl _ _)
  simp only [List.setIfInBounds_toArray, List.set_cons_zero, List.set_cons_succ]
  refine obs_stepR (Eq.trans (by simp only [List.getElem?_toArray, List.getElem?_cons_succ, List.getElem?_cons_zero]; exact rfl) rfl) rfl (fun w' hS hV K hK => ?_) ?_
  · obtain ⟨q0, q1⟩ := hS.2.1.two
    go_simp
    exact hK.out _ _ _ rfl rfl rfl (Below.refl _ _)
  simp only [List.setIfInBounds_toArray, List.set_cons_zero, List.set_cons_succ]
  refine obs_stepR (Eq.trans (by simp only [List.getElem?_toArray, List.getElem?_cons_succ, List.getElem?_cons_zero]; exact rfl) rfl) rfl (fun w' hS hV K hK => ?_) ?_
  · obtain ⟨q0, q1⟩ := hS.2.1.two
    go_simp
    exact hK.out _ _ _ rfl rfl rfl (Below.refl _ _)
  simp only [List.setIfInBounds_toArray, List.set_cons_zero, List.set_cons_succ]
  refine obs_stepR (Eq.trans (by simp only [List.getElem?_toArray, List.getElem?_cons_succ, List.getElem?_cons_zero]; exact rfl) rfl) rfl (fun w' hS hV K hK => ?_) ?_
  · have e1 : x 1 = (.pointer (some ⟨g, 0, none⟩)) := hV 1 (by decide)
    have e2 : x 2 = (.agg #[.int .i64 P, .slice A n c]) := hV 2 (by decide)
    obtain ⟨q0, q1⟩ := hS.2.1.two
    go_simp
    refine (l19Draw_any g P A n c sq w' hS.2.2.2.s' (by omega) hS.2.2.1.rd).mono ?_
    rintro e v1 ⟨t9, rfl, ht9, hd9⟩
    exact hK.out _ _ _ rfl rfl ⟨t9, rfl, ht9⟩ hd9
  simp only [List.setIfInBounds_toArray, List.set_cons_zero, List.set_cons_succ]
  refine fun w' hS hV => ?_
  have e0 : x 0 = (.agg #[.int .i64 P, .slice A n c]) := hV 0 (by decide)
  have e1 : x 1 = (.pointer (some ⟨g, 0, none⟩)) := hV 1 (by decide)
  have e2 : x 2 = (.agg #[.int .i64 P, .slice A n c]) := hV 2 (by decide)
  obtain ⟨t3, e3, l3⟩ := hV 3 (by decide)
  simp only [e0, e1, e2, e3]
  clear e0 e1 e2 e3
  obtain ⟨k5, kb5, o5, d5⟩ := hS
  obtain ⟨w6, rfl⟩ : ∃ W, W = w' := ⟨_, rfl⟩
  clear q0 q1 k4 kb4 o4 d4
  obtain ⟨p0, p1⟩ := k5.two
  have f0 := k5.frozen 0
  have f1 := k5.frozen 1
  refine any_one (j := 4) (by kernel_rfl) (Eq.trans (by simp only [List.getElem?_toArray, List.getElem?_cons_succ, List.getElem?_cons_zero]; exact rfl) rfl) (fun K hK => ?_)
  go_simp
  refine hK.out _ _ (any_one (j := 5) (by kernel_rfl) (Eq.trans (by simp only [List.getElem?_toArray, List.getElem?_cons_succ, List.getElem?_cons_zero]; exact rfl) rfl) (fun K hK => ?_))
  go_simp
  refine hK.out _ _ (wpAny_done (by kernel_rfl) ?_ _)
  have hf : ∀ {m d : Nat} {A2 : Option Addr} {xs : List Int}, Own w6 w.heap.size 2 A2 m d (ints xs) → Own ((w6.setCell ⟨w.heap.size, 0, none⟩ (.int .i64 P)).setCell ⟨w.heap.size, 1, none⟩ (.slice A n c)) w.heap.size 2 A2 m d (ints xs) := by
    intro m c' A' xs ho
    exact (ho.far k5 (by decide) 0 _).far (k5.set_ 0 (.int .i64 P)) (by decide) 1 _
  go_wp2
  exact bodyPost_ret (v := .tuple #[.agg #[.int .i64 P, .slice A n c], .string ⟨t3.toArray⟩]) (by simp [results, Tryz.results38, go_sem, p0, p1]) rfl ⟨P, A, n, c, sq, t3, rfl, hP, hn, l3, hf o5, hB2.trans (((d5.b.mono hgw).setCell (p := ⟨w.heap.size, 0, none⟩) (Nat.le_refl _) _).setCell (p := ⟨w.heap.size, 1, none⟩) (Nat.le_refl _) _)⟩
end Go.Proofs.YticofgmmjecleaaGreatDoor
namespace Go.Proofs.YticofgmmjecleaaGreatDoor
open Go
/-- One term read; all terms read. -/
def stepI (p : Int) (n : Nat) (x : List Int) (t : By) : List Int :=
  let c := Lib.cut t [101]
  match parN p (if c.2.2 = true ∧ (c.1 = [] ∨ c.1 = [45]) then c.1 ++ [49] else c.1) with
  | some a => x.set (if c.2.2 = true then (maskOf n (101 :: c.2.1)).getD 0 else 0) a
  | none => x
/-- The terms of the first places; signs ahead of all. -/
def termsTo (p : Int) (n : Nat) (x : List Int) : Nat → List By
  | 0 => []
  | k + 1 => if x.getD k 0 = 0 then termsTo p n x k else termsTo p n x k ++ [termL p n k (x.getD k 0)]
def sgnT (t : By) : By := if t.head? = some 45 then t else 43 :: t
def sgnC (ts : List By) : By := ts.flatMap sgnT
def lead : By → By
  | 43 :: t => t
  | t => t
def lead1 (t : By) : By := if t.head? = some 43 then t.tail else t
theorem sgnC_app (a b : List By) : sgnC (a ++ b) = sgnC a ++ sgnC b := List.flatMap_append
theorem sgnC_one (t : By) : sgnC [t] = sgnT t := by unfold sgnC; rw [List.flatMap_cons, List.flatMap_nil, List.append_nil]
section
variable {p : Int} {n : Nat}
theorem term_facts (hP : isP p = true) (hn : n ≤ 6) {m : Nat} (hm : m < pw n) {a : Int} (h0 : 0 ≤ a) (h1 : a < p) :
    okT (termL p n m a) ∧ ∀ x : List Int, stepI p n x (termL p n m a) = x.set m a := by
  obtain ⟨f1, f2⟩ := num_facts hP h0 h1
  obtain ⟨g1, g2, g3, g4⟩ := okN_parts f1
  by_cases hm0 : m = 0
  · subst hm0
    have e : termL p n 0 a = txtN p a := rfl
    rw [e]
    refine ⟨⟨g1, fun b hb => (g3 b hb).1, g4⟩, fun x => ?_⟩
    unfold stepI
    rw [cut_none fun b hb => (g3 b hb).2]
    simp only [Bool.false_eq_true, false_and, if_false]
    rw [f2]
  · obtain ⟨ds, hd, hds⟩ := nameTo_form m n hn
    have e : termL p n m a = numP p a ++ 101 :: ds := by
      unfold termL nameL
      rw [if_neg hm0, if_neg hm0, hd]
    obtain ⟨k1, k2, k3⟩ := numP_cases f1
    have hdn : ∀ b ∈ ds, b ≠ 43 ∧ b ≠ 45 := fun b hb => by
      have := hds b hb
      exact ⟨fun e => by rw [e] at this; revert this; decide, fun e => by rw [e] at this; revert this; decide⟩
    rw [e]
    refine ⟨⟨by simp, fun b hb => ?_, fun b hb => ?_⟩, fun x => ?_⟩
    · rcases List.mem_append.1 hb with h | h
      · exact (k1 b h).1
      · rcases List.mem_cons.1 h with h | h
        · rw [h]; decide
        · exact (hdn b h).1
    · cases hN : numP p a with
      | nil =>
        rw [hN] at hb
        exact (hdn b hb).2
      | cons c r =>
        rw [hN] at hb k2
        rcases List.mem_append.1 hb with h | h
        · exact k2 b h
        · rcases List.mem_cons.1 h with h | h
          · rw [h]; decide
          · exact (hdn b h).2
    · unfold stepI
      rw [cut_some fun b hb => (k1 b hb).2]
      simp only [true_and, if_true]
      rw [k3, f2]
      have hmk : maskOf n (101 :: ds) = some m := by
        have := mask_name hn hm
        unfold nameL at this
        rwa [if_neg hm0, hd] at this
      rw [hmk]; rfl
theorem term_head (hP : isP p = true) (hn : n ≤ 6) {m : Nat} (hm : m < pw n) {a : Int} (h0 : 0 ≤ a) (h1 : a < p) : (termL p n m a).head? ≠ some 43 := fun e => by
  have h := (term_facts hP hn hm h0 h1).1
  cases ht : termL p n m a with
  | nil => exact h.1 ht
  | cons c r =>
    rw [ht] at e
    injection e with e
    exact h.2.1 c (by rw [ht]; simp) e
theorem terms_ok (hP : isP p = true) (hn : n ≤ 6) {y : List Int} (hy : MuL p n y) : ∀ k, k ≤ pw n → ∀ t ∈ termsTo p n y k, okT t ∧ t.head? ≠ some 43
  | 0, _, t, h => by cases h
  | k + 1, hk, t, h => by
    unfold termsTo at h
    have hp := isP_ge hP
    have hb := hy.2.getD (show 0 < p by omega) k
    by_cases h0 : y.getD k 0 = 0
    · rw [if_pos h0] at h; exact terms_ok hP hn hy k (by omega) t h
    · rw [if_neg h0] at h
      rcases List.mem_append.1 h with h | h
      · exact terms_ok hP hn hy k (by omega) t h
      · rw [List.mem_singleton.1 h]
        exact ⟨(term_facts hP hn (by omega) hb.1 hb.2).1, term_head hP hn (by omega) hb.1 hb.2⟩
theorem lead_app {a b : By} (h : a ≠ []) : lead1 (a ++ b) = lead1 a ++ b := by
  cases a with
  | nil => exact absurd rfl h
  | cons c r =>
    unfold lead1
    by_cases h1 : c = 43
    · rw [if_pos (show (c :: r ++ b).head? = some 43 by rw [h1]; rfl), if_pos (show (c :: r).head? = some 43 by rw [h1]; rfl)]; rfl
    · rw [if_neg (fun e => h1 (by injection e)), if_neg (fun e => h1 (by injection e))]
theorem lead_sgn {t : By} (h : t.head? ≠ some 43) : lead1 (sgnT t) = t := by
  unfold sgnT
  by_cases h1 : t.head? = some 45
  · rw [if_pos h1]
    unfold lead1
    rw [if_neg h]
  · rw [if_neg h1]
    rfl
theorem sgnT_ne (t : By) (h : t ≠ []) : sgnT t ≠ [] := by
  unfold sgnT
  split
  · exact h
  · simp
/-- The text is that of the signed terms, less a '+' ahead. -/
theorem text_terms (hP : isP p = true) (hn : n ≤ 6) {y : List Int} (hy : MuL p n y) : ∀ k, k ≤ pw n → textTo p n y k = lead1 (sgnC (termsTo p n y k)) ∧ (textTo p n y k = [] ↔ termsTo p n y k = [])
  | 0, _ => ⟨rfl, by simp [textTo, termsTo]⟩
  | k + 1, hk => by
    obtain ⟨ih1, ih2⟩ := text_terms hP hn hy k (by omega)
    have hp := isP_ge hP
    have hb := hy.2.getD (show 0 < p by omega) k
    unfold textTo termsTo
    by_cases h0 : y.getD k 0 = 0
    · rw [if_pos h0, if_pos h0]; exact ⟨ih1, ih2⟩
    · rw [if_neg h0, if_neg h0]
      have ht := (term_facts hP hn (m := k) (by omega) hb.1 hb.2).1
      have hh := term_head hP hn (m := k) (by omega) hb.1 hb.2
      obtain ⟨T, hT⟩ : ∃ T, T = termL p n k (y.getD k 0) := ⟨_, rfl⟩
      rw [← hT] at ht hh ⊢
      refine ⟨?_, ⟨fun e => ?_, fun e => absurd e (by simp)⟩⟩
      · rw [sgnC_app, sgnC_one]
        by_cases hts : termsTo p n y k = []
        · rw [hts, ih2.2 hts]
          show [] ++ ((if ([] : By) ≠ [] ∧ _ then [43] else []) ++ T) = lead1 (sgnT T)
          rw [if_neg (fun h => h.1 rfl), lead_sgn hh]; rfl
        · have hne : sgnC (termsTo p n y k) ≠ [] := by
            cases hc : termsTo p n y k with
            | nil => exact absurd hc hts
            | cons c r =>
              have := (terms_ok hP hn hy k (by omega) c (by rw [hc]; simp)).1.1
              unfold sgnC
              rw [List.flatMap_cons]
              intro e
              exact sgnT_ne c this (List.append_eq_nil_iff.1 e).1
          rw [lead_app hne, ← ih1]
          congr 1
          unfold sgnT
          by_cases h45 : T.head? = some 45
          · rw [if_pos h45, if_neg (fun h => h.2 h45)]; rfl
          · rw [if_neg h45, if_pos ⟨fun e => hts (ih2.1 e), h45⟩]; rfl
      · have := (List.append_eq_nil_iff.1 (List.append_eq_nil_iff.1 e).2).2
        exact absurd this ht.1
def firstK (n : Nat) (y : List Int) (k : Nat) : List Int := tab (pw n) fun i => if i < k then y.getD i 0 else 0
theorem fold_terms (hP : isP p = true) (hn : n ≤ 6) {y : List Int} (hy : MuL p n y) : ∀ k, k ≤ pw n → (termsTo p n y k).foldl (stepI p n) (List.replicate (pw n) 0) = firstK n y k
  | 0, _ => by
    show List.replicate (pw n) 0 = _
    refine list_ext_getD 0 (by unfold firstK; rw [tab_len, List.length_replicate]) fun i hi => ?_
    rw [List.length_replicate] at hi
    unfold firstK
    rw [tab_getD hi, if_neg (by omega), List.getD_eq_getElem?_getD, List.getElem?_replicate, if_pos hi]; rfl
  | k + 1, hk => by
    have ih := fold_terms hP hn hy k (by omega)
    have hp := isP_ge hP
    have hb := hy.2.getD (show 0 < p by omega) k
    have hst : firstK n y (k + 1) = (firstK n y k).set k (y.getD k 0) := by
      refine list_ext_getD 0 (by unfold firstK; rw [List.length_set, tab_len, tab_len]) fun i hi => ?_
      unfold firstK at hi ⊢
      rw [tab_len] at hi
      rw [getD_set, tab_getD hi, tab_getD hi, tab_len]
      by_cases h : k = i
      · subst h; rw [if_pos (by omega), if_pos ⟨rfl, hi⟩]
      · have hne : ¬ (k = i ∧ k < pw n) := fun hh => h hh.1
        rw [if_neg hne]
        by_cases h2 : i < k
        · rw [if_pos (by omega), if_pos h2]
        · rw [if_neg (by omega), if_neg h2]
    unfold termsTo
    by_cases h0 : y.getD k 0 = 0
    · rw [if_pos h0, ih]
      refine list_ext_getD 0 (by unfold firstK; rw [tab_len, tab_len]) fun i hi => ?_
      unfold firstK at hi ⊢
      rw [tab_len] at hi
      rw [tab_getD hi, tab_getD hi]
      by_cases h2 : i < k
      · rw [if_pos h2, if_pos (by omega)]
      · rw [if_neg h2]
        by_cases h3 : i = k
        · rw [h3, if_pos (by omega), h0]
        · rw [if_neg (by omega)]
    · rw [if_neg h0, List.foldl_append, ih, List.foldl_cons, List.foldl_nil, (term_facts hP hn (m := k) (by omega) hb.1 hb.2).2, hst]
theorem firstK_all {y : List Int} (hy : y.length = pw n) : firstK n y (pw n) = y := by
  refine list_ext_getD 0 (by unfold firstK; rw [tab_len, hy]) fun i hi => ?_
  unfold firstK at hi ⊢
  rw [tab_len] at hi
  rw [tab_getD hi, if_pos hi]
end
end Go.Proofs.YticofgmmjecleaaGreatDoor
namespace Go.Proofs.YticofgmmjecleaaGreatDoor
open Go
section
variable {p : Int} {n : Nat}
/-- The terms of d places from k on. -/
def tIn (p : Int) (n : Nat) (y : List Int) : Nat → Nat → List By
  | _, 0 => []
  | k, d + 1 => (if y.getD k 0 = 0 then [] else [termL p n k (y.getD k 0)]) ++ tIn p n y (k + 1) d
theorem tIn_to (y : List Int) : ∀ d k, termsTo p n y (k + d) = termsTo p n y k ++ tIn p n y k d
  | 0, k => by rw [tIn, List.append_nil, Nat.add_zero]
  | d + 1, k => by
    rw [show k + (d + 1) = (k + 1) + d by omega, tIn_to y d (k + 1)]
    rw [tIn, ← List.append_assoc]
    congr 1
    show (if y.getD k 0 = 0 then _ else _) = _
    split
    · rw [List.append_nil]
    · rfl
theorem tIn_mem {y : List Int} : ∀ d k, ∀ t ∈ tIn p n y k d, ∃ m, k ≤ m ∧ m < k + d ∧ y.getD m 0 ≠ 0 ∧ t = termL p n m (y.getD m 0)
  | 0, k, t, h => by cases h
  | d + 1, k, t, h => by
    unfold tIn at h
    rcases List.mem_append.1 h with h | h
    · by_cases h0 : y.getD k 0 = 0
      · rw [if_pos h0] at h; cases h
      · rw [if_neg h0] at h
        exact ⟨k, Nat.le_refl _, by omega, h0, List.mem_singleton.1 h⟩
    · obtain ⟨m, h1, h2, h3, h4⟩ := tIn_mem d (k + 1) t h
      exact ⟨m, by omega, by omega, h3, h4⟩
end
end Go.Proofs.YticofgmmjecleaaGreatDoor
