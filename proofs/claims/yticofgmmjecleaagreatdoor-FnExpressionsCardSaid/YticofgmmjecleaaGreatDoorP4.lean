/-
  LawFnExpressions: part 4 of the texts that the proof needs. No condition.
-/
import Derived.Test.YticofgmmjecleaaGreatDoorP3
namespace Go.Proofs.YticofgmmjecleaaGreatDoor
open Go.RowKit
/-- A source whose code has nb bytes, at place pl, with the number h. -/
def SrcA (w : World) (g : Nat) (T : TypeId) (nb pl : Nat) (h : Int) : Prop := ∃ (B : Option Addr) (cb : Nat) (bs : List Int), Blk w g T #[.slice B nb cb, .int .i64 pl, .int .u64 h] ∧ Rd w B nb (bs.map (Value.int .u8)) ∧ (∀ b ∈ bs, 0 ≤ b ∧ b < 256) ∧ pl ≤ nb ∧ nb ≤ 4096 ∧ ∀ a, B = some a → a.block < g
theorem SrcA.src {w : World} {g : Nat} {T : TypeId} {nb pl : Nat} {h : Int} (s : SrcA w g T nb pl h) : Src w g T := by obtain ⟨B, cb, bs, r⟩ := s; exact ⟨B, nb, cb, bs, pl, h, r⟩
theorem Src.at_ {w : World} {g : Nat} {T : TypeId} (s : Src w g T) : ∃ nb pl h, SrcA w g T nb pl h := by obtain ⟨B, nb, cb, bs, pl, h, r⟩ := s; exact ⟨nb, pl, h, B, cb, bs, r⟩
theorem SrcA.below {w w' : World} {g : Nat} {T : TypeId} {nb pl : Nat} {h : Int} (s : SrcA w g T nb pl h) (hb : Below w.heap.size w w') : SrcA w' g T nb pl h := by
  obtain ⟨B, cb, bs, k, r, rest⟩ := s
  exact ⟨B, cb, bs, k.below hb k.lt, r.below hb, rest⟩
theorem SrcA.le {w : World} {g : Nat} {T : TypeId} {nb pl : Nat} {h : Int} (s : SrcA w g T nb pl h) : pl ≤ nb ∧ nb ≤ 4096 := by obtain ⟨B, cb, bs, k, r, h1, h2, h3, _⟩ := s; exact ⟨h2, h3⟩
theorem SrcA.cells {w : World} {g : Nat} {T : TypeId} {nb pl : Nat} {h : Int} (s : SrcA w g T nb pl h) : w.cell? ⟨g, 1, none⟩ = some (.int .i64 pl) ∧ w.cell? ⟨g, 2, none⟩ = some (.int .u64 h) := by obtain ⟨B, cb, bs, k, _⟩ := s; exact ⟨k.cell 1, k.cell 2⟩
theorem and_low (x : Int) (hx : 0 ≤ x ∧ x < 18446744073709551616) : bits BinOp.and IntKind.u64 x 16777215 = x % 16777216 := by
  unfold bits
  simp only
  obtain ⟨m, rfl⟩ : ∃ m : Nat, x = m := ⟨x.toNat, by omega⟩
  have e1 : (BitVec.ofInt IntKind.u64.bits (m : Int) &&& BitVec.ofInt IntKind.u64.bits 16777215).toNat = m % 16777216 := by
    rw [BitVec.toNat_and]
    have h1 : (BitVec.ofInt IntKind.u64.bits (m : Int)).toNat = m := by
      rw [BitVec.toNat_ofInt]
      show ((m : Int) % ((2 ^ 64 : Nat) : Int)).toNat = m
      omega
    rw [h1]
    show m &&& 16777215 = m % 16777216
    exact Nat.and_two_pow_sub_one_eq_mod m 24
  rw [e1]
  have e : IntKind.u64.wrap ((m % 16777216 : Nat) : Int) = ((m % 16777216 : Nat) : Int) % 18446744073709551616 := rfl
  rw [e]
  omega
set_option maxHeartbeats 1600000 in
set_option maxRecDepth 8000 in
theorem next_at (g : Nat) (n : Int) (nb pl : Nat) (h : Int) (w : World) (hs : SrcA w g 121 nb pl h) (hn1 : 1 ≤ n) (hn : n ≤ 4611686018427387904) :
    Calls Tryz.prog 72 #[.pointer (some ⟨g, 0, none⟩), .int .i64 n] w fun e w' => ∃ r : Int, e = .returned (.int .i64 r) ∧ 0 ≤ r ∧ r < n ∧ Dr g 121 w w' ∧ ∃ (pl' : Nat) (h' : Int), SrcA w' g 121 nb pl' h' ∧ pl' = (if pl < nb then pl + 1 else pl) ∧ eqM h' (gI h) ∧ (pl = nb → r = xI (gI h) % n) := by
  have h1 : ¬ n < 1 := by omega
  have d1 : decide (n < 1) = false := by simpa using h1
  obtain ⟨B, cb, bs, k, r, hbs, hpl, hnb, hbg⟩ := id hs
  have q0 : w.cell? ⟨g, 0, none⟩ = some (.slice B nb cb) := k.cell 0
  have q1 : w.cell? ⟨g, 1, none⟩ = some (.int .i64 pl) := k.cell 1
  have q2 : w.cell? ⟨g, 2, none⟩ = some (.int .u64 h) := k.cell 2
  have f2 := k.frozen 2
  go_enter Tryz.func72, Tryz.ntmps72
  go_wp2
  obtain ⟨H, hH⟩ : ∃ H, H = IntKind.u64.wrap (IntKind.u64.wrap (h * 6364136223846793005) + 1442695040888963407) := ⟨_, rfl⟩
  rw [← hH]
  have hH0 : 0 ≤ H ∧ H < 18446744073709551616 := by
    have e : ∀ z : Int, IntKind.u64.wrap z = z % 18446744073709551616 := fun _ => rfl
    rw [hH, e]; omega
  have hHG : eqM H (gI h) := by
    have e : ∀ z : Int, IntKind.u64.wrap z = z % 18446744073709551616 := fun _ => rfl
    rw [hH, e, e]; unfold eqM gI; omega
  have hXG : bits BinOp.and IntKind.u64 (H / 8589934592) 16777215 = xI (gI h) := by
    rw [and_low _ (by omega), ← x_same hHG]; rfl
  have hsm := and_small (H / 8589934592)
  obtain ⟨X, hX⟩ : ∃ X, X = bits BinOp.and IntKind.u64 (H / 8589934592) 16777215 := ⟨_, rfl⟩
  rw [← hX] at hsm hXG ⊢
  have HHG := Lib.hid hHG
  have HXG := Lib.hid hXG
  clear hHG hXG hH0
  have W1 : wrap64 X = X := by unfold wrap64; omega
  rw [W1]
  obtain ⟨x1, x2⟩ := hsm
  obtain ⟨hd1, k1, r1⟩ := Dr.set k r hbs hpl hnb hbg 2 (.int .u64 H) (pl' := pl) (h' := H) (by simp) hpl
  clear q0 q1 q2 f2 hX
  obtain ⟨w1, hw1⟩ : ∃ W, W = w.setCell ⟨g, 2, none⟩ (.int .u64 H) := ⟨_, rfl⟩
  rw [← hw1] at k1 r1 hd1 ⊢
  have hN0 : (n == 0) = false := by simp; omega
  have hN1 : (n == -1) = false := by simp; omega
  have hN2 : ¬ n = 0 := by omega
  have HD := Lib.hid hd1
  have HBS := Lib.hid hbs
  have HBG := Lib.hid hbg
  have HR1 := Lib.hid r1
  have HK1 := Lib.hid k1
  clear hw1 hH hd1 r k hbg
  by_cases hpn : pl < nb
  · have dl : decide ((pl : Int) < (nb : Int)) = true := by simp; omega
    obtain ⟨gb, ob, rfl, hc⟩ := r1.2 (by omega)
    have hbl : pl < bs.length := by have := r1.1; rw [List.length_map] at this; omega
    have hcb := hc pl (.int .u8 bs[pl]) (by simp [hbl])
    obtain ⟨b1, b2⟩ := hbs _ (List.getElem_mem hbl)
    obtain ⟨bb, hbb⟩ : ∃ x, x = bs[pl] := ⟨_, rfl⟩
    rw [← hbb] at hcb b1 b2
    have i1 : (0 : Int) ≤ (pl : Int) := by omega
    have i2 : (pl : Int) < (nb : Int) := by omega
    have W2 : IntKind.i64.wrap bb = bb := by rw [IntWalk.i64_left]; unfold wrap64; omega
    have W4 : IntKind.i64.wrap (X + bb) = X + bb := by rw [IntWalk.i64_left]; unfold wrap64; omega
    have W5 : wrap64 ((pl : Int) + 1) = ((pl + 1 : Nat) : Int) := by unfold wrap64; omega
    have T1 := Int.tmod_eq_emod_of_nonneg (b := n) (show 0 ≤ X + bb by omega)
    clear hc hbs hbb r1
    go_wp2
    refine wp_obs 10 [[], [0], [0, 1], [0, 1, 2], [], [4], [4, 5], [4, 5, 6], [4, 5, 6, 7], [0, 1, 2, 3, 4, 5, 6, 7, 8]] [VIs (.pointer (some ⟨g, 0, none⟩)), VIs (.pointer (some ⟨g, 0, none⟩)), VIs (.pointer (some ⟨g, 1, none⟩)), VIs (.int .i64 (pl)), VIs (.pointer (some ⟨g, 0, none⟩)), VIs (.pointer (some ⟨g, 0, none⟩)), VIs (.pointer (some ⟨g, 0, none⟩)), VIs (.slice (some ⟨gb, ob, none⟩) nb cb), VIs (.int .i64 (nb)), VIs (.bool true)] (fun w' => Blk w' g 121 #[.slice (some ⟨gb, ob, none⟩) nb cb, .int .i64 pl, .int .u64 H] ∧ w'.cell? ⟨gb, ob + pl, none⟩ = some (.int .u8 bb) ∧ Below w1.heap.size w1 w') (by kernel_rfl) (by kernel_rfl) (fun _ _ h hb => ⟨h.1.below hb h.1.lt, (hb.cell (World.block_lt_of_cell? _ _ h.2.1)).trans h.2.1, h.2.2.trans (hb.mono h.2.2.size)⟩) (⟨k1.drew, hcb, (Below.refl _ _).drew⟩) (fun x => ?_)
    refine obs_step (Eq.trans (by simp only [List.getElem?_toArray, List.getElem?_cons_zero]; exact rfl) rfl) rfl (fun w' hS hV K hK => ?_) ?_
    · obtain ⟨q0, q1, q2⟩ := hS.1.three; have qb := hS.2.1
      go_simp
      exact hK.out _ _ _ rfl rfl rfl (Below.refl _ _)
    simp only [List.setIfInBounds_toArray, List.set_cons_zero, List.set_cons_succ]
    refine obs_step (Eq.trans (by simp only [List.getElem?_toArray, List.getElem?_cons_succ, List.getElem?_cons_zero]; exact rfl) rfl) rfl (fun w' hS hV K hK => ?_) ?_
    · have e0 : x 0 = (.pointer (some ⟨g, 0, none⟩)) := hV 0 (by decide)
      obtain ⟨q0, q1, q2⟩ := hS.1.three; have qb := hS.2.1
      go_simp
      exact hK.out _ _ _ rfl rfl rfl (Below.refl _ _)
    simp only [List.setIfInBounds_toArray, List.set_cons_zero, List.set_cons_succ]
    refine obs_step (Eq.trans (by simp only [List.getElem?_toArray, List.getElem?_cons_succ, List.getElem?_cons_zero]; exact rfl) rfl) rfl (fun w' hS hV K hK => ?_) ?_
    · have e0 : x 0 = (.pointer (some ⟨g, 0, none⟩)) := hV 0 (by decide)
      have e1 : x 1 = (.pointer (some ⟨g, 0, none⟩)) := hV 1 (by decide)
      obtain ⟨q0, q1, q2⟩ := hS.1.three; have qb := hS.2.1
      go_simp
      exact hK.out _ _ _ rfl rfl rfl (Below.refl _ _)
    simp only [List.setIfInBounds_toArray, List.set_cons_zero, List.set_cons_succ]
    refine obs_step (Eq.trans (by simp only [List.getElem?_toArray, List.getElem?_cons_succ, List.getElem?_cons_zero]; exact rfl) rfl) rfl (fun w' hS hV K hK => ?_) ?_
    · have e0 : x 0 = (.pointer (some ⟨g, 0, none⟩)) := hV 0 (by decide)
      have e1 : x 1 = (.pointer (some ⟨g, 0, none⟩)) := hV 1 (by decide)
      have e2 : x 2 = (.pointer (some ⟨g, 1, none⟩)) := hV 2 (by decide)
      obtain ⟨q0, q1, q2⟩ := hS.1.three; have qb := hS.2.1
      go_simp
      exact hK.out _ _ _ rfl rfl rfl (Below.refl _ _)
    simp only [List.setIfInBounds_toArray, List.set_cons_zero, List.set_cons_succ]
    refine obs_step (Eq.trans (by simp only [List.getElem?_toArray, List.getElem?_cons_succ, List.getElem?_cons_zero]; exact rfl) rfl) rfl (fun w' hS hV K hK => ?_) ?_
    · obtain ⟨q0, q1, q2⟩ := hS.1.three; have qb := hS.2.1
      go_simp
      exact hK.out _ _ _ rfl rfl rfl (Below.refl _ _)
    simp only [List.setIfInBounds_toArray, List.set_cons_zero, List.set_cons_succ]
    refine obs_step (Eq.trans (by simp only [List.getElem?_toArray, List.getElem?_cons_succ, List.getElem?_cons_zero]; exact rfl) rfl) rfl (fun w' hS hV K hK => ?_) ?_
    · have e4 : x 4 = (.pointer (some ⟨g, 0, none⟩)) := hV 4 (by decide)
      obtain ⟨q0, q1, q2⟩ := hS.1.three; have qb := hS.2.1
      go_simp
      exact hK.out _ _ _ rfl rfl rfl (Below.refl _ _)
    simp only [List.setIfInBounds_toArray, List.set_cons_zero, List.set_cons_succ]
    refine obs_step (Eq.trans (by simp only [List.getElem?_toArray, List.getElem?_cons_succ, List.getElem?_cons_zero]; exact rfl) rfl) rfl (fun w' hS hV K hK => ?_) ?_
    · have e4 : x 4 = (.pointer (some ⟨g, 0, none⟩)) := hV 4 (by decide)
      have e5 : x 5 = (.pointer (some ⟨g, 0, none⟩)) := hV 5 (by decide)
      obtain ⟨q0, q1, q2⟩ := hS.1.three; have qb := hS.2.1
      go_simp
      exact hK.out _ _ _ rfl rfl rfl (Below.refl _ _)
    simp only [List.setIfInBounds_toArray, List.set_cons_zero, List.set_cons_succ]
    refine obs_step (Eq.trans (by simp only [List.getElem?_toArray, List.getElem?_cons_succ, List.getElem?_cons_zero]; exact rfl) rfl) rfl (fun w' hS hV K hK => ?_) ?_
    · have e4 : x 4 = (.pointer (some ⟨g, 0, none⟩)) := hV 4 (by decide)
      have e5 : x 5 = (.pointer (some ⟨g, 0, none⟩)) := hV 5 (by decide)
      have e6 : x 6 = (.pointer (some ⟨g, 0, none⟩)) := hV 6 (by decide)
      obtain ⟨q0, q1, q2⟩ := hS.1.three; have qb := hS.2.1
      go_simp
      exact hK.out _ _ _ rfl rfl rfl (Below.refl _ _)
    simp only [List.setIfInBounds_toArray, List.set_cons_zero, List.set_cons_succ]
    refine obs_step (Eq.trans (by simp only [List.getElem?_toArray, List.getElem?_cons_succ, List.getElem?_cons_zero]; exact rfl) rfl) rfl (fun w' hS hV K hK => ?_) ?_
    · have e4 : x 4 = (.pointer (some ⟨g, 0, none⟩)) := hV 4 (by decide)
      have e5 : x 5 = (.pointer (some ⟨g, 0, none⟩)) := hV 5 (by decide)
      have e6 : x 6 = (.pointer (some ⟨g, 0, none⟩)) := hV 6 (by decide)
      have e7 : x 7 = (.slice (some ⟨gb, ob, none⟩) nb cb) := hV 7 (by decide)
      obtain ⟨q0, q1, q2⟩ := hS.1.three; have qb := hS.2.1
      go_simp
      exact hK.out _ _ _ rfl rfl rfl (Below.refl _ _)
    simp only [List.setIfInBounds_toArray, List.set_cons_zero, List.set_cons_succ]
    refine obs_step (Eq.trans (by simp only [List.getElem?_toArray, List.getElem?_cons_succ, List.getElem?_cons_zero]; exact rfl) rfl) rfl (fun w' hS hV K hK => ?_) ?_
    · have e0 : x 0 = (.pointer (some ⟨g, 0, none⟩)) := hV 0 (by decide)
      have e1 : x 1 = (.pointer (some ⟨g, 0, none⟩)) := hV 1 (by decide)
      have e2 : x 2 = (.pointer (some ⟨g, 1, none⟩)) := hV 2 (by decide)
      have e3 : x 3 = (.int .i64 (pl)) := hV 3 (by decide)
      have e4 : x 4 = (.pointer (some ⟨g, 0, none⟩)) := hV 4 (by decide)
      have e5 : x 5 = (.pointer (some ⟨g, 0, none⟩)) := hV 5 (by decide)
      have e6 : x 6 = (.pointer (some ⟨g, 0, none⟩)) := hV 6 (by decide)
      have e7 : x 7 = (.slice (some ⟨gb, ob, none⟩) nb cb) := hV 7 (by decide)
      have e8 : x 8 = (.int .i64 (nb)) := hV 8 (by decide)
      obtain ⟨q0, q1, q2⟩ := hS.1.three; have qb := hS.2.1
      go_simp
      exact hK.out _ _ _ rfl rfl rfl (Below.refl _ _)
    simp only [List.setIfInBounds_toArray, List.set_cons_zero, List.set_cons_succ]
    refine fun w' hS hV => ?_
    have e0 : x 0 = (.pointer (some ⟨g, 0, none⟩)) := hV 0 (by decide)
    have e1 : x 1 = (.pointer (some ⟨g, 0, none⟩)) := hV 1 (by decide)
    have e2 : x 2 = (.pointer (some ⟨g, 1, none⟩)) := hV 2 (by decide)
    have e3 : x 3 = (.int .i64 (pl)) := hV 3 (by decide)
    have e4 : x 4 = (.pointer (some ⟨g, 0, none⟩)) := hV 4 (by decide)
    have e5 : x 5 = (.pointer (some ⟨g, 0, none⟩)) := hV 5 (by decide)
    have e6 : x 6 = (.pointer (some ⟨g, 0, none⟩)) := hV 6 (by decide)
    have e7 : x 7 = (.slice (some ⟨gb, ob, none⟩) nb cb) := hV 7 (by decide)
    have e8 : x 8 = (.int .i64 (nb)) := hV 8 (by decide)
    have e9 : x 9 = (.bool true) := hV 9 (by decide)
    simp only [e0, e1, e2, e3, e4, e5, e6, e7, e8, e9]
    clear e0 e1 e2 e3 e4 e5 e6 e7 e8 e9
    refine wpAny_done (by kernel_rfl) ?_ _
    obtain ⟨w2, rfl⟩ : ∃ W, W = w' := ⟨_, rfl⟩
    obtain ⟨k2, hcb2, hb2⟩ := hS
    have HR2 := Lib.hid (HR1.out.below hb2)
    have HD2 := Lib.hid (HD.out.trans (Dr.of_below HD.out.s' hb2))
    clear k1 hcb hb2
    go_wp2
    refine wp_obs 13 [[], [], [1], [1, 2], [1, 2, 3], [], [5], [5, 6], [5, 6, 7], [1, 2, 3, 4, 5, 6, 7, 8], [1, 2, 3, 4, 5, 6, 7, 8, 9], [1, 2, 3, 4, 5, 6, 7, 8, 9, 10], [0, 1, 2, 3, 4, 5, 6, 7, 8, 9, 10, 11], [0, 1, 2, 3, 4, 5, 6, 7, 8, 9, 10, 11, 12]] [VIs (.int .i64 (X)), VIs (.pointer (some ⟨g, 0, none⟩)), VIs (.pointer (some ⟨g, 0, none⟩)), VIs (.pointer (some ⟨g, 0, none⟩)), VIs (.slice (some ⟨gb, ob, none⟩) nb cb), VIs (.pointer (some ⟨g, 0, none⟩)), VIs (.pointer (some ⟨g, 0, none⟩)), VIs (.pointer (some ⟨g, 1, none⟩)), VIs (.int .i64 (pl)), VIs (.pointer (some ⟨gb, ob + pl, none⟩)), VIs (.int .u8 bb), VIs (.int .i64 (bb)), VIs (.int .i64 (X + bb))] (fun w' => Blk w' g 121 #[.slice (some ⟨gb, ob, none⟩) nb cb, .int .i64 pl, .int .u64 H] ∧ w'.cell? ⟨gb, ob + pl, none⟩ = some (.int .u8 bb) ∧ Below w2.heap.size w2 w') (by kernel_rfl) (by kernel_rfl) (fun _ _ h hb => ⟨h.1.below hb h.1.lt, (hb.cell (World.block_lt_of_cell? _ _ h.2.1)).trans h.2.1, h.2.2.trans (hb.mono h.2.2.size)⟩) (⟨k2.drew, hcb2, (Below.refl _ _).drew⟩) (fun x => ?_)
    refine obs_step (Eq.trans (by simp only [List.getElem?_toArray, List.getElem?_cons_zero]; exact rfl) rfl) rfl (fun w' hS hV K hK => ?_) ?_
    · obtain ⟨q0, q1, q2⟩ := hS.1.three; have qb := hS.2.1
      go_simp
      exact hK.out _ _ _ rfl rfl rfl (Below.refl _ _)
    simp only [List.setIfInBounds_toArray, List.set_cons_zero, List.set_cons_succ]
    refine obs_step (Eq.trans (by simp only [List.getElem?_toArray, List.getElem?_cons_succ, List.getElem?_cons_zero]; exact rfl) rfl) rfl (fun w' hS hV K hK => ?_) ?_
    · obtain ⟨q0, q1, q2⟩ := hS.1.three; have qb := hS.2.1
      go_simp
      exact hK.out _ _ _ rfl rfl rfl (Below.refl _ _)
    simp only [List.setIfInBounds_toArray, List.set_cons_zero, List.set_cons_succ]
    refine obs_step (Eq.trans (by simp only [List.getElem?_toArray, List.getElem?_cons_succ, List.getElem?_cons_zero]; exact rfl) rfl) rfl (fun w' hS hV K hK => ?_) ?_
    · have e1 : x 1 = (.pointer (some ⟨g, 0, none⟩)) := hV 1 (by decide)
      obtain ⟨q0, q1, q2⟩ := hS.1.three; have qb := hS.2.1
      go_simp
      exact hK.out _ _ _ rfl rfl rfl (Below.refl _ _)
    simp only [List.setIfInBounds_toArray, List.set_cons_zero, List.set_cons_succ]
    refine obs_step (Eq.trans (by simp only [List.getElem?_toArray, List.getElem?_cons_succ, List.getElem?_cons_zero]; exact rfl) rfl) rfl (fun w' hS hV K hK => ?_) ?_
    · have e1 : x 1 = (.pointer (some ⟨g, 0, none⟩)) := hV 1 (by decide)
      have e2 : x 2 = (.pointer (some ⟨g, 0, none⟩)) := hV 2 (by decide)
      obtain ⟨q0, q1, q2⟩ := hS.1.three; have qb := hS.2.1
      go_simp
      exact hK.out _ _ _ rfl rfl rfl (Below.refl _ _)
    simp only [List.setIfInBounds_toArray, List.set_cons_zero, List.set_cons_succ]
    refine obs_step (Eq.trans (by simp only [List.getElem?_toArray, List.getElem?_cons_succ, List.getElem?_cons_zero]; exact rfl) rfl) rfl (fun w' hS hV K hK => ?_) ?_
    · have e1 : x 1 = (.pointer (some ⟨g, 0, none⟩)) := hV 1 (by decide)
      have e2 : x 2 = (.pointer (some ⟨g, 0, none⟩)) := hV 2 (by decide)
      have e3 : x 3 = (.pointer (some ⟨g, 0, none⟩)) := hV 3 (by decide)
      obtain ⟨q0, q1, q2⟩ := hS.1.three; have qb := hS.2.1
      go_simp
      exact hK.out _ _ _ rfl rfl rfl (Below.refl _ _)
    simp only [List.setIfInBounds_toArray, List.set_cons_zero, List.set_cons_succ]
    refine obs_step (Eq.trans (by simp only [List.getElem?_toArray, List.getElem?_cons_succ, List.getElem?_cons_zero]; exact rfl) rfl) rfl (fun w' hS hV K hK => ?_) ?_
    · obtain ⟨q0, q1, q2⟩ := hS.1.three; have qb := hS.2.1
      go_simp
      exact hK.out _ _ _ rfl rfl rfl (Below.refl _ _)
    simp only [List.setIfInBounds_toArray, List.set_cons_zero, List.set_cons_succ]
    refine obs_step (Eq.trans (by simp only [List.getElem?_toArray, List.getElem?_cons_succ, List.getElem?_cons_zero]; exact rfl) rfl) rfl (fun w' hS hV K hK => ?_) ?_
    · have e5 : x 5 = (.pointer (some ⟨g, 0, none⟩)) := hV 5 (by decide)
      obtain ⟨q0, q1, q2⟩ := hS.1.three; have qb := hS.2.1
      go_simp
      exact hK.out _ _ _ rfl rfl rfl (Below.refl _ _)
    simp only [List.setIfInBounds_toArray, List.set_cons_zero, List.set_cons_succ]
    refine obs_step (Eq.trans (by simp only [List.getElem?_toArray, List.getElem?_cons_succ, List.getElem?_cons_zero]; exact rfl) rfl) rfl (fun w' hS hV K hK => ?_) ?_
    · have e5 : x 5 = (.pointer (some ⟨g, 0, none⟩)) := hV 5 (by decide)
      have e6 : x 6 = (.pointer (some ⟨g, 0, none⟩)) := hV 6 (by decide)
      obtain ⟨q0, q1, q2⟩ := hS.1.three; have qb := hS.2.1
      go_simp
      exact hK.out _ _ _ rfl rfl rfl (Below.refl _ _)
    simp only [List.setIfInBounds_toArray, List.set_cons_zero, List.set_cons_succ]
    refine obs_step (Eq.trans (by simp only [List.getElem?_toArray, List.getElem?_cons_succ, List.getElem?_cons_zero]; exact rfl) rfl) rfl (fun w' hS hV K hK => ?_) ?_
    · have e5 : x 5 = (.pointer (some ⟨g, 0, none⟩)) := hV 5 (by decide)
      have e6 : x 6 = (.pointer (some ⟨g, 0, none⟩)) := hV 6 (by decide)
      have e7 : x 7 = (.pointer (some ⟨g, 1, none⟩)) := hV 7 (by decide)
      obtain ⟨q0, q1, q2⟩ := hS.1.three; have qb := hS.2.1
      go_simp
      exact hK.out _ _ _ rfl rfl rfl (Below.refl _ _)
    simp only [List.setIfInBounds_toArray, List.set_cons_zero, List.set_cons_succ]
    refine obs_step (Eq.trans (by simp only [List.getElem?_toArray, List.getElem?_cons_succ, List.getElem?_cons_zero]; exact rfl) rfl) rfl (fun w' hS hV K hK => ?_) ?_
    · have e1 : x 1 = (.pointer (some ⟨g, 0, none⟩)) := hV 1 (by decide)
      have e2 : x 2 = (.pointer (some ⟨g, 0, none⟩)) := hV 2 (by decide)
      have e3 : x 3 = (.pointer (some ⟨g, 0, none⟩)) := hV 3 (by decide)
      have e4 : x 4 = (.slice (some ⟨gb, ob, none⟩) nb cb) := hV 4 (by decide)
      have e5 : x 5 = (.pointer (some ⟨g, 0, none⟩)) := hV 5 (by decide)
      have e6 : x 6 = (.pointer (some ⟨g, 0, none⟩)) := hV 6 (by decide)
      have e7 : x 7 = (.pointer (some ⟨g, 1, none⟩)) := hV 7 (by decide)
      have e8 : x 8 = (.int .i64 (pl)) := hV 8 (by decide)
      obtain ⟨q0, q1, q2⟩ := hS.1.three; have qb := hS.2.1
      go_simp
      exact hK.out _ _ _ rfl rfl rfl (Below.refl _ _)
    simp only [List.setIfInBounds_toArray, List.set_cons_zero, List.set_cons_succ]
    refine obs_step (Eq.trans (by simp only [List.getElem?_toArray, List.getElem?_cons_succ, List.getElem?_cons_zero]; exact rfl) rfl) rfl (fun w' hS hV K hK => ?_) ?_
    · have e1 : x 1 = (.pointer (some ⟨g, 0, none⟩)) := hV 1 (by decide)
      have e2 : x 2 = (.pointer (some ⟨g, 0, none⟩)) := hV 2 (by decide)
      have e3 : x 3 = (.pointer (some ⟨g, 0, none⟩)) := hV 3 (by decide)
      have e4 : x 4 = (.slice (some ⟨gb, ob, none⟩) nb cb) := hV 4 (by decide)
      have e5 : x 5 = (.pointer (some ⟨g, 0, none⟩)) := hV 5 (by decide)
      have e6 : x 6 = (.pointer (some ⟨g, 0, none⟩)) := hV 6 (by decide)
      have e7 : x 7 = (.pointer (some ⟨g, 1, none⟩)) := hV 7 (by decide)
      have e8 : x 8 = (.int .i64 (pl)) := hV 8 (by decide)
      have e9 : x 9 = (.pointer (some ⟨gb, ob + pl, none⟩)) := hV 9 (by decide)
      obtain ⟨q0, q1, q2⟩ := hS.1.three; have qb := hS.2.1
      go_simp
      exact hK.out _ _ _ rfl rfl rfl (Below.refl _ _)
    simp only [List.setIfInBounds_toArray, List.set_cons_zero, List.set_cons_succ]
    refine obs_step (Eq.trans (by simp only [List.getElem?_toArray, List.getElem?_cons_succ, List.getElem?_cons_zero]; exact rfl) rfl) rfl (fun w' hS hV K hK => ?_) ?_
    · have e1 : x 1 = (.pointer (some ⟨g, 0, none⟩)) := hV 1 (by decide)
      have e2 : x 2 = (.pointer (some ⟨g, 0, none⟩)) := hV 2 (by decide)
      have e3 : x 3 = (.pointer (some ⟨g, 0, none⟩)) := hV 3 (by decide)
      have e4 : x 4 = (.slice (some ⟨gb, ob, none⟩) nb cb) := hV 4 (by decide)
      have e5 : x 5 = (.pointer (some ⟨g, 0, none⟩)) := hV 5 (by decide)
      have e6 : x 6 = (.pointer (some ⟨g, 0, none⟩)) := hV 6 (by decide)
      have e7 : x 7 = (.pointer (some ⟨g, 1, none⟩)) := hV 7 (by decide)
      have e8 : x 8 = (.int .i64 (pl)) := hV 8 (by decide)
      have e9 : x 9 = (.pointer (some ⟨gb, ob + pl, none⟩)) := hV 9 (by decide)
      have e10 : x 10 = (.int .u8 bb) := hV 10 (by decide)
      obtain ⟨q0, q1, q2⟩ := hS.1.three; have qb := hS.2.1
      go_simp
      exact hK.out _ _ _ rfl rfl rfl (Below.refl _ _)
    simp only [List.setIfInBounds_toArray, List.set_cons_zero, List.set_cons_succ]
    refine obs_step (Eq.trans (by simp only [List.getElem?_toArray, List.getElem?_cons_succ, List.getElem?_cons_zero]; exact rfl) rfl) rfl (fun w' hS hV K hK => ?_) ?_
    · have e0 : x 0 = (.int .i64 (X)) := hV 0 (by decide)
      have e1 : x 1 = (.pointer (some ⟨g, 0, none⟩)) := hV 1 (by decide)
      have e2 : x 2 = (.pointer (some ⟨g, 0, none⟩)) := hV 2 (by decide)
      have e3 : x 3 = (.pointer (some ⟨g, 0, none⟩)) := hV 3 (by decide)
      have e4 : x 4 = (.slice (some ⟨gb, ob, none⟩) nb cb) := hV 4 (by decide)
      have e5 : x 5 = (.pointer (some ⟨g, 0, none⟩)) := hV 5 (by decide)
      have e6 : x 6 = (.pointer (some ⟨g, 0, none⟩)) := hV 6 (by decide)
      have e7 : x 7 = (.pointer (some ⟨g, 1, none⟩)) := hV 7 (by decide)
      have e8 : x 8 = (.int .i64 (pl)) := hV 8 (by decide)
      have e9 : x 9 = (.pointer (some ⟨gb, ob + pl, none⟩)) := hV 9 (by decide)
      have e10 : x 10 = (.int .u8 bb) := hV 10 (by decide)
      have e11 : x 11 = (.int .i64 (bb)) := hV 11 (by decide)
      obtain ⟨q0, q1, q2⟩ := hS.1.three; have qb := hS.2.1
      go_simp
      exact hK.out _ _ _ rfl rfl rfl (Below.refl _ _)
    simp only [List.setIfInBounds_toArray, List.set_cons_zero, List.set_cons_succ]
    refine fun w' hS hV => ?_
    have e0 : x 0 = (.int .i64 (X)) := hV 0 (by decide)
    have e1 : x 1 = (.pointer (some ⟨g, 0, none⟩)) := hV 1 (by decide)
    have e2 : x 2 = (.pointer (some ⟨g, 0, none⟩)) := hV 2 (by decide)
    have e3 : x 3 = (.pointer (some ⟨g, 0, none⟩)) := hV 3 (by decide)
    have e4 : x 4 = (.slice (some ⟨gb, ob, none⟩) nb cb) := hV 4 (by decide)
    have e5 : x 5 = (.pointer (some ⟨g, 0, none⟩)) := hV 5 (by decide)
    have e6 : x 6 = (.pointer (some ⟨g, 0, none⟩)) := hV 6 (by decide)
    have e7 : x 7 = (.pointer (some ⟨g, 1, none⟩)) := hV 7 (by decide)
    have e8 : x 8 = (.int .i64 (pl)) := hV 8 (by decide)
    have e9 : x 9 = (.pointer (some ⟨gb, ob + pl, none⟩)) := hV 9 (by decide)
    have e10 : x 10 = (.int .u8 bb) := hV 10 (by decide)
    have e11 : x 11 = (.int .i64 (bb)) := hV 11 (by decide)
    have e12 : x 12 = (.int .i64 (X + bb)) := hV 12 (by decide)
    simp only [e0, e1, e2, e3, e4, e5, e6, e7, e8, e9, e10, e11, e12]
    clear e0 e1 e2 e3 e4 e5 e6 e7 e8 e9 e10 e11 e12
    refine any_one (j := 13) (by kernel_rfl) (Eq.trans (by simp only [List.getElem?_toArray, List.getElem?_cons_succ, List.getElem?_cons_zero]; exact rfl) rfl) (fun K hK => ?_)
    go_simp
    refine hK.out _ _ (wpAny_done (by kernel_rfl) ?_ _)
    obtain ⟨w3, rfl⟩ : ∃ W, W = w' := ⟨_, rfl⟩
    obtain ⟨k3, hcb3, hb3⟩ := hS
    have HR3 := Lib.hid (HR2.out.below hb3)
    have HD3 := Lib.hid (HD2.out.trans (Dr.of_below HD2.out.s' hb3))
    obtain ⟨hd4, k4, r4⟩ := Dr.set k3 HR3.out HBS.out hpl hnb HBG.out 1 (.int .i64 ((pl + 1 : Nat) : Int)) (pl' := pl + 1) (h' := H) (by simp) hpn
    have HD4 := Lib.hid (HD3.out.trans hd4)
    have q1 : w3.cell? ⟨g, 1, none⟩ = some (.int .i64 pl) := k3.cell 1
    have f1 := k3.frozen 1
    have HK4 := Lib.hid k4
    have HR4 := Lib.hid r4
    clear k2 hcb2 hb3 hd4 k4 r4
    go_wp2
    go_ret
    first
      | exact ⟨(X + bb) % n, rfl, Int.emod_nonneg _ hN2, Int.emod_lt_of_pos _ (by omega), HD4.out, pl + 1, H, ⟨_, _, _, HK4.out, HR4.out, HBS.out, hpn, hnb, HBG.out⟩, by first | rfl | rw [if_pos hpn], HHG.out, fun e => by omega⟩
      | (rw [W5]; exact ⟨(X + bb) % n, rfl, Int.emod_nonneg _ hN2, Int.emod_lt_of_pos _ (by omega), HD4.out, pl + 1, H, ⟨_, _, _, HK4.out, HR4.out, HBS.out, hpn, hnb, HBG.out⟩, by first | rfl | rw [if_pos hpn], HHG.out, fun e => by omega⟩)
  · have dl : decide ((pl : Int) < (nb : Int)) = false := by simp; omega
    have T1 := Int.tmod_eq_emod_of_nonneg (b := n) (show 0 ≤ X by omega)
    clear hbs r1
    go_wp2
    refine wp_obs 10 [[], [0], [0, 1], [0, 1, 2], [], [4], [4, 5], [4, 5, 6], [4, 5, 6, 7], [0, 1, 2, 3, 4, 5, 6, 7, 8]] [VIs (.pointer (some ⟨g, 0, none⟩)), VIs (.pointer (some ⟨g, 0, none⟩)), VIs (.pointer (some ⟨g, 1, none⟩)), VIs (.int .i64 (pl)), VIs (.pointer (some ⟨g, 0, none⟩)), VIs (.pointer (some ⟨g, 0, none⟩)), VIs (.pointer (some ⟨g, 0, none⟩)), VIs (.slice B nb cb), VIs (.int .i64 (nb)), VIs (.bool false)] (fun w' => Blk w' g 121 #[.slice B nb cb, .int .i64 pl, .int .u64 H] ∧ Below w1.heap.size w1 w') (by kernel_rfl) (by kernel_rfl) (fun _ _ h hb => ⟨h.1.below hb h.1.lt, h.2.trans (hb.mono h.2.size)⟩) (⟨k1.drew, (Below.refl _ _).drew⟩) (fun x => ?_)
    refine obs_step (Eq.trans (by simp only [List.getElem?_toArray, List.getElem?_cons_zero]; exact rfl) rfl) rfl (fun w' hS hV K hK => ?_) ?_
    · obtain ⟨q0, q1, q2⟩ := hS.1.three
      go_simp
      exact hK.out _ _ _ rfl rfl rfl (Below.refl _ _)
    simp only [List.setIfInBounds_toArray, List.set_cons_zero, List.set_cons_succ]
    refine obs_step (Eq.trans (by simp only [List.getElem?_toArray, List.getElem?_cons_succ, List.getElem?_cons_zero]; exact rfl) rfl) rfl (fun w' hS hV K hK => ?_) ?_
    · have e0 : x 0 = (.pointer (some ⟨g, 0, none⟩)) := hV 0 (by decide)
      obtain ⟨q0, q1, q2⟩ := hS.1.three
      go_simp
      exact hK.out _ _ _ rfl rfl rfl (Below.refl _ _)
    simp only [List.setIfInBounds_toArray, List.set_cons_zero, List.set_cons_succ]
    refine obs_step (Eq.trans (by simp only [List.getElem?_toArray, List.getElem?_cons_succ, List.getElem?_cons_zero]; exact rfl) rfl) rfl (fun w' hS hV K hK => ?_) ?_
    · have e0 : x 0 = (.pointer (some ⟨g, 0, none⟩)) := hV 0 (by decide)
      have e1 : x 1 = (.pointer (some ⟨g, 0, none⟩)) := hV 1 (by decide)
      obtain ⟨q0, q1, q2⟩ := hS.1.three
      go_simp
      exact hK.out _ _ _ rfl rfl rfl (Below.refl _ _)
    simp only [List.setIfInBounds_toArray, List.set_cons_zero, List.set_cons_succ]
    refine obs_step (Eq.trans (by simp only [List.getElem?_toArray, List.getElem?_cons_succ, List.getElem?_cons_zero]; exact rfl) rfl) rfl (fun w' hS hV K hK => ?_) ?_
    · have e0 : x 0 = (.pointer (some ⟨g, 0, none⟩)) := hV 0 (by decide)
      have e1 : x 1 = (.pointer (some ⟨g, 0, none⟩)) := hV 1 (by decide)
      have e2 : x 2 = (.pointer (some ⟨g, 1, none⟩)) := hV 2 (by decide)
      obtain ⟨q0, q1, q2⟩ := hS.1.three
      go_simp
      exact hK.out _ _ _ rfl rfl rfl (Below.refl _ _)
    simp only [List.setIfInBounds_toArray, List.set_cons_zero, List.set_cons_succ]
    refine obs_step (Eq.trans (by simp only [List.getElem?_toArray, List.getElem?_cons_succ, List.getElem?_cons_zero]; exact rfl) rfl) rfl (fun w' hS hV K hK => ?_) ?_
    · obtain ⟨q0, q1, q2⟩ := hS.1.three
      go_simp
      exact hK.out _ _ _ rfl rfl rfl (Below.refl _ _)
    simp only [List.setIfInBounds_toArray, List.set_cons_zero, List.set_cons_succ]
    refine obs_step (Eq.trans (by simp only [List.getElem?_toArray, List.getElem?_cons_succ, List.getElem?_cons_zero]; exact rfl) rfl) rfl (fun w' hS hV K hK => ?_) ?_
    · have e4 : x 4 = (.pointer (some ⟨g, 0, none⟩)) := hV 4 (by decide)
      obtain ⟨q0, q1, q2⟩ := hS.1.three
      go_simp
      exact hK.out _ _ _ rfl rfl rfl (Below.refl _ _)
    simp only [List.setIfInBounds_toArray, List.set_cons_zero, List.set_cons_succ]
    refine obs_step (Eq.trans (by simp only [List.getElem?_toArray, List.getElem?_cons_succ, List.getElem?_cons_zero]; exact rfl) rfl) rfl (fun w' hS hV K hK => ?_) ?_
    · have e4 : x 4 = (.pointer (some ⟨g, 0, none⟩)) := hV 4 (by decide)
      have e5 : x 5 = (.pointer (some ⟨g, 0, none⟩)) := hV 5 (by decide)
      obtain ⟨q0, q1, q2⟩ := hS.1.three
      go_simp
      exact hK.out _ _ _ rfl rfl rfl (Below.refl _ _)
    simp only [List.setIfInBounds_toArray, List.set_cons_zero, List.set_cons_succ]
    refine obs_step (Eq.trans (by simp only [List.getElem?_toArray, List.getElem?_cons_succ, List.getElem?_cons_zero]; exact rfl) rfl) rfl (fun w' hS hV K hK => ?_) ?_
    · have e4 : x 4 = (.pointer (some ⟨g, 0, none⟩)) := hV 4 (by decide)
      have e5 : x 5 = (.pointer (some ⟨g, 0, none⟩)) := hV 5 (by decide)
      have e6 : x 6 = (.pointer (some ⟨g, 0, none⟩)) := hV 6 (by decide)
      obtain ⟨q0, q1, q2⟩ := hS.1.three
      go_simp
      exact hK.out _ _ _ rfl rfl rfl (Below.refl _ _)
    simp only [List.setIfInBounds_toArray, List.set_cons_zero, List.set_cons_succ]
    refine obs_step (Eq.trans (by simp only [List.getElem?_toArray, List.getElem?_cons_succ, List.getElem?_cons_zero]; exact rfl) rfl) rfl (fun w' hS hV K hK => ?_) ?_
    · have e4 : x 4 = (.pointer (some ⟨g, 0, none⟩)) := hV 4 (by decide)
      have e5 : x 5 = (.pointer (some ⟨g, 0, none⟩)) := hV 5 (by decide)
      have e6 : x 6 = (.pointer (some ⟨g, 0, none⟩)) := hV 6 (by decide)
      have e7 : x 7 = (.slice B nb cb) := hV 7 (by decide)
      obtain ⟨q0, q1, q2⟩ := hS.1.three
      go_simp
      exact hK.out _ _ _ rfl rfl rfl (Below.refl _ _)
    simp only [List.setIfInBounds_toArray, List.set_cons_zero, List.set_cons_succ]
    refine obs_step (Eq.trans (by simp only [List.getElem?_toArray, List.getElem?_cons_succ, List.getElem?_cons_zero]; exact rfl) rfl) rfl (fun w' hS hV K hK => ?_) ?_
    · have e0 : x 0 = (.pointer (some ⟨g, 0, none⟩)) := hV 0 (by decide)
      have e1 : x 1 = (.pointer (some ⟨g, 0, none⟩)) := hV 1 (by decide)
      have e2 : x 2 = (.pointer (some ⟨g, 1, none⟩)) := hV 2 (by decide)
      have e3 : x 3 = (.int .i64 (pl)) := hV 3 (by decide)
      have e4 : x 4 = (.pointer (some ⟨g, 0, none⟩)) := hV 4 (by decide)
      have e5 : x 5 = (.pointer (some ⟨g, 0, none⟩)) := hV 5 (by decide)
      have e6 : x 6 = (.pointer (some ⟨g, 0, none⟩)) := hV 6 (by decide)
      have e7 : x 7 = (.slice B nb cb) := hV 7 (by decide)
      have e8 : x 8 = (.int .i64 (nb)) := hV 8 (by decide)
      obtain ⟨q0, q1, q2⟩ := hS.1.three
      go_simp
      exact hK.out _ _ _ rfl rfl rfl (Below.refl _ _)
    simp only [List.setIfInBounds_toArray, List.set_cons_zero, List.set_cons_succ]
    refine fun w' hS hV => ?_
    have e0 : x 0 = (.pointer (some ⟨g, 0, none⟩)) := hV 0 (by decide)
    have e1 : x 1 = (.pointer (some ⟨g, 0, none⟩)) := hV 1 (by decide)
    have e2 : x 2 = (.pointer (some ⟨g, 1, none⟩)) := hV 2 (by decide)
    have e3 : x 3 = (.int .i64 (pl)) := hV 3 (by decide)
    have e4 : x 4 = (.pointer (some ⟨g, 0, none⟩)) := hV 4 (by decide)
    have e5 : x 5 = (.pointer (some ⟨g, 0, none⟩)) := hV 5 (by decide)
    have e6 : x 6 = (.pointer (some ⟨g, 0, none⟩)) := hV 6 (by decide)
    have e7 : x 7 = (.slice B nb cb) := hV 7 (by decide)
    have e8 : x 8 = (.int .i64 (nb)) := hV 8 (by decide)
    have e9 : x 9 = (.bool false) := hV 9 (by decide)
    simp only [e0, e1, e2, e3, e4, e5, e6, e7, e8, e9]
    clear e0 e1 e2 e3 e4 e5 e6 e7 e8 e9
    refine wpAny_done (by kernel_rfl) ?_ _
    obtain ⟨w2, rfl⟩ : ∃ W, W = w' := ⟨_, rfl⟩
    obtain ⟨k2, hb2⟩ := hS
    have HD2 := Lib.hid (HD.out.trans (Dr.of_below HD.out.s' hb2))
    have HK2 := Lib.hid k2
    have HR2 := Lib.hid (HR1.out.below hb2)
    clear k1 hb2 k2
    go_wp2
    go_ret
    exact ⟨X % n, rfl, Int.emod_nonneg _ hN2, Int.emod_lt_of_pos _ (by omega), HD2.out, pl, H, ⟨_, _, _, HK2.out, HR2.out, HBS.out, hpl, hnb, HBG.out⟩, by first | rfl | rw [if_neg hpn], HHG.out, fun _ => by rw [HXG.out]⟩
end Go.Proofs.YticofgmmjecleaaGreatDoor
namespace Go.Proofs.YticofgmmjecleaaGreatDoor
open Go.Shelf
def lays171_ren : Go.Shelf.Ren := ⟨fun | 171 => 114 | 243 => 137 | 246 => 151 | 283 => 173 | 284 => 174 | 285 => 175 | 286 => 176 | 129 => 190 | 317 => 189 | 318 => 191 | 319 => 192 | 320 => 193 | 337 => 197 | 338 => 198 | n => n, fun | 3 => 3 | 9 => 9 | 2 => 2 | 4 => 4 | 171 => 164 | 0 => 0 | 53 => 58 | 37 => 43 | 5 => 5 | 173 => 167 | 212 => 186 | 51 => 176 | 20 => 20 | 213 => 187 | 46 => 126 | 232 => 204 | 233 => 205 | n => n, fun | 17 => 3 | 18 => 4 | 19 => 5 | n => n⟩
theorem lays171 : Go.Proofs.Lays.n171 Tryz.prog lays171_ren := {
  mixed := by kernel_rfl
  f129 := Tryz.func190.trans (congrArg some (by kernel_rfl))
  f171 := Tryz.func114.trans (congrArg some (by kernel_rfl))
  f243 := Tryz.func137.trans (congrArg some (by kernel_rfl))
  f246 := Tryz.func151.trans (congrArg some (by kernel_rfl))
  f283 := Tryz.func173.trans (congrArg some (by kernel_rfl))
  f284 := Tryz.func174.trans (congrArg some (by kernel_rfl))
  f285 := Tryz.func175.trans (congrArg some (by kernel_rfl))
  f286 := Tryz.func176.trans (congrArg some (by kernel_rfl))
  f317 := Tryz.func189.trans (congrArg some (by kernel_rfl))
  f318 := Tryz.func191.trans (congrArg some (by kernel_rfl))
  f319 := Tryz.func192.trans (congrArg some (by kernel_rfl))
  f320 := Tryz.func193.trans (congrArg some (by kernel_rfl))
  f337 := Tryz.func197.trans (congrArg some (by kernel_rfl))
  f338 := Tryz.func198.trans (congrArg some (by kernel_rfl))
  t0 := Tryz.underlying0
  a0 := Tryz.isAgg0
  z0 := Tryz.sizeOf0
  v0 := Tryz.zeroValue0
  t2 := Tryz.underlying2
  a2 := Tryz.isAgg2
  z2 := Tryz.sizeOf2
  v2 := Tryz.zeroValue2
  t3 := Tryz.underlying3
  a3 := Tryz.isAgg3
  z3 := Tryz.sizeOf3
  v3 := Tryz.zeroValue3
  t4 := Tryz.underlying4
  a4 := Tryz.isAgg4
  z4 := Tryz.sizeOf4
  v4 := Tryz.zeroValue4
  t5 := Tryz.underlying5
  a5 := Tryz.isAgg5
  z5 := Tryz.sizeOf5
  v5 := Tryz.zeroValue5
  t9 := Tryz.underlying9
  a9 := Tryz.isAgg9
  z9 := Tryz.sizeOf9
  v9 := Tryz.zeroValue9
  t20 := Tryz.underlying20
  a20 := Tryz.isAgg20
  z20 := Tryz.sizeOf20
  v20 := Tryz.zeroValue20
  t37 := Tryz.underlying43
  a37 := Tryz.isAgg43
  z37 := Tryz.sizeOf43
  v37 := Tryz.zeroValue43
  t46 := Tryz.underlying126
  a46 := Tryz.isAgg126
  z46 := Tryz.sizeOf126
  v46 := Tryz.zeroValue126
  t51 := Tryz.underlying176
  a51 := Tryz.isAgg176
  z51 := Tryz.sizeOf176
  v51 := Tryz.zeroValue176
  t53 := Tryz.underlying58
  a53 := Tryz.isAgg58
  z53 := Tryz.sizeOf58
  v53 := Tryz.zeroValue58
  t171 := Tryz.underlying164
  a171 := Tryz.isAgg164
  z171 := Tryz.sizeOf164
  v171 := Tryz.zeroValue164
  t173 := Tryz.underlying167
  a173 := Tryz.isAgg167
  z173 := Tryz.sizeOf167
  v173 := Tryz.zeroValue167
  t212 := Tryz.underlying186
  a212 := Tryz.isAgg186
  z212 := Tryz.sizeOf186
  v212 := Tryz.zeroValue186
  t213 := Tryz.underlying187
  a213 := Tryz.isAgg187
  z213 := Tryz.sizeOf187
  t232 := Tryz.underlying204
  a232 := Tryz.isAgg204
  z232 := Tryz.sizeOf204
  v232 := Tryz.zeroValue204
  t233 := Tryz.underlying205
  a233 := Tryz.isAgg205
  z233 := Tryz.sizeOf205
  v233 := Tryz.zeroValue205
  g17 := by kernel_rfl
  g18 := by kernel_rfl
  g19 := by kernel_rfl }
def laysM173_ren : Go.Shelf.Ren := ⟨fun | 173 => 124 | 246 => 151 | 283 => 173 | 284 => 174 | 285 => 175 | 286 => 176 | 129 => 190 | 317 => 189 | 318 => 191 | 319 => 192 | 320 => 193 | 337 => 197 | 338 => 198 | n => n, fun | 2 => 2 | 3 => 3 | 9 => 9 | 4 => 4 | 171 => 164 | 0 => 0 | 53 => 58 | 37 => 43 | 5 => 5 | 173 => 167 | 212 => 186 | 51 => 176 | 20 => 20 | 213 => 187 | 46 => 126 | 232 => 204 | 233 => 205 | n => n, fun | 17 => 3 | 18 => 4 | 19 => 5 | n => n⟩
theorem laysM173 : Go.Proofs.LaysM.n173 Tryz.prog laysM173_ren := {
  mixed := by kernel_rfl
  f129 := Tryz.func190.trans (congrArg some (by kernel_rfl))
  f173 := Tryz.func124.trans (congrArg some (by kernel_rfl))
  f246 := Tryz.func151.trans (congrArg some (by kernel_rfl))
  f283 := Tryz.func173.trans (congrArg some (by kernel_rfl))
  f284 := Tryz.func174.trans (congrArg some (by kernel_rfl))
  f285 := Tryz.func175.trans (congrArg some (by kernel_rfl))
  f286 := Tryz.func176.trans (congrArg some (by kernel_rfl))
  f317 := Tryz.func189.trans (congrArg some (by kernel_rfl))
  f318 := Tryz.func191.trans (congrArg some (by kernel_rfl))
  f319 := Tryz.func192.trans (congrArg some (by kernel_rfl))
  f320 := Tryz.func193.trans (congrArg some (by kernel_rfl))
  f337 := Tryz.func197.trans (congrArg some (by kernel_rfl))
  f338 := Tryz.func198.trans (congrArg some (by kernel_rfl))
  t0 := Tryz.underlying0
  a0 := Tryz.isAgg0
  z0 := Tryz.sizeOf0
  v0 := Tryz.zeroValue0
  t2 := Tryz.underlying2
  a2 := Tryz.isAgg2
  z2 := Tryz.sizeOf2
  v2 := Tryz.zeroValue2
  t3 := Tryz.underlying3
  a3 := Tryz.isAgg3
  z3 := Tryz.sizeOf3
  v3 := Tryz.zeroValue3
  t4 := Tryz.underlying4
  a4 := Tryz.isAgg4
  z4 := Tryz.sizeOf4
  v4 := Tryz.zeroValue4
  t5 := Tryz.underlying5
  a5 := Tryz.isAgg5
  z5 := Tryz.sizeOf5
  v5 := Tryz.zeroValue5
  t9 := Tryz.underlying9
  a9 := Tryz.isAgg9
  z9 := Tryz.sizeOf9
  v9 := Tryz.zeroValue9
  t20 := Tryz.underlying20
  a20 := Tryz.isAgg20
  z20 := Tryz.sizeOf20
  v20 := Tryz.zeroValue20
  t37 := Tryz.underlying43
  a37 := Tryz.isAgg43
  z37 := Tryz.sizeOf43
  v37 := Tryz.zeroValue43
  t46 := Tryz.underlying126
  a46 := Tryz.isAgg126
  z46 := Tryz.sizeOf126
  v46 := Tryz.zeroValue126
  t51 := Tryz.underlying176
  a51 := Tryz.isAgg176
  z51 := Tryz.sizeOf176
  v51 := Tryz.zeroValue176
  t53 := Tryz.underlying58
  a53 := Tryz.isAgg58
  z53 := Tryz.sizeOf58
  v53 := Tryz.zeroValue58
  t171 := Tryz.underlying164
  a171 := Tryz.isAgg164
  z171 := Tryz.sizeOf164
  v171 := Tryz.zeroValue164
  t173 := Tryz.underlying167
  a173 := Tryz.isAgg167
  z173 := Tryz.sizeOf167
  v173 := Tryz.zeroValue167
  t212 := Tryz.underlying186
  a212 := Tryz.isAgg186
  z212 := Tryz.sizeOf186
  v212 := Tryz.zeroValue186
  t213 := Tryz.underlying187
  a213 := Tryz.isAgg187
  z213 := Tryz.sizeOf187
  t232 := Tryz.underlying204
  a232 := Tryz.isAgg204
  z232 := Tryz.sizeOf204
  v232 := Tryz.zeroValue204
  t233 := Tryz.underlying205
  a233 := Tryz.isAgg205
  z233 := Tryz.sizeOf205
  v233 := Tryz.zeroValue205
  g17 := by kernel_rfl
  g18 := by kernel_rfl
  g19 := by kernel_rfl
  i0 := by kernel_rfl
  i2 := by kernel_rfl
  i3 := by kernel_rfl
  i4 := by kernel_rfl
  i5 := by kernel_rfl
  i9 := by kernel_rfl
  i20 := by kernel_rfl
  i37 := by kernel_rfl
  i46 := by kernel_rfl
  i51 := by kernel_rfl
  i53 := by kernel_rfl
  i171 := by kernel_rfl
  i173 := by kernel_rfl
  i212 := by kernel_rfl
  i232 := by kernel_rfl
  i233 := by kernel_rfl
  m17 := by kernel_rfl
  m18 := by kernel_rfl
  m19 := by kernel_rfl }
def lays144_ren : Go.Shelf.Ren := ⟨fun | 144 => 150 | 143 => 128 | 219 => 133 | 217 => 157 | 225 => 158 | 224 => 159 | 267 => 160 | 266 => 179 | 314 => 180 | n => n, fun | 9 => 9 | 4 => 4 | 3 => 3 | 5 => 5 | 46 => 126 | 146 => 177 | 51 => 176 | n => n, fun | 1 => 0 | n => n⟩
theorem lays144 : Go.Proofs.Lays.n144 Tryz.prog lays144_ren := {
  mixed := by kernel_rfl
  f143 := Tryz.func128.trans (congrArg some (by kernel_rfl))
  f144 := Tryz.func150.trans (congrArg some (by kernel_rfl))
  f217 := Tryz.func157.trans (congrArg some (by kernel_rfl))
  f219 := Tryz.func133.trans (congrArg some (by kernel_rfl))
  f224 := Tryz.func159.trans (congrArg some (by kernel_rfl))
  f225 := Tryz.func158.trans (congrArg some (by kernel_rfl))
  f266 := Tryz.func179.trans (congrArg some (by kernel_rfl))
  f267 := Tryz.func160.trans (congrArg some (by kernel_rfl))
  f314 := Tryz.func180.trans (congrArg some (by kernel_rfl))
  t3 := Tryz.underlying3
  a3 := Tryz.isAgg3
  z3 := Tryz.sizeOf3
  v3 := Tryz.zeroValue3
  t4 := Tryz.underlying4
  a4 := Tryz.isAgg4
  z4 := Tryz.sizeOf4
  v4 := Tryz.zeroValue4
  t5 := Tryz.underlying5
  a5 := Tryz.isAgg5
  z5 := Tryz.sizeOf5
  v5 := Tryz.zeroValue5
  t9 := Tryz.underlying9
  a9 := Tryz.isAgg9
  z9 := Tryz.sizeOf9
  v9 := Tryz.zeroValue9
  t46 := Tryz.underlying126
  a46 := Tryz.isAgg126
  z46 := Tryz.sizeOf126
  v46 := Tryz.zeroValue126
  t51 := Tryz.underlying176
  a51 := Tryz.isAgg176
  z51 := Tryz.sizeOf176
  v51 := Tryz.zeroValue176
  t146 := Tryz.underlying177
  a146 := Tryz.isAgg177
  z146 := Tryz.sizeOf177
  v146 := Tryz.zeroValue177
  g1 := by kernel_rfl }
def lays161_ren : Go.Shelf.Ren := ⟨fun | 161 => 194 | 231 => 199 | 227 => 200 | 233 => 201 | 235 => 202 | 228 => 208 | 197 => 131 | 151 => 209 | 260 => 156 | 152 => 214 | 137 => 215 | 119 => 216 | 224 => 159 | 225 => 158 | 217 => 157 | 266 => 179 | n => n, fun | 9 => 9 | 4 => 4 | 3 => 3 | 5 => 5 | 117 => 194 | 116 => 193 | 0 => 0 | 124 => 197 | 105 => 145 | 21 => 21 | 119 => 172 | 46 => 126 | 139 => 175 | 138 => 174 | n => n, fun | 3 => 1 | 4 => 2 | n => n⟩
theorem lays161 : Go.Proofs.Lays.n161 Tryz.prog lays161_ren := {
  mixed := by kernel_rfl
  f119 := Tryz.func216.trans (congrArg some (by kernel_rfl))
  f137 := Tryz.func215.trans (congrArg some (by kernel_rfl))
  f151 := Tryz.func209.trans (congrArg some (by kernel_rfl))
  f152 := Tryz.func214.trans (congrArg some (by kernel_rfl))
  f161 := Tryz.func194.trans (congrArg some (by kernel_rfl))
  f197 := Tryz.func131.trans (congrArg some (by kernel_rfl))
  f217 := Tryz.func157.trans (congrArg some (by kernel_rfl))
  f224 := Tryz.func159.trans (congrArg some (by kernel_rfl))
  f225 := Tryz.func158.trans (congrArg some (by kernel_rfl))
  f227 := Tryz.func200.trans (congrArg some (by kernel_rfl))
  f228 := Tryz.func208.trans (congrArg some (by kernel_rfl))
  f231 := Tryz.func199.trans (congrArg some (by kernel_rfl))
  f233 := Tryz.func201.trans (congrArg some (by kernel_rfl))
  f235 := Tryz.func202.trans (congrArg some (by kernel_rfl))
  f260 := Tryz.func156.trans (congrArg some (by kernel_rfl))
  f266 := Tryz.func179.trans (congrArg some (by kernel_rfl))
  t0 := Tryz.underlying0
  a0 := Tryz.isAgg0
  z0 := Tryz.sizeOf0
  v0 := Tryz.zeroValue0
  t3 := Tryz.underlying3
  a3 := Tryz.isAgg3
  z3 := Tryz.sizeOf3
  v3 := Tryz.zeroValue3
  t4 := Tryz.underlying4
  a4 := Tryz.isAgg4
  z4 := Tryz.sizeOf4
  v4 := Tryz.zeroValue4
  t5 := Tryz.underlying5
  a5 := Tryz.isAgg5
  z5 := Tryz.sizeOf5
  v5 := Tryz.zeroValue5
  t9 := Tryz.underlying9
  a9 := Tryz.isAgg9
  z9 := Tryz.sizeOf9
  v9 := Tryz.zeroValue9
  t21 := Tryz.underlying21
  a21 := Tryz.isAgg21
  z21 := Tryz.sizeOf21
  v21 := Tryz.zeroValue21
  t46 := Tryz.underlying126
  a46 := Tryz.isAgg126
  z46 := Tryz.sizeOf126
  v46 := Tryz.zeroValue126
  t105 := Tryz.underlying145
  a105 := Tryz.isAgg145
  z105 := Tryz.sizeOf145
  v105 := Tryz.zeroValue145
  t116 := Tryz.underlying193
  a116 := Tryz.isAgg193
  z116 := Tryz.sizeOf193
  t117 := Tryz.underlying194
  a117 := Tryz.isAgg194
  z117 := Tryz.sizeOf194
  v117 := Tryz.zeroValue194
  t119 := Tryz.underlying172
  a119 := Tryz.isAgg172
  z119 := Tryz.sizeOf172
  t124 := Tryz.underlying197
  a124 := Tryz.isAgg197
  z124 := Tryz.sizeOf197
  v124 := Tryz.zeroValue197
  t138 := Tryz.underlying174
  a138 := Tryz.isAgg174
  z138 := Tryz.sizeOf174
  v138 := Tryz.zeroValue174
  t139 := Tryz.underlying175
  a139 := Tryz.isAgg175
  z139 := Tryz.sizeOf175
  v139 := Tryz.zeroValue175
  g3 := by kernel_rfl
  g4 := by kernel_rfl }
def laysC174_ren : Go.Shelf.Ren := ⟨fun | 174 => 188 | 247 => 195 | 245 => 196 | 287 => 203 | 279 => 204 | 280 => 205 | 281 => 206 | 282 => 207 | 321 => 210 | 322 => 211 | 316 => 212 | 171 => 114 | 205 => 213 | 243 => 137 | 246 => 151 | 283 => 173 | 284 => 174 | 285 => 175 | 286 => 176 | 129 => 190 | 317 => 189 | 318 => 191 | 319 => 192 | 320 => 193 | 337 => 197 | 338 => 198 | n => n, fun | 9 => 9 | 3 => 3 | 2 => 2 | 75 => 142 | 85 => 183 | 4 => 4 | 167 => 198 | 5 => 5 | 53 => 58 | 175 => 199 | 46 => 126 | 168 => 201 | 37 => 43 | 0 => 0 | 210 => 211 | 21 => 21 | 127 => 156 | 145 => 216 | 143 => 214 | 171 => 164 | 173 => 167 | 212 => 186 | 51 => 176 | 20 => 20 | 213 => 187 | 232 => 204 | 233 => 205 | 80 => 147 | n => n, fun | 15 => 6 | 16 => 7 | 17 => 3 | 18 => 4 | 19 => 5 | n => n⟩
theorem laysC174 : Go.Proofs.LaysC.n174 Tryz.prog laysC174_ren := {
  mixed := by kernel_rfl
  f129 := Tryz.func190.trans (congrArg some (by kernel_rfl))
  f171 := Tryz.func114.trans (congrArg some (by kernel_rfl))
  f174 := Tryz.func188.trans (congrArg some (by kernel_rfl))
  f205 := Tryz.func213.trans (congrArg some (by kernel_rfl))
  f243 := Tryz.func137.trans (congrArg some (by kernel_rfl))
  f245 := Tryz.func196.trans (congrArg some (by kernel_rfl))
  f246 := Tryz.func151.trans (congrArg some (by kernel_rfl))
  f247 := Tryz.func195.trans (congrArg some (by kernel_rfl))
  f279 := Tryz.func204.trans (congrArg some (by kernel_rfl))
  f280 := Tryz.func205.trans (congrArg some (by kernel_rfl))
  f281 := Tryz.func206.trans (congrArg some (by kernel_rfl))
  f282 := Tryz.func207.trans (congrArg some (by kernel_rfl))
  f283 := Tryz.func173.trans (congrArg some (by kernel_rfl))
  f284 := Tryz.func174.trans (congrArg some (by kernel_rfl))
  f285 := Tryz.func175.trans (congrArg some (by kernel_rfl))
  f286 := Tryz.func176.trans (congrArg some (by kernel_rfl))
  f287 := Tryz.func203.trans (congrArg some (by kernel_rfl))
  f316 := Tryz.func212.trans (congrArg some (by kernel_rfl))
  f317 := Tryz.func189.trans (congrArg some (by kernel_rfl))
  f318 := Tryz.func191.trans (congrArg some (by kernel_rfl))
  f319 := Tryz.func192.trans (congrArg some (by kernel_rfl))
  f320 := Tryz.func193.trans (congrArg some (by kernel_rfl))
  f321 := Tryz.func210.trans (congrArg some (by kernel_rfl))
  f322 := Tryz.func211.trans (congrArg some (by kernel_rfl))
  f337 := Tryz.func197.trans (congrArg some (by kernel_rfl))
  f338 := Tryz.func198.trans (congrArg some (by kernel_rfl))
  t0 := Tryz.underlying0
  a0 := Tryz.isAgg0
  z0 := Tryz.sizeOf0
  v0 := Tryz.zeroValue0
  t2 := Tryz.underlying2
  a2 := Tryz.isAgg2
  z2 := Tryz.sizeOf2
  v2 := Tryz.zeroValue2
  t3 := Tryz.underlying3
  a3 := Tryz.isAgg3
  z3 := Tryz.sizeOf3
  v3 := Tryz.zeroValue3
  t4 := Tryz.underlying4
  a4 := Tryz.isAgg4
  z4 := Tryz.sizeOf4
  v4 := Tryz.zeroValue4
  t5 := Tryz.underlying5
  a5 := Tryz.isAgg5
  z5 := Tryz.sizeOf5
  v5 := Tryz.zeroValue5
  t9 := Tryz.underlying9
  a9 := Tryz.isAgg9
  z9 := Tryz.sizeOf9
  v9 := Tryz.zeroValue9
  t20 := Tryz.underlying20
  a20 := Tryz.isAgg20
  z20 := Tryz.sizeOf20
  v20 := Tryz.zeroValue20
  t21 := Tryz.underlying21
  a21 := Tryz.isAgg21
  z21 := Tryz.sizeOf21
  v21 := Tryz.zeroValue21
  t37 := Tryz.underlying43
  a37 := Tryz.isAgg43
  z37 := Tryz.sizeOf43
  v37 := Tryz.zeroValue43
  t46 := Tryz.underlying126
  a46 := Tryz.isAgg126
  z46 := Tryz.sizeOf126
  v46 := Tryz.zeroValue126
  t51 := Tryz.underlying176
  a51 := Tryz.isAgg176
  z51 := Tryz.sizeOf176
  v51 := Tryz.zeroValue176
  t53 := Tryz.underlying58
  a53 := Tryz.isAgg58
  z53 := Tryz.sizeOf58
  v53 := Tryz.zeroValue58
  t75 := Tryz.underlying142
  a75 := Tryz.isAgg142
  z75 := Tryz.sizeOf142
  v75 := Tryz.zeroValue142
  t85 := Tryz.underlying183
  a85 := Tryz.isAgg183
  z85 := Tryz.sizeOf183
  v85 := Tryz.zeroValue183
  t127 := Tryz.underlying156
  a127 := Tryz.isAgg156
  z127 := Tryz.sizeOf156
  v127 := Tryz.zeroValue156
  t143 := Tryz.underlying214
  a143 := Tryz.isAgg214
  z143 := Tryz.sizeOf214
  v143 := Tryz.zeroValue214
  t145 := Tryz.underlying216
  a145 := Tryz.isAgg216
  z145 := Tryz.sizeOf216
  v145 := Tryz.zeroValue216
  t167 := Tryz.underlying198
  a167 := Tryz.isAgg198
  z167 := Tryz.sizeOf198
  v167 := Tryz.zeroValue198
  t168 := Tryz.underlying201
  a168 := Tryz.isAgg201
  z168 := Tryz.sizeOf201
  v168 := Tryz.zeroValue201
  t171 := Tryz.underlying164
  a171 := Tryz.isAgg164
  z171 := Tryz.sizeOf164
  v171 := Tryz.zeroValue164
  t173 := Tryz.underlying167
  a173 := Tryz.isAgg167
  z173 := Tryz.sizeOf167
  v173 := Tryz.zeroValue167
  t175 := Tryz.underlying199
  a175 := Tryz.isAgg199
  z175 := Tryz.sizeOf199
  v175 := Tryz.zeroValue199
  t210 := Tryz.underlying211
  a210 := Tryz.isAgg211
  z210 := Tryz.sizeOf211
  v210 := Tryz.zeroValue211
  t212 := Tryz.underlying186
  a212 := Tryz.isAgg186
  z212 := Tryz.sizeOf186
  v212 := Tryz.zeroValue186
  t213 := Tryz.underlying187
  a213 := Tryz.isAgg187
  z213 := Tryz.sizeOf187
  t232 := Tryz.underlying204
  a232 := Tryz.isAgg204
  z232 := Tryz.sizeOf204
  v232 := Tryz.zeroValue204
  t233 := Tryz.underlying205
  a233 := Tryz.isAgg205
  z233 := Tryz.sizeOf205
  v233 := Tryz.zeroValue205
  g15 := by kernel_rfl
  g16 := by kernel_rfl
  g17 := by kernel_rfl
  g18 := by kernel_rfl
  g19 := by kernel_rfl
  t80 := Tryz.underlying147
  a80 := Tryz.isAgg147
  z80 := Tryz.sizeOf147
  v80 := Tryz.zeroValue147
  i0 := by kernel_rfl
  i2 := by kernel_rfl
  i3 := by kernel_rfl
  i4 := by kernel_rfl
  i5 := by kernel_rfl
  i9 := by kernel_rfl
  i20 := by kernel_rfl
  i21 := by kernel_rfl
  i37 := by kernel_rfl
  i46 := by kernel_rfl
  i51 := by kernel_rfl
  i53 := by kernel_rfl
  i75 := by kernel_rfl
  i80 := by kernel_rfl
  i85 := by kernel_rfl
  i127 := by kernel_rfl
  i143 := by kernel_rfl
  i145 := by kernel_rfl
  i167 := by kernel_rfl
  i168 := by kernel_rfl
  i171 := by kernel_rfl
  i173 := by kernel_rfl
  i175 := by kernel_rfl
  i210 := by kernel_rfl
  i212 := by kernel_rfl
  i232 := by kernel_rfl
  i233 := by kernel_rfl
  m15 := by kernel_rfl
  m16 := by kernel_rfl
  m17 := by kernel_rfl
  m18 := by kernel_rfl
  m19 := by kernel_rfl
  c0 := by kernel_rfl
  c2 := by kernel_rfl
  c3 := by kernel_rfl
  c4 := by kernel_rfl
  c5 := by kernel_rfl
  c9 := by kernel_rfl
  c20 := by kernel_rfl
  c21 := by kernel_rfl
  c37 := by kernel_rfl
  c46 := by kernel_rfl
  c51 := by kernel_rfl
  c53 := by kernel_rfl
  c75 := by kernel_rfl
  c80 := by kernel_rfl
  c85 := by kernel_rfl
  c127 := by kernel_rfl
  c143 := by kernel_rfl
  c145 := by kernel_rfl
  c167 := by kernel_rfl
  c168 := by kernel_rfl
  c171 := by kernel_rfl
  c173 := by kernel_rfl
  c175 := by kernel_rfl
  c210 := by kernel_rfl
  c212 := by kernel_rfl
  c213 := by kernel_rfl
  c232 := by kernel_rfl
  c233 := by kernel_rfl }
def lays99_ren : Go.Shelf.Ren := ⟨fun | 99 => 100 | 206 => 125 | n => n, fun | 9 => 9 | 4 => 4 | 3 => 3 | n => n, fun | n => n⟩
theorem lays99 : Go.Proofs.Lays.n99 Tryz.prog lays99_ren := {
  mixed := by kernel_rfl
  f99 := Tryz.func100.trans (congrArg some (by kernel_rfl))
  f206 := Tryz.func125.trans (congrArg some (by kernel_rfl))
  t3 := Tryz.underlying3
  a3 := Tryz.isAgg3
  z3 := Tryz.sizeOf3
  v3 := Tryz.zeroValue3
  t4 := Tryz.underlying4
  a4 := Tryz.isAgg4
  z4 := Tryz.sizeOf4
  v4 := Tryz.zeroValue4
  t9 := Tryz.underlying9
  a9 := Tryz.isAgg9
  z9 := Tryz.sizeOf9
  v9 := Tryz.zeroValue9 }
end Go.Proofs.YticofgmmjecleaaGreatDoor
namespace Go.Proofs.YticofgmmjecleaaGreatDoor
open Go
/-- The text of a number; of a term. -/
def txtN (p a : Int) : By := Lib.itoa (if (p - 1) / 2 < a then a - p else a)
def numP (p a : Int) : By := if txtN p a = [49] then [] else if txtN p a = [45, 49] then [45] else txtN p a
def termL (p : Int) (n m : Nat) (a : Int) : By := if m = 0 then txtN p a else numP p a ++ nameL n m
/-- The text of the first places. -/
def textTo (p : Int) (n : Nat) (x : List Int) : Nat → By
  | 0 => []
  | k + 1 => if x.getD k 0 = 0 then textTo p n x k else textTo p n x k ++ ((if textTo p n x k ≠ [] ∧ (termL p n k (x.getD k 0)).head? ≠ some 45 then [43] else []) ++ termL p n k (x.getD k 0))
def textL (p : Int) (n : Nat) (x : List Int) : By := if textTo p n x x.length = [] then [48] else textTo p n x x.length
/-- The number with a text. -/
def parF (p : Int) (t : By) : Nat → Nat → Option Int
  | 0, _ => none
  | k + 1, i => if txtN p i = t then some i else parF p t k (i + 1)
def parN (p : Int) (t : By) : Option Int := parF p t p.toNat 0
theorem index_one_nil (c : UInt8) : Lib.index [] [c] = -1 := rfl
theorem index_one_eq (c : UInt8) (l : By) : Lib.index (c :: l) [c] = 0 := by
  unfold Lib.index
  simp [List.isPrefixOf]
theorem index_one_ne {b c : UInt8} (h : b ≠ c) (l : By) : Lib.index (b :: l) [c] = if Lib.index l [c] = -1 then -1 else Lib.index l [c] + 1 := by
  conv => lhs; unfold Lib.index
  have : (c == b) = false := by simpa using fun e => h e.symm
  simp [List.isPrefixOf, this]
theorem index_none_of {c : UInt8} : ∀ {s : By}, (∀ b ∈ s, b ≠ c) → Lib.index s [c] = -1
  | [], _ => rfl
  | b :: l, h => by rw [index_one_ne (h b (by simp)), if_pos (index_none_of fun x hx => h x (by simp [hx]))]
theorem index_at_of {c : UInt8} : ∀ {s t : By}, (∀ b ∈ s, b ≠ c) → Lib.index (s ++ c :: t) [c] = s.length
  | [], t, _ => index_one_eq c t
  | b :: l, t, h => by
    have ih := index_at_of (t := t) fun x hx => h x (List.mem_cons_of_mem b hx)
    rw [List.cons_append, index_one_ne (h b (by simp)), ih, if_neg (by omega), List.length_cons]; omega
theorem cut_none {c : UInt8} {s : By} (h : ∀ b ∈ s, b ≠ c) : Lib.cut s [c] = (s, [], false) := by
  unfold Lib.cut
  rw [index_none_of h, if_neg (by decide)]
theorem cut_some {c : UInt8} {s t : By} (h : ∀ b ∈ s, b ≠ c) : Lib.cut (s ++ c :: t) [c] = (s, t, true) := by
  unfold Lib.cut
  rw [index_at_of h, if_pos (by omega)]
  have e : ((s.length : Nat) : Int).toNat = s.length := by omega
  rw [e]
  simp
def okN (t : By) : Bool := !t.isEmpty && t != [45] && t.all (fun b => b != 43 && b != 101) && t.tail.all (fun b => b != 45)
theorem num_all : ([3, 5, 7, 11, 13].all fun p : Nat => (List.range p).all fun a => okN (txtN p a) && (parN p (txtN p a) == some (a : Int))) = true := by decide +kernel
theorem name_all : ((List.range 7).all fun n => (List.range (pw n)).all fun m => maskOf n (nameL n m) == some m) = true := by decide +kernel
theorem isP_list {p : Int} (h : isP p = true) : ∃ q : Nat, p = q ∧ q ∈ [3, 5, 7, 11, 13] := by
  unfold isP at h
  simp only [Bool.or_eq_true, beq_iff_eq] at h
  rcases h with (((h | h) | h) | h) | h
  · exact ⟨3, h, by simp⟩
  · exact ⟨5, h, by simp⟩
  · exact ⟨7, h, by simp⟩
  · exact ⟨11, h, by simp⟩
  · exact ⟨13, h, by simp⟩
theorem num_facts {p : Int} (hP : isP p = true) {a : Int} (h0 : 0 ≤ a) (h1 : a < p) : okN (txtN p a) = true ∧ parN p (txtN p a) = some a := by
  obtain ⟨q, rfl, hq⟩ := isP_list hP
  have h := List.all_eq_true.1 (List.all_eq_true.1 num_all q hq) a.toNat (List.mem_range.2 (by omega))
  rw [Bool.and_eq_true, beq_iff_eq] at h
  rw [show ((a.toNat : Nat) : Int) = a by omega] at h
  exact h
theorem mask_name {n m : Nat} (hn : n ≤ 6) (hm : m < pw n) : maskOf n (nameL n m) = some m := by
  have h := List.all_eq_true.1 (List.all_eq_true.1 name_all n (List.mem_range.2 (by omega))) m (List.mem_range.2 hm)
  exact beq_iff_eq.1 h
/-- A name is 'e' and digits. -/
theorem nameTo_form (m : Nat) : ∀ n, n ≤ 6 → ∃ ds : By, nameTo m n = 101 :: ds ∧ ∀ b ∈ ds, 48 ≤ b.toNat ∧ b.toNat ≤ 57
  | 0, _ => ⟨[], rfl, fun b h => by cases h⟩
  | n + 1, hn => by
    obtain ⟨ds, e, h⟩ := nameTo_form m n (by omega)
    unfold nameTo
    by_cases hb : bit m n = 1
    · rw [if_pos hb, e]
      refine ⟨ds ++ [UInt8.ofNat (48 + n)], rfl, fun b hb => ?_⟩
      rcases List.mem_append.1 hb with h1 | h1
      · exact h b h1
      · rw [List.mem_singleton.1 h1]
        have : (UInt8.ofNat (48 + n)).toNat = 48 + n := by rw [UInt8.toNat_ofNat']; omega
        omega
    · rw [if_neg hb]; exact ⟨ds, e, h⟩
/-- What is known of a term: no '+', a '-' at the head alone, not empty. -/
def okT (t : By) : Prop := t ≠ [] ∧ (∀ b ∈ t, b ≠ 43) ∧ ∀ b ∈ t.tail, b ≠ 45
theorem okN_parts {t : By} (h : okN t = true) : t ≠ [] ∧ t ≠ [45] ∧ (∀ b ∈ t, b ≠ 43 ∧ b ≠ 101) ∧ ∀ b ∈ t.tail, b ≠ 45 := by
  unfold okN at h
  simp only [Bool.and_eq_true, List.all_eq_true, bne_iff_ne, ne_eq] at h
  refine ⟨fun e => by rw [e] at h; simp at h, h.1.1.2, h.1.2, h.2⟩
theorem numP_cases {p a : Int} (h : okN (txtN p a) = true) : (∀ b ∈ numP p a, b ≠ 43 ∧ b ≠ 101) ∧ (∀ b ∈ (numP p a).tail, b ≠ 45) ∧
    (if numP p a = [] ∨ numP p a = [45] then numP p a ++ [49] else numP p a) = txtN p a := by
  obtain ⟨h1, h1', h2, h3⟩ := okN_parts h
  unfold numP
  by_cases e1 : txtN p a = [49]
  · rw [if_pos e1, if_pos (Or.inl rfl)]
    exact ⟨fun b hb => absurd hb (by simp), fun b hb => absurd hb (by simp), e1.symm⟩
  · rw [if_neg e1]
    by_cases e2 : txtN p a = [45, 49]
    · rw [if_pos e2, if_pos (Or.inr rfl)]
      exact ⟨fun b hb => by rw [List.mem_singleton.1 hb]; decide, fun b hb => absurd hb (by simp), e2.symm⟩
    · rw [if_neg e2]
      refine ⟨h2, h3, ?_⟩
      rw [if_neg]
      rintro (e | e)
      · exact h1 e
      · exact h1' e
end Go.Proofs.YticofgmmjecleaaGreatDoor
namespace Go.Proofs.YticofgmmjecleaaGreatDoor
open Go
/-- All bytes are digits. -/
def allD (w : By) : Prop := ∀ b ∈ w, 48 ≤ b.toNat ∧ b.toNat ≤ 57
theorem decs_iff (b : UInt8) : decs.contains b = true ↔ 48 ≤ b.toNat ∧ b.toNat ≤ 57 := by
  have : ∀ n : Fin 256, (decs.contains (UInt8.ofNat n.val) = true ↔ 48 ≤ n.val ∧ n.val ≤ 57) := by decide +kernel
  have h := this ⟨b.toNat, b.toNat_lt⟩
  simpa using h
theorem digL_all : ∀ t : By, allD (digL t)
  | [] => fun b hb => by simp [digL] at hb
  | c :: r => fun b hb => by
    unfold digL at hb
    rw [List.takeWhile_cons] at hb
    split at hb
    · rename_i hc
      rcases List.mem_cons.1 hb with e | h
      · rw [e]; exact (decs_iff c).1 hc
      · exact digL_all r b h
    · simp at hb
def spl (a : Nat) (t : By) : Nat := t.foldl (fun a c => a * 10 + (c.toNat - 48)) a
theorem spl_snoc (a : Nat) (t : By) (c : UInt8) : spl a (t ++ [c]) = spl a t * 10 + (c.toNat - 48) := by unfold spl; rw [List.foldl_append]; rfl
theorem spl_lt : ∀ (t : By) (a k : Nat), allD t → a < 10 ^ k → spl a t < 10 ^ (k + t.length)
  | [], a, k, _, h => h
  | c :: r, a, k, hd, h => by
    have hc := hd c (List.mem_cons_self ..)
    have := spl_lt r (a * 10 + (c.toNat - 48)) (k + 1) (fun b hb => hd b (List.mem_cons_of_mem _ hb)) (by rw [Nat.pow_succ]; omega)
    rw [List.length_cons, show k + (r.length + 1) = k + 1 + r.length by omega]
    exact this
theorem parseM_spl : ∀ (t : By) (a k : Nat), allD t → a < 10 ^ k → k + t.length ≤ 9 → Lib.parseUintM 18446744073709551615 a t = .ok (spl a t)
  | [], a, k, _, _, _ => rfl
  | c :: r, a, k, hd, h, hl => by
    have hc := hd c (List.mem_cons_self ..)
    rw [List.length_cons] at hl
    have h9 : 10 ^ k ≤ 10 ^ 8 := Nat.pow_le_pow_right (by decide) (by omega)
    have e8 : (10 : Nat) ^ 8 = 100000000 := by decide
    simp only [Lib.parseUintM]
    rw [if_pos hc, if_neg (by omega), if_neg (by omega)]
    exact parseM_spl r _ (k + 1) (fun b hb => hd b (List.mem_cons_of_mem _ hb)) (by rw [Nat.pow_succ]; omega) (by omega)
theorem parseM_not : ∀ (t : By) (a : Nat), allD t → Lib.parseUintM 18446744073709551615 a t ≠ .syntax
  | [], a, _ => by simp [Lib.parseUintM]
  | c :: r, a, hd => by
    have hc := hd c (List.mem_cons_self ..)
    simp only [Lib.parseUintM]
    rw [if_pos hc]
    split
    · simp
    · split
      · simp
      · exact parseM_not r _ (fun b hb => hd b (List.mem_cons_of_mem _ hb))
theorem parse_short {w : By} (hd : allD w) (h0 : w ≠ []) (h9 : w.length ≤ 9) : Lib.parseIntB 64 w = .ok ((spell w : Nat) : Int) := by
  cases w with
  | nil => exact absurd rfl h0
  | cons c r =>
    have hc := hd c (List.mem_cons_self ..)
    rw [Lib.parseIntB_plain 64 c r (by omega) (by omega)]
    have e : Lib.parseUintB 64 (c :: r) = .ok (spell (c :: r)) := by
      unfold Lib.parseUintB
      rw [if_neg (by simp)]
      exact parseM_spl (c :: r) 0 0 hd (by decide) (by omega)
    have hlt : spell (c :: r) < 10 ^ 9 := by
      have := spl_lt (c :: r) 0 0 hd (by decide)
      rw [Nat.zero_add] at this
      exact Nat.lt_of_lt_of_le this (Nat.pow_le_pow_right (by decide) h9)
    have e9 : (10 : Nat) ^ 9 = 1000000000 := by decide
    have e63 : (2 : Nat) ^ (64 - 1) = 9223372036854775808 := by decide
    rw [e]
    simp only [Lib.signlessC]
    rw [if_neg (by rw [e63]; omega)]
theorem parse_syntax {w : By} (hd : allD w) (h : Lib.parseIntB 64 w = .syntax) : w = [] := by
  cases w with
  | nil => rfl
  | cons c r =>
    exfalso
    have hc := hd c (List.mem_cons_self ..)
    rw [Lib.parseIntB_plain 64 c r (by omega) (by omega)] at h
    have e : Lib.parseUintB 64 (c :: r) ≠ .syntax := by
      unfold Lib.parseUintB
      rw [if_neg (by simp)]
      exact parseM_not (c :: r) 0 hd
    cases hu : Lib.parseUintB 64 (c :: r) with
    | «syntax» => exact e hu
    | range => rw [hu] at h; simp [Lib.signlessC] at h
    | ok u => rw [hu] at h; simp only [Lib.signlessC] at h; split at h <;> cases h
theorem dec_head (u : Nat) : ∃ c r, Lib.decDigits u = c :: r ∧ (u ≠ 0 → c ≠ 48) := by
  induction u using Nat.strongRecOn with
  | ind u ih =>
    rw [Lib.decDigits]
    by_cases h : u < 10
    · rw [dif_pos h]
      refine ⟨_, _, rfl, fun h0 e => ?_⟩
      have := congrArg UInt8.toNat e
      rw [UInt8.toNat_ofNat'] at this
      have e48 : (48 : UInt8).toNat = 48 := rfl
      omega
    · rw [dif_neg h]
      obtain ⟨c, r, e, h1⟩ := ih (u / 10) (by omega)
      rw [e]
      exact ⟨c, r ++ _, rfl, fun _ => h1 (by omega)⟩
theorem dec_spell : ∀ (n : Nat) (w : By), w.length = n → allD w → w ≠ [] → ¬ (1 < w.length ∧ w.head? = some 48) → Lib.decDigits (spell w) = w
  | n, w, hn, hd, h0, hz => by
    obtain ⟨v, d, rfl⟩ : ∃ v d, w = v ++ [d] := ⟨w.dropLast, w.getLast h0, (List.dropLast_concat_getLast h0).symm⟩
    have hdd := hd d (by simp)
    have hs : spell (v ++ [d]) = spell v * 10 + (d.toNat - 48) := spl_snoc 0 v d
    have ed : UInt8.ofNat (48 + (d.toNat - 48)) = d := by rw [show 48 + (d.toNat - 48) = d.toNat by omega]; simp
    rw [hs, Lib.decDigits]
    cases v with
    | nil =>
      have e0 : spell ([] : By) = 0 := rfl
      rw [e0, Nat.zero_mul, Nat.zero_add, dif_pos (by omega), ed]
      rfl
    | cons c r =>
      have hl : (c :: r ++ [d]).length = r.length + 2 := by simp
      have hc48 : c ≠ 48 := fun e => hz ⟨by rw [hl]; omega, by rw [e]; rfl⟩
      have hcd := hd c (by simp)
      have ih := dec_spell (r.length + 1) (c :: r) (by simp) (fun b hb => hd b (List.mem_append_left _ hb)) (by simp) (fun hx => hc48 (by simpa using hx.2))
      have hpos : spell (c :: r) ≠ 0 := fun e => by
        rw [e] at ih
        have : Lib.decDigits 0 = [48] := by rw [Lib.decDigits, dif_pos (by decide)]; rfl
        rw [this] at ih
        injection ih with e1 _
        exact hc48 e1.symm
      rw [dif_neg (by omega), show (spell (c :: r) * 10 + (d.toNat - 48)) / 10 = spell (c :: r) by omega, show (spell (c :: r) * 10 + (d.toNat - 48)) % 10 = d.toNat - 48 by omega, ih, ed]
termination_by n => n
decreasing_by simp at hn; omega
theorem itoa_nat (u : Nat) : Lib.itoa (u : Int) = Lib.decDigits u := by unfold Lib.itoa; rw [if_neg (by omega)]; rfl
/-- What ParseInt says of digits. -/
theorem num_bad {w : By} (hd : allD w) (h : Lib.parseIntB 64 w = .syntax ∨ Lib.parseIntB 64 w = .range) : numF w = none := by
  unfold numF
  rcases h with h | h
  · rw [if_pos (Or.inl (parse_syntax hd h))]
  · by_cases h0 : w = []
    · rw [if_pos (Or.inl h0)]
    · by_cases h9 : w.length ≤ 9
      · rw [parse_short hd h0 h9] at h; cases h
      · rw [if_pos (Or.inr (Or.inl (by omega)))]
theorem num_ok {w : By} (hd : allD w) {v : Int} (h : Lib.parseIntB 64 w = .ok v) (h9 : w.length ≤ 9) : (0 ≤ v ∧ v < 1000000000) ∧ ((Lib.itoa v = w ∧ numF w = some v.toNat) ∨ (Lib.itoa v ≠ w ∧ numF w = none)) := by
  have h0 : w ≠ [] := fun e => by subst e; cases h
  rw [parse_short hd h0 h9] at h
  injection h with h
  subst h
  rw [itoa_nat]
  have hlt : spell w < 1000000000 := by
    have := spl_lt w 0 0 hd (by decide)
    rw [Nat.zero_add] at this
    exact Nat.lt_of_lt_of_le this (Nat.pow_le_pow_right (n := 10) (by decide) h9)
  refine ⟨by omega, ?_⟩
  unfold numF
  by_cases hz : 1 < w.length ∧ w.head? = some 48
  · right
    rw [if_pos (Or.inr (Or.inr hz))]
    refine ⟨fun e => ?_, rfl⟩
    obtain ⟨c, r, e1, e2⟩ := dec_head (spell w)
    by_cases hs : spell w = 0
    · have : Lib.decDigits 0 = [48] := by rw [Lib.decDigits, dif_pos (by decide)]; rfl
      rw [hs, this] at e
      rw [← e] at hz
      exact absurd hz.1 (by decide)
    · rw [← e, e1] at hz
      exact e2 hs (by simpa using hz.2)
  · left
    rw [if_neg (fun h => h.elim h0 (fun h => h.elim (by omega) hz))]
    exact ⟨dec_spell _ w rfl hd h0 hz, rfl⟩
theorem num_long {w : By} (h9 : 9 < w.length) : numF w = none := by unfold numF; rw [if_pos (Or.inr (Or.inl h9))]
/-- What the reference's l01Value says. -/
def valV (w : By) : Int := match numF w with
  | some k => (k : Int)
  | none => -1
theorem spell_take {w : By} {k : Nat} (hk : k < w.length) : spell (w.take (k + 1)) = spell (w.take k) * 10 + ((w[k]).toNat - 48) := by
  rw [List.take_succ_eq_append_getElem hk]
  exact spl_snoc 0 _ _
end Go.Proofs.YticofgmmjecleaaGreatDoor
namespace Go.Proofs.YticofgmmjecleaaGreatDoor
open Go Go.RowKit
theorem Itoa_d (i : Nat) (hi : i < 10) (w : World) : Calls Tryz.prog 114 #[.int .i64 i] w fun e w' => e = .returned (.string ⟨[UInt8.ofNat (48 + i)].toArray⟩) ∧ w = w' :=
  (Any.strconv_Itoa_small lays171 i (by omega) w).mono fun e w' ⟨h1, h2⟩ => ⟨by rw [h1, Lib.decDigits_one hi], h2.symm⟩
theorem FormatInt_any (n : Int) (h0 : -4611686018427387904 ≤ n) (h1 : n ≤ 4611686018427387904) (w : World) (he : Env w) : Calls Tryz.prog 124 #[.int .i64 n, .int .i64 10] w fun e w' => e = .returned (.string ⟨(Lib.itoa n).toArray⟩) ∧ Below w.heap.size w w' :=
  (Any.strconv_FormatInt_10 laysM173 n (by omega) (by omega) w (he.tab (by kernel_rfl))).mono fun e w' ⟨h1, k, os, h2⟩ => ⟨h1, by rw [h2]; exact Lib.below_grow _ w (Nat.le_refl _) k os⟩
theorem Contains_any (s sub : By) (w : World) (hs : s.length ≤ 1048576) (he : Env w) : Calls Tryz.prog 150 #[.string ⟨s.toArray⟩, .string ⟨sub.toArray⟩] w fun e w' => e = .returned (.bool (Lib.contains s sub)) ∧ w = w' := by
  obtain ⟨m, hm⟩ := he.m
  exact (Any.strings_Contains lays144 ⟨s.toArray⟩ ⟨sub.toArray⟩ m w (by rw [bs_len]; omega) hm).mono fun e w' ⟨h1, h2⟩ => ⟨h1, h2.symm⟩
theorem TrimDig_any (s : By) (w : World) : Calls Tryz.prog 194 #[.string ⟨s.toArray⟩, .string ⟨#[48, 49, 50, 51, 52, 53, 54, 55, 56, 57]⟩] w fun e w' => e = .returned (.string ⟨(resL s).toArray⟩) ∧ Below w.heap.size w w' :=
  (Any.strings_TrimLeft_laid lays161 (by kernel_rfl) ⟨s.toArray⟩ ⟨#[48, 49, 50, 51, 52, 53, 54, 55, 56, 57]⟩ w (by decide) (ascii_of_all (by decide))).mono fun e w' ⟨h1, h2⟩ => ⟨h1, h2⟩
theorem ParseInt_any (s : By) (w : World) (hs : s.length ≤ 1048576) (he : EnvX w) : Calls Tryz.prog 188 #[.string ⟨s.toArray⟩, .int .i64 10, .int .i64 64] w fun e w' => ∃ (v : Int) (ev : Value), e = .returned (.tuple #[.int .i64 v, ev]) ∧ ((ev = .nilIface ∧ Lib.parseIntB 64 s = .ok v) ∨ ((∃ t p, ev = .iface t p) ∧ (Lib.parseIntB 64 s = .syntax ∨ Lib.parseIntB 64 s = .range))) ∧ Below w.heap.size w w' := by
  have hsz : (ByteArray.mk s.toArray).size = s.length := bs_len s
  cases h : Lib.parseIntB 64 s with
  | ok v =>
    refine (Any.strconv_ParseInt_10_at64_ok laysC174 ⟨s.toArray⟩ (by rw [hsz]; omega) v h w).mono fun e w' ⟨h1, h2⟩ => ⟨v, .nilIface, h1, .inl ⟨rfl, rfl⟩, ?_⟩
    rcases h2 with rfl | ⟨t, rfl⟩
    · exact Below.refl _ _
    · exact Lib.bytesWorld_below _ _ _
  | «syntax» =>
    obtain ⟨tp, p, hp⟩ := he.s
    exact (Any.strconv_ParseInt_10_at64_syntax_var laysC174 ⟨s.toArray⟩ (by rw [hsz]; omega) h tp p w (hp.var (by kernel_rfl))).mono fun e w' ⟨N, h1, h2, h3, h4⟩ => ⟨_, _, h1, .inr ⟨⟨_, _, rfl⟩, .inl rfl⟩, h4⟩
  | range =>
    obtain ⟨tp, p, hp⟩ := he.r
    exact (Any.strconv_ParseInt_10_at64_range_var laysC174 ⟨s.toArray⟩ (by rw [hsz]; omega) h tp p w (hp.var (by kernel_rfl))).mono fun e w' ⟨N, h1, h2, h3, h4⟩ => ⟨_, _, h1, .inr ⟨⟨_, _, rfl⟩, .inr rfl⟩, h4⟩
theorem HasPrefix_any (s p : By) (w : World) : Calls Tryz.prog 100 #[.string ⟨s.toArray⟩, .string ⟨p.toArray⟩] w fun e w' => e = .returned (.bool (Lib.hasPrefix s p)) ∧ w = w' :=
  (Any.strings_HasPrefix lays99 ⟨s.toArray⟩ ⟨p.toArray⟩ w).mono fun e w' ⟨h1, h2⟩ => ⟨h1, h2.symm⟩
end Go.Proofs.YticofgmmjecleaaGreatDoor
namespace Go.Proofs.YticofgmmjecleaaGreatDoor
open Go.RowKit
set_option maxHeartbeats 400000 in
set_option maxRecDepth 8000 in
theorem l01Prime_any (p : Int) (w : World) :
    Calls Tryz.prog 85 #[.int .i64 p] w fun e w' => e = .returned (.bool (isP p)) ∧ w = w' := by
  by_cases h3 : p = 3
  · subst h3
    go_enter Tryz.func85, Tryz.ntmps85
    go_wp2
    go_ret
    exact ⟨rfl, rfl⟩
  have b3 : (p == 3) = false := by simpa using h3
  by_cases h5 : p = 5
  · subst h5
    go_enter Tryz.func85, Tryz.ntmps85
    go_wp2
    go_ret
    exact ⟨rfl, rfl⟩
  have b5 : (p == 5) = false := by simpa using h5
  by_cases h7 : p = 7
  · subst h7
    go_enter Tryz.func85, Tryz.ntmps85
    go_wp2
    go_ret
    exact ⟨rfl, rfl⟩
  have b7 : (p == 7) = false := by simpa using h7
  by_cases h11 : p = 11
  · subst h11
    go_enter Tryz.func85, Tryz.ntmps85
    go_wp2
    go_ret
    exact ⟨rfl, rfl⟩
  have b11 : (p == 11) = false := by simpa using h11
  go_enter Tryz.func85, Tryz.ntmps85
  go_wp2
  go_ret
  exact ⟨ret_bool (by simp [isP, b3, b5, b7, b11]), rfl⟩
theorem l01Prime_b {b : Bool} (p : Int) (w : World) (h : isP p = b) :
    Calls Tryz.prog 85 #[.int .i64 p] w fun e w' => e = .returned (.bool b) ∧ w = w' := h ▸ l01Prime_any p w
set_option maxHeartbeats 400000 in
set_option maxRecDepth 8000 in
theorem l01In_any (n lo hi : Int) (w : World) :
    Calls Tryz.prog 86 #[.int .i64 n, .int .i64 lo, .int .i64 hi] w fun e w' => e = .returned (.bool (inR n lo hi)) ∧ w = w' := by
  by_cases h : lo ≤ n
  · go_enter Tryz.func86, Tryz.ntmps86
    go_wp2
    go_ret
    exact ⟨ret_bool (by simp [inR, h]), rfl⟩
  · go_enter Tryz.func86, Tryz.ntmps86
    go_wp2
    go_ret
    exact ⟨ret_bool (by simp [inR]; omega), rfl⟩
theorem l01In_b {b : Bool} (n lo hi : Int) (w : World) (h : inR n lo hi = b) :
    Calls Tryz.prog 86 #[.int .i64 n, .int .i64 lo, .int .i64 hi] w fun e w' => e = .returned (.bool b) ∧ w = w' := h ▸ l01In_any n lo hi w
set_option maxHeartbeats 400000 in
set_option maxRecDepth 8000 in
theorem l01Numbers_any (p : Int) (A : Option Addr) (n c : Nat) (xs : List Int) (w : World) (hp : 0 < p) (hp2 : p ≤ 100) (hn : n ≤ 1099511627776) (ha : Rd w A n (ints xs)) :
    Calls Tryz.prog 87 #[.int .i64 p, .slice A n c] w fun e w' => e = .returned (.bool (nums p xs)) ∧ w = w' := by
  have hxl : xs.length = n := by have := ha.1; rwa [ints_length] at this
  have Hx := Lib.hid hxl; clear hxl
  go_enter Tryz.func87, Tryz.ntmps87
  go_wp2
  go_loop [5] (fun i => ∃ k : Nat, k ≤ n ∧ i = .int .i64 k ∧ nums p (xs.take k) = true) (fun i => n - (intOf i).toNat)
  case atStart => exact ⟨0, by omega, rfl, by simp [nums]⟩
  case round =>
    obtain ⟨k, hk, rfl, ht⟩ := hrel
    have H := Lib.hid ht; clear ht
    by_cases hlt : k < n
    · obtain ⟨g, o, rfl, hx, hcx⟩ := ha.int hlt
      clear ha
      cases hi : inR xs[k] 0 (p - 1)
      all_goals
        have HI := Lib.hid hi; clear hi
        go_wp2_with (go_at_call 86; refine (l01In_b _ _ _ _ HI.out).mono ?_; rintro e w' ⟨rfl, rfl⟩)
      · go_ret
        exact ⟨ret_bool (nums_bad p xs k hx HI.out).symm, rfl⟩
      · go_round
        case rel => exact ⟨k + 1, by omega, by go_num, nums_take p xs k hx H.out HI.out⟩
        case measure => simp [intOf]; omega
    · go_wp2
      go_ret
      have := H.out
      rw [List.take_of_length_le (by rw [Hx.out]; omega)] at this
      exact ⟨ret_bool this.symm, rfl⟩
set_option maxHeartbeats 800000 in
set_option maxRecDepth 8000 in
theorem l03Is_any (P : Int) (A : Option Addr) (n c : Nat) (xs : List Int) (w : World) (hn : n ≤ 1099511627776) (ha : Rd w A n (ints xs)) :
    Calls Tryz.prog 46 #[.agg #[.int .i64 P, .slice A n c]] w fun e w' => e = .returned (.bool (isSp P xs)) ∧ Below w.heap.size w w' := by
  have hxl : xs.length = n := by have := ha.1; rwa [ints_length] at this
  have Hx := Lib.hid hxl; clear hxl
  have hB : Below w.heap.size w (w.alloc (.cells #[.int .i64 P, .slice A n c] 28)) := (Below.refl _ _).alloc (Nat.le_refl _) _
  have ha' := ha.below hB
  cases h1 : isP P
  · have H1 := Lib.hid h1; clear h1
    go_enter Tryz.func46, Tryz.ntmps46
    go_wp2_with (go_at_call 85; refine (l01Prime_b _ _ H1.out).mono ?_; rintro e w' ⟨rfl, rfl⟩)
    go_ret
    exact ⟨ret_bool (by simp [isSp, H1.out]), hB⟩
  · obtain ⟨hp0, hp1⟩ := isP_pos h1
    have H1 := Lib.hid h1; clear h1
    cases h2 : inR n 1 6
    · have H2 := Lib.hid h2; clear h2
      go_enter Tryz.func46, Tryz.ntmps46
      go_wp2_with (first | (go_at_call 85; refine (l01Prime_b _ _ H1.out).mono ?_; rintro e w' ⟨rfl, rfl⟩) | (go_at_call 86; refine (l01In_b _ _ _ _ H2.out).mono ?_; rintro e w' ⟨rfl, rfl⟩))
      go_ret
      exact ⟨ret_bool (by simp [isSp, H1.out, H2.out, Hx.out]), hB⟩
    · have H2 := Lib.hid h2; clear h2
      go_enter Tryz.func46, Tryz.ntmps46
      go_wp2_with (first | (go_at_call 85; refine (l01Prime_b _ _ H1.out).mono ?_; rintro e w' ⟨rfl, rfl⟩) | (go_at_call 86; refine (l01In_b _ _ _ _ H2.out).mono ?_; rintro e w' ⟨rfl, rfl⟩) | (go_at_call 87; refine (l01Numbers_any _ _ _ _ _ _ hp0 (by omega) hn ha').mono ?_; rintro e w' ⟨rfl, rfl⟩))
      go_ret
      exact ⟨ret_bool (by simp [isSp, H1.out, H2.out, Hx.out]), hB⟩
theorem l03Is_b {b : Bool} (P : Int) (A : Option Addr) (n c : Nat) (xs : List Int) (w : World) (hn : n ≤ 1099511627776) (ha : Rd w A n (ints xs)) (h : isSp P xs = b) :
    Calls Tryz.prog 46 #[.agg #[.int .i64 P, .slice A n c]] w fun e w' => e = .returned (.bool b) ∧ Below w.heap.size w w' := h ▸ l03Is_any P A n c xs w hn ha
end Go.Proofs.YticofgmmjecleaaGreatDoor
namespace Go.Proofs.YticofgmmjecleaaGreatDoor
open Go.RowKit
set_option maxHeartbeats 400000 in
set_option maxRecDepth 8000 in
theorem l04Size_any (P : Int) (A : Option Addr) (n c : Nat) (w : World) (hn : n ≤ 30) :
    Calls Tryz.prog 74 #[.agg #[.int .i64 P, .slice A n c]] w fun e w' => e = .returned (.int .i64 (pw n)) ∧ Below w.heap.size w w' := by
  go_enter Tryz.func74, Tryz.ntmps74
  go_wp2
  go_ret
  exact ⟨ret_int (wrap_pw n hn), (Below.refl _ _).alloc (Nat.le_refl _) _⟩
/-- Is it a multivector of a space with the squares xs? -/
def isMu (P : Int) (xs ys : List Int) : Bool := (((ys.length : Nat) : Int) == ((pw xs.length : Nat) : Int)) && nums P ys
theorem inR_16 {n : Nat} (h : inR n 1 6 = true) : 1 ≤ n ∧ n ≤ 6 := by simp [inR] at h; omega
theorem isSp_dim {P : Int} {xs : List Int} (h : isSp P xs = true) : isP P = true ∧ 1 ≤ xs.length ∧ xs.length ≤ 6 ∧ nums P xs = true := by
  simp only [isSp, Bool.and_eq_true] at h
  obtain ⟨⟨h1, h2⟩, h3⟩ := h
  obtain ⟨h4, h5⟩ := inR_16 h2
  exact ⟨h1, h4, h5, h3⟩
end Go.Proofs.YticofgmmjecleaaGreatDoor
namespace Go.Proofs.YticofgmmjecleaaGreatDoor
open Go Go.RowKit
theorem nameTo_len (m : Nat) : ∀ k, (nameTo m k).length ≤ k + 1
  | 0 => by simp [nameTo]
  | k + 1 => by
    have := nameTo_len m k
    unfold nameTo
    split
    · simp; omega
    · omega
theorem nameTo_succ1 {m k : Nat} (h : bit m k = 1) : nameTo m (k + 1) = nameTo m k ++ [UInt8.ofNat (48 + k)] := by rw [nameTo, if_pos h]
theorem nameTo_succ0 {m k : Nat} (h : ¬ bit m k = 1) : nameTo m (k + 1) = nameTo m k := by rw [nameTo, if_neg h]
set_option maxHeartbeats 800000 in
set_option maxRecDepth 8000 in
theorem nameOf_any (P : Int) (A : Option Addr) (n c m : Nat) (w : World) (hn : n ≤ 6) (hm : m < 64) :
    Calls Tryz.prog 79 #[.agg #[.int .i64 P, .slice A n c], .int .i64 m] w fun e w' => e = .returned (.string ⟨(nameL n m).toArray⟩) ∧ Below w.heap.size w w' := by
  have hB0 : Below w.heap.size w (w.alloc (.cells #[.int .i64 P, .slice A n c] 28)) := (Below.refl _ _).alloc (Nat.le_refl _) _
  by_cases h0 : m = 0
  · subst h0
    go_enter Tryz.func79, Tryz.ntmps79
    go_wp2
    go_ret
    exact ⟨rfl, hB0⟩
  · have d0 : ((m : Int) == 0) = false := by simp; omega
    have HN : Hid (nameL n m = nameTo m n) := Lib.hid (by unfold nameL; rw [if_neg h0])
    have hdim := fun w => dim_any P A n c w
    clear h0
    go_enter Tryz.func79, Tryz.ntmps79
    go_wp2_with (go_at_call 78; refine (hdim _).mono ?_; rintro e w1 ⟨rfl, hb1⟩)
    have hB1 : Below w.heap.size w w1 := hB0.trans (hb1.mono (by simp))
    clear hb1 hdim hB0
    go_loopw [5, 11] (fun out i wr => ∃ k : Nat, k ≤ n ∧ i = .int .i64 k ∧ out = .string ⟨(nameTo m k).toArray⟩ ∧ Below w.heap.size w wr) (fun _ i _ => n - (intOf i).toNat)
    case atStart => exact ⟨0, by omega, rfl, rfl, hB1⟩
    case round =>
      obtain ⟨k, hk, rfl, rfl, hM⟩ := hrel
      clear hB1
      by_cases hlt : k < n
      · cases hb : (bits BinOp.and IntKind.i64 ((m : Int) / 2 ^ k) 1 == 1)
        · have hb' := Lib.hid (bit0 (by omega) hm hb)
          go_wp2
          go_roundw
          case rel => exact ⟨k + 1, by omega, by go_num, by rw [nameTo_succ0 hb'.out], hM⟩
          case measure => simp [intOf]; omega
        · have hb' := Lib.hid (bit1 (by omega) hm hb)
          have hit := Itoa_d k (by omega) wr
          have hl := nameTo_len m k
          obtain ⟨z, hz⟩ : ∃ z : By, z = [UInt8.ofNat (48 + k)] := ⟨_, rfl⟩
          have hzl : z.length ≤ 1 := by rw [hz]; exact Nat.le_refl 1
          have hcat := cat_bs (P := Tryz.prog) wr (nameTo m k) z (by omega) (by omega)
          rw [← hz] at hit
          have HZ := Lib.hid hz
          clear hl hz hzl
          go_wp2_with (go_at_call 114; refine hit.mono ?_; rintro e w2 ⟨rfl, rfl⟩)
          go_roundw
          case rel => exact ⟨k + 1, by omega, by go_num, by rw [nameTo_succ1 hb'.out, ← HZ.out], hM⟩
          case measure => simp [intOf]; omega
      · obtain rfl : k = n := by omega
        go_wp2
        go_ret
        exact ⟨by rw [HN.out]; rfl, hM⟩
theorem maskF_step (n : Nat) (t : By) (k i : Nat) : maskF n t (k + 1) i = if nameL n i = t then some i else maskF n t k (i + 1) := rfl
/-- The first name from i on is found, or none is. -/
theorem maskF_from (n : Nat) (t : By) : ∀ d i, (∀ j, j < i → nameL n j ≠ t) → i + d = pw n → maskOf n t = maskF n t d i
  | d, 0, _, hd => by rw [Nat.zero_add] at hd; subst hd; rfl
  | d, i + 1, h, hd => by
    rw [maskF_from n t (d + 1) i (fun j hj => h j (by omega)) (by omega), maskF_step, if_neg (h i (by omega))]
def markI (o : Option Nat) : Int := match o with
  | some m => (m : Int)
  | none => 0
set_option maxHeartbeats 1600000 in
set_option maxRecDepth 8000 in
theorem named_any (P : Int) (A : Option Addr) (n c : Nat) (t : By) (w : World) (hn : n ≤ 6) :
    Calls Tryz.prog 67 #[.agg #[.int .i64 P, .slice A n c], .string ⟨t.toArray⟩] w fun e w' => e = .returned (.tuple #[.int .i64 (markI (maskOf n t)), .bool (maskOf n t).isSome]) ∧ Below w.heap.size w w' := by
  have hB0 : Below w.heap.size w (w.alloc (.cells #[.int .i64 P, .slice A n c] 28)) := (Below.refl _ _).alloc (Nat.le_refl _) _
  have hk0 : Blk (w.alloc (.cells #[.int .i64 P, .slice A n c] 28)) w.heap.size 28 #[.int .i64 P, .slice A n c] := Blk.new _ _ _
  have hdim := fun w => dim_any P A n c w
  have hpw : pw n ≤ 64 := pw_le hn
  obtain ⟨R, hR⟩ : ∃ R, R = maskOf n t := ⟨_, rfl⟩
  have HR := Lib.hid hR
  rw [← hR]
  clear hR
  go_enter Tryz.func67, Tryz.ntmps67
  go_wp2_with (go_at_call 78; refine (hdim _).mono ?_; rintro e w1 ⟨rfl, hb1⟩)
  have hB1 : Below w.heap.size w w1 := hB0.trans (hb1.mono (by simp))
  have hk1 := hk0.below hb1 hk0.lt
  clear hb1 hdim hB0 hk0
  rw [wrap_pw n (by omega)]
  obtain ⟨N, hN⟩ : ∃ N, N = pw n := ⟨_, rfl⟩
  have HN := Lib.hid hN
  rw [← hN] at hpw ⊢
  clear hN
  go_loopw [10] (fun i wr => ∃ k : Nat, k ≤ N ∧ i = .int .i64 k ∧ (∀ j, j < k → nameL n j ≠ t) ∧ Below w1.heap.size w1 wr) (fun i _ => N - (intOf i).toNat)
  case atStart => exact ⟨0, by omega, rfl, fun j hj => absurd hj (by omega), Below.refl _ _⟩
  case round =>
    obtain ⟨k, hk, rfl, hnot, hM⟩ := hrel
    have HT := Lib.hid hnot
    clear hnot
    have hkr := hk1.below hM hk1.lt
    obtain ⟨q0, q1⟩ := hkr.two
    by_cases hlt : k < N
    · have hnm := nameOf_any P A n c k wr hn (by omega)
      have hd : maskF n t (N - k) k = if nameL n k = t then some k else maskF n t (N - (k + 1)) (k + 1) := by
        rw [show N - k = (N - (k + 1)) + 1 by omega]; rfl
      by_cases he : nameL n k = t
      · have hm : maskOf n t = some k := by rw [maskF_from n t (N - k) k HT.out (by rw [← HN.out]; omega), hd, if_pos he]
        rw [he] at hnm
        have HM := Lib.hid hm
        clear hd he hm
        go_wp2_with (go_at_call 79; refine hnm.mono ?_; rintro e w2 ⟨rfl, hb2⟩)
        go_ret2
        exact ⟨by rw [HR.out, HM.out]; rfl, hB1.trans ((hM.trans (hb2.mono hM.size)).mono hB1.size)⟩
      · obtain ⟨z, hz⟩ : ∃ z, z = nameL n k := ⟨_, rfl⟩
        rw [← hz] at hnm
        have hne : (z == t) = false := by rw [hz]; simpa using he
        have HT2 := Lib.hid (p := ∀ j, j < k + 1 → nameL n j ≠ t) (fun j hj => by
          by_cases e : j = k
          · subst e; exact he
          · exact HT.out j (by omega))
        clear hd he hz
        go_wp2_with (go_at_call 79; refine hnm.mono ?_; rintro e w2 ⟨rfl, hb2⟩)
        go_roundw
        case rel => exact ⟨k + 1, by omega, by go_num, HT2.out, hM.trans (hb2.mono hM.size)⟩
        case measure => simp [intOf]; omega
    · obtain rfl : k = N := by omega
      have hm : maskOf n t = none := by rw [maskF_from n t 0 k HT.out (by rw [← HN.out]; omega)]; rfl
      have HM := Lib.hid hm
      clear hm
      go_wp2
      go_ret2
      exact ⟨by rw [HR.out, HM.out]; rfl, hB1.trans (hM.mono hB1.size)⟩
end Go.Proofs.YticofgmmjecleaaGreatDoor
namespace Go.Proofs.YticofgmmjecleaaGreatDoor
open Go Go.RowKit
theorem dec_one {n : Nat} (h : n < 10) : Lib.decDigits n = [UInt8.ofNat (48 + n)] := by rw [Lib.decDigits, dif_pos h]
/-- A byte in a new block, read as a text. -/
theorem one_byte_text (w : World) (d : Nat) (hd : d < 10) :
    (convert 43 9 (.slice (some ⟨w.heap.size, 0, none⟩) 1 1)).run Tryz.prog (w.alloc (.cells #[.int .u8 (48 + (d : Int))] 5)) = .ok (.string ⟨[UInt8.ofNat (48 + d)].toArray⟩) (w.alloc (.cells #[.int .u8 (48 + (d : Int))] 5)) := by
  refine run_convert_bytes_back _ _ _ 5 _ 1 [UInt8.ofNat (48 + d)] Tryz.underlying43 Tryz.underlying5 Tryz.underlying9 fun j hj => ?_
  obtain rfl : j = 0 := by simpa using hj
  rw [Addr.add_lit]
  have hk := (Blk.new w 5 #[.int .u8 (48 + (d : Int))]).cell 0
  rw [Nat.zero_add]
  refine hk.trans ?_
  have : (UInt8.ofNat (48 + d)).toNat = 48 + d := by rw [UInt8.toNat_ofNat']; omega
  show some (Value.int .u8 (48 + (d : Int))) = some (.int .u8 ((UInt8.ofNat (48 + d)).toNat : Int))
  rw [this]; simp
set_option maxHeartbeats 800000 in
set_option maxRecDepth 8000 in
theorem l01Dec_small (n : Nat) (w : World) (hn : n < 10) :
    Calls Tryz.prog 113 #[.int .i64 n] w fun e w' => e = .returned (.string ⟨(Lib.decDigits n).toArray⟩) ∧ Below w.heap.size w w' := by
  have d1 : decide ((n : Int) < 10) = true := by simp; omega
  have W1 : wrap64 (48 + (n : Int)) = 48 + (n : Int) := by unfold wrap64; omega
  have W2 : IntKind.u8.wrap (48 + (n : Int)) = 48 + (n : Int) := by
    have e : IntKind.u8.wrap (48 + (n : Int)) = (48 + (n : Int)) % 256 := rfl
    rw [e]; omega
  have hcv := one_byte_text w n hn
  have hB : Below w.heap.size w (w.alloc (.cells #[.int .u8 (48 + (n : Int))] 5)) := (Below.refl _ _).alloc (Nat.le_refl _) _
  rw [dec_one hn]
  obtain ⟨z, hz⟩ : ∃ z : By, z = [UInt8.ofNat (48 + n)] := ⟨_, rfl⟩
  rw [← hz] at hcv ⊢
  clear hz
  go_enter Tryz.func113, Tryz.ntmps113
  go_wp2
  go_ret
  exact ⟨rfl, hB⟩
/-- Places beyond the dimension do not stand in a name. -/
theorem nameTo_more {n m : Nat} (hm : m < pw n) : ∀ d, nameTo m (n + d) = nameTo m n
  | 0 => rfl
  | d + 1 => by
    rw [← Nat.add_assoc, nameTo, if_neg, nameTo_more hm d]
    intro h
    have h1 : m / 2 ^ (n + d) = 0 := Nat.div_eq_of_lt (Nat.lt_of_lt_of_le hm (Nat.pow_le_pow_right (by omega) (by omega)))
    unfold bit at h
    rw [h1] at h
    simp at h
theorem nameL_six {n m : Nat} (hn : n ≤ 6) (hm : m < pw n) : nameL 6 m = nameL n m := by
  unfold nameL
  have := nameTo_more hm (6 - n)
  rw [show n + (6 - n) = 6 by omega] at this
  rw [this]
set_option maxHeartbeats 1600000 in
set_option maxRecDepth 8000 in
theorem l19Name_any (m : Nat) (w : World) (hm : m < 64) :
    Calls Tryz.prog 76 #[.int .i64 m] w fun e w' => e = .returned (.string ⟨(nameL 6 m).toArray⟩) ∧ Below w.heap.size w w' := by
  by_cases h0 : m = 0
  · subst h0
    go_enter Tryz.func76, Tryz.ntmps76
    go_wp2
    go_ret
    exact ⟨rfl, Below.refl _ _⟩
  · have d0 : ((m : Int) == 0) = false := by simp; omega
    have HN : Hid (nameL 6 m = nameTo m 6) := Lib.hid (by unfold nameL; rw [if_neg h0])
    clear h0
    go_enter Tryz.func76, Tryz.ntmps76
    go_wp2
    go_loopw [3, 4] (fun out i wr => ∃ k : Nat, k ≤ 6 ∧ i = .int .i64 k ∧ out = .string ⟨(nameTo m k).toArray⟩ ∧ Below w.heap.size w wr) (fun _ i _ => 6 - (intOf i).toNat)
    case atStart => exact ⟨0, by omega, rfl, rfl, Below.refl _ _⟩
    case round =>
      obtain ⟨k, hk, rfl, rfl, hM⟩ := hrel
      by_cases hlt : k < 6
      · cases hb : (bits BinOp.and IntKind.i64 ((m : Int) / 2 ^ k) 1 == 1)
        · have hb' := Lib.hid (bit0 (by omega) hm hb)
          go_wp2
          go_roundw
          case rel => exact ⟨k + 1, by omega, by go_num, by rw [nameTo_succ0 hb'.out], hM⟩
          case measure => simp [intOf]; omega
        · have hb' := Lib.hid (bit1 (by omega) hm hb)
          have hit := l01Dec_small k wr (by omega)
          rw [dec_one (by omega)] at hit
          have hl := nameTo_len m k
          obtain ⟨z, hz⟩ : ∃ z : By, z = [UInt8.ofNat (48 + k)] := ⟨_, rfl⟩
          have hzl : z.length ≤ 1 := by rw [hz]; exact Nat.le_refl 1
          have hcat := fun wx => cat_bs (P := Tryz.prog) wx (nameTo m k) z (by omega) (by omega)
          rw [← hz] at hit
          have HZ := Lib.hid hz
          clear hl hz hzl
          go_wp2_with (go_at_call 113; refine hit.mono ?_; rintro e w2 ⟨rfl, hb2⟩)
          go_roundw
          case rel => exact ⟨k + 1, by omega, by go_num, by rw [nameTo_succ1 hb'.out, ← HZ.out], hM.trans (hb2.mono hM.size)⟩
          case measure => simp [intOf]; omega
      · obtain rfl : k = 6 := by omega
        go_wp2
        go_ret
        exact ⟨by rw [HN.out]; rfl, hM⟩
def codeN (o : Option Nat) : Int := match o with
  | some _ => 0
  | none => 6
def monR (P : Int) (sq : List Int) (t : By) : Int × Int := if isSp P sq = true then (markI (maskOf sq.length t), codeN (maskOf sq.length t)) else (0, 1)
set_option maxHeartbeats 1600000 in
set_option maxRecDepth 8000 in
theorem specMaskOfName_any (P : Int) (A : Option Addr) (n c : Nat) (sq : List Int) (t : By) (w : World) (hn : n ≤ 1048576) (ha : Rd w A n (ints sq)) :
    Calls Tryz.prog 36 #[.agg #[.int .i64 P, .slice A n c], .string ⟨t.toArray⟩] w fun e w' => e = .returned (.tuple #[.int .i64 (monR P sq t).1, .int .i64 (monR P sq t).2]) ∧ Below w.heap.size w w' := by
  have hB0 : Below w.heap.size w (w.alloc (.cells #[.int .i64 P, .slice A n c] 28)) := (Below.refl _ _).alloc (Nat.le_refl _) _
  have hk0 : Blk (w.alloc (.cells #[.int .i64 P, .slice A n c] 28)) w.heap.size 28 #[.int .i64 P, .slice A n c] := Blk.new _ _ _
  obtain ⟨R, hR⟩ : ∃ R, R = monR P sq t := ⟨_, rfl⟩
  have HR := Lib.hid hR
  rw [← hR]
  clear hR
  have hln := ha.lenI
  cases hsp : isSp P sq
  · have his := l03Is_b P A n c sq _ (by omega) (ha.below hB0) hsp
    have hm : Hid (R = (0, 1)) := Lib.hid (by rw [HR.out]; unfold monR; rw [hsp]; rfl)
    go_enter Tryz.func36, Tryz.ntmps36
    go_wp2_with fail
    refine his.mono ?_
    rintro e w1 ⟨rfl, hb1⟩
    go_wp2
    go_ret2
    exact ⟨by rw [hm.out]; rfl, hB0.trans (hb1.mono (by simp))⟩
  · have his := l03Is_b P A n c sq _ (by omega) (ha.below hB0) hsp
    obtain ⟨hP, hd1, hd2, hnum⟩ := isSp_dim hsp
    have hn6 : n ≤ 6 := by omega
    have hpw : pw n ≤ 64 := pw_le hn6
    have hmon : Hid (R = (markI (maskOf n t), codeN (maskOf n t))) := Lib.hid (by rw [HR.out]; unfold monR; rw [hsp, hln]; rfl)
    have hszc := fun wx => l04Size_any P A n c wx (show n ≤ 30 by omega)
    obtain ⟨N, hN⟩ : ∃ N, N = pw n := ⟨_, rfl⟩
    have HN := Lib.hid hN
    rw [← hN] at hpw hszc
    have HL := Lib.hid hln
    clear hN hsp hP hnum HR hln
    go_enter Tryz.func36, Tryz.ntmps36
    go_wp2_with fail
    refine his.mono ?_
    rintro e w1 ⟨rfl, hb1⟩
    have hB1 : Below w.heap.size w w1 := hB0.trans (hb1.mono (by simp))
    have hk1 := hk0.below hb1 hk0.lt
    clear hb1 hB0 hk0
    go_wp2
    go_loopw [6] (fun i wr => ∃ k : Nat, k ≤ N ∧ i = .int .i64 k ∧ (∀ j, j < k → nameL n j ≠ t) ∧ Below w1.heap.size w1 wr) (fun i _ => N - (intOf i).toNat)
    case atStart => exact ⟨0, by omega, rfl, fun j hj => absurd hj (by omega), Below.refl _ _⟩
    case round =>
      obtain ⟨k, hk, rfl, hnot, hM⟩ := hrel
      have HT := Lib.hid hnot
      clear hnot
      have hkr := hk1.below hM hk1.lt
      obtain ⟨q0, q1⟩ := hkr.two
      go_wp2_with fail
      refine (hszc _).mono ?_
      rintro e w2 ⟨rfl, hb2⟩
      have hM2 := hM.trans (hb2.mono hM.size)
      clear hb2 hM hkr q0 q1
      by_cases hlt : k < N
      · have hnm := l19Name_any k w2 (by omega)
        rw [nameL_six hn6 (by rw [← HN.out]; exact hlt)] at hnm
        have hd : maskF n t (N - k) k = if nameL n k = t then some k else maskF n t (N - (k + 1)) (k + 1) := by
          rw [show N - k = (N - (k + 1)) + 1 by omega]; rfl
        by_cases he : nameL n k = t
        · have hm : maskOf n t = some k := by rw [maskF_from n t (N - k) k HT.out (by rw [← HN.out]; omega), hd, if_pos he]
          rw [he] at hnm
          have HM := Lib.hid hm
          clear hd he hm
          go_wp2_with (go_at_call 76; refine hnm.mono ?_; rintro e w3 ⟨rfl, hb3⟩)
          go_ret2
          exact ⟨by rw [hmon.out, HM.out]; rfl, hB1.trans ((hM2.trans (hb3.mono hM2.size)).mono hB1.size)⟩
        · obtain ⟨z, hz⟩ : ∃ z, z = nameL n k := ⟨_, rfl⟩
          rw [← hz] at hnm
          have hne : (z == t) = false := by rw [hz]; simpa using he
          have HT2 := Lib.hid (p := ∀ j, j < k + 1 → nameL n j ≠ t) (fun j hj => by
            by_cases e : j = k
            · subst e; exact he
            · exact HT.out j (by omega))
          clear hd he hz
          go_wp2_with (go_at_call 76; refine hnm.mono ?_; rintro e w3 ⟨rfl, hb3⟩)
          go_roundw
          case rel => exact ⟨k + 1, by omega, by go_num, HT2.out, hM2.trans (hb3.mono hM2.size)⟩
          case measure => simp [intOf]; omega
      · obtain rfl : k = N := by omega
        have hm : maskOf n t = none := by rw [maskF_from n t 0 k HT.out (by rw [← HN.out]; omega)]; rfl
        have HM := Lib.hid hm
        clear hm
        go_wp2
        go_ret2
        exact ⟨by rw [hmon.out, HM.out]; rfl, hB1.trans (hM2.mono hB1.size)⟩
end Go.Proofs.YticofgmmjecleaaGreatDoor
namespace Go.Proofs.YticofgmmjecleaaGreatDoor
open Go Go.RowKit
theorem str_to (w : World) (l : By) (k : Nat) (hk : k ≤ l.length) : (Instr.slice 9 (.string ⟨l.toArray⟩) none (some (.int .i64 (k : Int))) none).run Tryz.prog w = .ok (.string ⟨(l.take k).toArray⟩) w := by
  rw [run_slice_string_h w _ _ Tryz.underlying9 .i64 k (by omega) (by rw [bs_len]; omega), ByteArray.extract_mk, Int.toNat_natCast]
  rfl
theorem str_from (w : World) (l : By) (k : Nat) (hk : k ≤ l.length) : (Instr.slice 9 (.string ⟨l.toArray⟩) (some (.int .i64 (k : Int))) none none).run Tryz.prog w = .ok (.string ⟨(l.drop k).toArray⟩) w := by
  rw [run_slice_string_l w _ _ Tryz.underlying9 .i64 k (by omega) (by rw [bs_len]; omega), ByteArray.extract_mk, Int.toNat_natCast, bs_len]
  rw [List.take_of_length_le (by rw [List.length_drop]; omega)]
theorem str_mid (w : World) (l : By) (i k : Nat) (hi : i ≤ k) (hk : k ≤ l.length) : (Instr.slice 9 (.string ⟨l.toArray⟩) (some (.int .i64 (i : Int))) (some (.int .i64 (k : Int))) none).run Tryz.prog w = .ok (.string ⟨((l.drop i).take (k - i)).toArray⟩) w := by
  rw [run_slice_string w 9 _ .i64 .i64 i k Tryz.underlying9 (by omega) (by omega) (by rw [bs_len]; omega), ByteArray.extract_mk, Int.toNat_natCast, Int.toNat_natCast]
theorem str_at (w : World) (l : By) (k : Nat) (hk : k < l.length) : (Instr.index 9 (.string ⟨l.toArray⟩) (.int .i64 (k : Int))).run Tryz.prog w = .ok (.int .u8 (l[k]).toNat) w := by
  rw [run_index_string w _ _ .i64 k Tryz.underlying9, dif_pos ⟨by omega, by rw [bs_len]; omega⟩]
  rfl
theorem str_to1 (w : World) (l : By) (h : 1 ≤ l.length) : (Instr.slice 9 (.string ⟨l.toArray⟩) none (some (.int .i64 1)) none).run Tryz.prog w = .ok (.string ⟨(l.take 1).toArray⟩) w := str_to w l 1 h
theorem str_from1 (w : World) (l : By) (h : 1 ≤ l.length) : (Instr.slice 9 (.string ⟨l.toArray⟩) (some (.int .i64 1)) none none).run Tryz.prog w = .ok (.string ⟨(l.drop 1).toArray⟩) w := str_from w l 1 h
theorem str_at0 (w : World) (l : By) (h : 0 < l.length) : (Instr.index 9 (.string ⟨l.toArray⟩) (.int .i64 0)).run Tryz.prog w = .ok (.int .u8 (l[0]).toNat) w := str_at w l 0 h
theorem str_len (w : World) (ty : TypeId) (l : By) : (Builtin.len_ #[9] ty #[.string ⟨l.toArray⟩]).run Tryz.prog w = .ok (.int .i64 l.length) w := by
  rw [run_len_string w _ _ _ Tryz.underlying9, bs_len]
  rfl
theorem contains_one (cs : By) (c : UInt8) : Lib.contains cs [c] = cs.contains c := by
  unfold Lib.contains
  induction cs with
  | nil => rw [index_one_nil]; rfl
  | cons d r ih =>
    by_cases h : d = c
    · subst h
      rw [index_one_eq]
      simp
    · rw [index_one_ne h]
      have e : (d :: r).contains c = r.contains c := by
        rw [List.contains_cons]
        have : (c == d) = false := by simpa using fun e : c = d => h e.symm
        rw [this, Bool.false_or]
      rw [e, ← ih]
      have hge := Lib.index_ge r [c]
      split
      · rename_i h1; rw [h1]
      · have : decide (0 ≤ Lib.index r [c] + 1) = decide (0 ≤ Lib.index r [c]) := by
          have : Lib.index r [c] ≠ -1 := by assumption
          simp only [decide_eq_decide]; omega
        exact this
end Go.Proofs.YticofgmmjecleaaGreatDoor
namespace Go.Proofs.YticofgmmjecleaaGreatDoor
open Go Go.RowKit
theorem cat_big {P : Program} (w : World) (x y : By) (h : x.length + y.length ≤ 9223372036854775807) : (Op.stringOp .add ⟨x.toArray⟩ ⟨y.toArray⟩).run P w = .ok (.string ⟨(x ++ y).toArray⟩) w := by
  rw [run_string_add_sum w _ _ (by rw [bs_len, bs_len]; omega), ByteArray.mk_append_mk]
theorem eqM_step {a b : Int} (h : eqM a b) : eqM (gI a) (gI b) := it_mod 1 h
theorem eqM_trans {a b c : Int} (h : eqM a b) (h' : eqM b c) : eqM a c := Eq.trans h h'
theorem pl_mono {pl nb : Nat} : pl ≤ (if pl < nb then pl + 1 else pl) := by split <;> omega
def dmgL : List By := [[48], [49], [50], [53], [57], [45], [43], [42], [94], [46], [126], [40], [41], [101], [32], [44], [101, 48], [101, 49], [120], [59], [58], [10]]
def txtCells (l : List By) : Array Value := (l.map fun t => Value.string ⟨t.toArray⟩).toArray
theorem txt_cell {w : World} {b : Nat} {T : TypeId} {l : List By} (h : Blk w b T (txtCells l)) {k : Nat} (hk : k < l.length) : w.cell? ⟨b, k, none⟩ = some (.string ⟨l[k].toArray⟩) := by
  refine (h.cell k).trans ?_
  simp [txtCells, hk]
theorem dmgL_len : ∀ t ∈ dmgL, t.length ≤ 2 := by decide
def DmgPost (g : Nat) (nb pl : Nat) (h : Int) (t : By) (w : World) (e : Ending) (w' : World) : Prop :=
  ∃ t' : By, e = .returned (.string ⟨t'.toArray⟩) ∧ t'.length ≤ t.length + 2 ∧ Dr g 121 w w' ∧ ∃ (pl' : Nat) (h' : Int), SrcA w' g 121 nb pl' h' ∧ pl ≤ pl' ∧ (eqM h' (gI h) ∨ eqM h' (itI 3 h))
theorem Dr.drewN {w w' : World} {g : Nat} {T : TypeId} (h : Dr g T w w') (n : Nat) : Dr g T w (w'.drewN n) := h.then (below_drewN (Below.refl _ _) n)
theorem SrcA.drewN {w : World} {g : Nat} {T : TypeId} {nb pl : Nat} {h : Int} (s : SrcA w g T nb pl h) (n : Nat) : SrcA (w.drewN n) g T nb pl h := s.below (below_drewN (Below.refl _ _) n)
set_option maxHeartbeats 3200000 in
set_option maxRecDepth 8000 in
theorem damage_at (g nb pl : Nat) (h : Int) (t : By) (w : World) (hs : SrcA w g 121 nb pl h) (ht : t.length ≤ 1152921504606846976) :
    Calls Tryz.prog 73 #[.pointer (some ⟨g, 0, none⟩), .string ⟨t.toArray⟩] w fun e w' => DmgPost g nb pl h t w e w' := by
  have hd0 := (Dr.refl hs.src).alloc (.cells (txtCells dmgL) 9)
  have hs0 := hs.below ((Below.refl w.heap.size w).alloc (Nat.le_refl _) (.cells (txtCells dmgL) 9))
  have kb0 : Blk (w.alloc (.cells (txtCells dmgL) 9)) w.heap.size 9 (txtCells dmgL) := Blk.new _ _ _
  have hnx := next_at g 22 nb pl h _ hs0 (by omega) (by omega)
  have hln := fun wx ty => str_len wx ty t
  have HD0 := Lib.hid hd0
  have HK0 := Lib.hid kb0
  clear hd0 hs0 kb0 hs
  go_enter Tryz.func73, Tryz.ntmps73
  go_wp2_with fail
  refine hnx.mono ?_
  rintro e w1 ⟨r, rfl, hr0, hr1, hd1, pl1, h1, hs1, hp1, he1, -⟩
  clear hnx
  obtain ⟨r, rfl⟩ : ∃ m : Nat, r = m := ⟨r.toNat, by omega⟩
  have hrl : r < dmgL.length := by show r < 22; omega
  have kb1 := HK0.out.dr hd1 (by decide)
  have hcell := txt_cell kb1 hrl
  have hcl := dmgL_len dmgL[r] (List.getElem_mem hrl)
  have HD1 := Lib.hid (HD0.out.trans hd1)
  obtain ⟨c, hc⟩ : ∃ c, c = dmgL[r] := ⟨_, rfl⟩
  rw [← hc] at hcell hcl
  have HP1 : Hid (pl ≤ pl1) := Lib.hid (by rw [hp1]; exact pl_mono)
  have HE1 := Lib.hid he1
  clear hd1 kb1 hrl hc hp1 he1 HK0 HD0
  by_cases h0 : t.length = 0
  · have d0 : ((t.length : Int) == 0) = true := by simp [h0]
    have HS1 := Lib.hid hs1
    have HC := Lib.hid hcl
    clear hs1 hcl
    go_wp2
    go_ret
    exact ⟨c, rfl, by have := HC.out; omega, HD1.out, pl1, h1, HS1.out, HP1.out, .inl HE1.out⟩
  have d0 : ((t.length : Int) == 0) = false := by rw [beq_eq_false_iff_ne]; omega
  have hnx := next_at g (t.length : Int) nb pl1 h1 w1 hs1 (by omega) (by omega)
  have HC := Lib.hid hcl
  clear hs1 hcl
  go_wp2_with fail
  refine hnx.mono ?_
  rintro e w2 ⟨k, rfl, hk0, hk1, hd2, pl2, h2, hs2, hp2, he2, -⟩
  clear hnx hcell
  obtain ⟨k, rfl⟩ : ∃ m : Nat, k = m := ⟨k.toNat, by omega⟩
  have hkl : k < t.length := by omega
  have HD2 := Lib.hid (HD1.out.trans hd2)
  have HP2 : Hid (pl ≤ pl2) := Lib.hid (Nat.le_trans HP1.out (by rw [hp2]; exact pl_mono))
  have HE2 : Hid (eqM h2 (gI (gI h))) := Lib.hid (eqM_trans he2 (eqM_step HE1.out))
  clear hd2 hp2 he2 HD1 HP1 HE1
  have hnx := next_at g 3 nb pl2 h2 w2 hs2 (by omega) (by omega)
  clear hs2
  go_wp2_with fail
  refine hnx.mono ?_
  rintro e w3 ⟨q, rfl, hq0, hq1, hd3, pl3, h3, hs3, hp3, he3, -⟩
  clear hnx
  have HD3 := Lib.hid (HD2.out.trans hd3)
  have HP3 : Hid (pl ≤ pl3) := Lib.hid (Nat.le_trans HP2.out (by rw [hp3]; exact pl_mono))
  have HE3 : Hid (eqM h3 (itI 3 h)) := Lib.hid (eqM_trans he3 (eqM_step HE2.out))
  have HS3 := Lib.hid hs3
  clear hd3 hp3 he3 HD2 HP2 HE2 hs3
  have W0 : wrap64 ((k : Int) + 1) = (k : Int) + 1 := by unfold wrap64; omega
  have W : IntKind.i64.wrap ((k : Int) + 1) = (k : Int) + 1 := by rw [IntWalk.i64_left]; exact W0
  have f1 := fun wx => str_to wx t k (by omega)
  have f2 : ∀ wx, (Instr.slice 9 (.string ⟨t.toArray⟩) (some (.int .i64 ((k : Int) + 1))) none none).run Tryz.prog wx = .ok (.string ⟨(t.drop (k + 1)).toArray⟩) wx := fun wx => str_from wx t (k + 1) (by omega)
  have f3 := fun wx => str_from wx t k (by omega)
  have l1 : (t.take k).length = k := by rw [List.length_take]; omega
  have l2 : (t.drop (k + 1)).length = t.length - (k + 1) := List.length_drop
  have l3 : (t.drop k).length = t.length - k := List.length_drop
  generalize t.take k = a at *
  generalize t.drop (k + 1) = b at *
  generalize t.drop k = d at *
  have hcl := HC.out
  have g1 := fun wx => cat_big (P := Tryz.prog) wx a c (by omega)
  have g2 := fun wx => cat_big (P := Tryz.prog) wx (a ++ c) b (by rw [List.length_append]; omega)
  have g3 := fun wx => cat_big (P := Tryz.prog) wx a b (by omega)
  have g4 := fun wx => cat_big (P := Tryz.prog) wx (a ++ c) d (by rw [List.length_append]; omega)
  have HL1 : Hid ((a ++ c ++ b).length ≤ t.length + 2) := Lib.hid (by rw [List.length_append, List.length_append]; omega)
  have HL2 : Hid ((a ++ b).length ≤ t.length + 2) := Lib.hid (by rw [List.length_append]; omega)
  have HL3 : Hid ((a ++ c ++ d).length ≤ t.length + 2) := Lib.hid (by rw [List.length_append, List.length_append]; omega)
  generalize a ++ c ++ b = z1 at *
  generalize a ++ c ++ d = z3 at *
  generalize a ++ c = ac at *
  generalize a ++ b = z2 at *
  clear l1 l2 l3 hcl HC ht d0 h0 hkl hk1
  by_cases e0 : q = 0
  · subst e0
    go_wp2
    go_quiet (fail)
    go_wp2
    go_ret
    exact ⟨_, rfl, HL1.out, HD3.out.drewN _, pl3, h3, HS3.out.drewN _, HP3.out, .inr HE3.out⟩
  · have q0 : (q == 0) = false := by simpa using e0
    by_cases e1 : q = 1
    · subst e1
      go_wp2
      go_quiet (fail)
      go_wp2
      go_ret
      exact ⟨_, rfl, HL2.out, HD3.out.drewN _, pl3, h3, HS3.out.drewN _, HP3.out, .inr HE3.out⟩
    · have q1 : (q == 1) = false := by simpa using e1
      go_wp2
      go_quiet (fail)
      go_wp2
      go_ret
      exact ⟨_, rfl, HL3.out, HD3.out.drewN _, pl3, h3, HS3.out.drewN _, HP3.out, .inr HE3.out⟩
end Go.Proofs.YticofgmmjecleaaGreatDoor
namespace Go.Proofs.YticofgmmjecleaaGreatDoor
open Go.RowKit
set_option maxHeartbeats 1000000 in
set_option maxRecDepth 8000 in
theorem isMulti_any (P : Int) (A B : Option Addr) (n c m d : Nat) (xs ys : List Int) (w : World) (hn : n ≤ 6) (hxl : xs.length = n) (hm : m ≤ 1048576) (hp0 : 0 < P) (hp1 : P ≤ 13) (hb : Rd w B m (ints ys)) :
    Calls Tryz.prog 98 #[.agg #[.int .i64 P, .slice A n c], .slice B m d] w fun e w' => e = .returned (.bool (isMu P xs ys)) ∧ Below w.heap.size w w' := by
  have hyl : ys.length = m := by have := hb.1; rwa [ints_length] at this
  have hmu : isMu P xs ys = ((((m : Nat) : Int) == ((pw n : Nat) : Int)) && nums P ys) := by unfold isMu; rw [hxl, hyl]
  have Hmu := Lib.hid hmu
  have hB : Below w.heap.size w (w.alloc (.cells #[.int .i64 P, .slice A n c] 28)) := (Below.refl _ _).alloc (Nat.le_refl _) _
  have k0 : Blk (w.alloc (.cells #[.int .i64 P, .slice A n c] 28)) w.heap.size 28 #[.int .i64 P, .slice A n c] := Blk.new _ _ _
  have hw := wrap_pw n (by omega)
  clear hmu hxl hyl
  cases h2 : (((m : Nat) : Int) == ((pw n : Nat) : Int))
  all_goals
    have H2 := Lib.hid h2
    rw [← hw] at h2
    have Hw := Lib.hid hw
    clear hw
    go_enter Tryz.func98, Tryz.ntmps98
    go_wp2_with fail
    refine (dim_any _ _ _ _ _).mono ?_
    rintro e w1 ⟨rfl, hb1⟩
    have k1 := k0.below hb1 k0.lt
    obtain ⟨q0, q1⟩ := k1.two
    have hB1 := hB.trans (hb1.mono (by simp))
    clear k0
    go_wp2_with fail
  · go_ret
    exact ⟨ret_bool (by rw [Hmu.out, H2.out]; rfl), hB1⟩
  · refine (field_any _ _ _ _ _).mono ?_
    rintro e w2 ⟨rfl, hb2⟩
    have hB2 := hB1.trans (hb2.mono hB1.size)
    go_wp2_with fail
    refine (is_any _ _ _ _ _ _ hp0 (by omega) (by omega) (hb.below hB2)).mono ?_
    rintro e w3 ⟨rfl, rfl⟩
    go_wp2
    go_ret
    exact ⟨ret_bool (by rw [Hmu.out, H2.out]; rfl), hB2⟩
theorem IsSpace_b {b : Bool} (P : Int) (A : Option Addr) (n c : Nat) (xs : List Int) (w : World) (hn : n ≤ 1099511627776) (ha : Rd w A n (ints xs)) (h : isSp P xs = b) :
    Calls Tryz.prog 49 #[.agg #[.int .i64 P, .slice A n c]] w fun e w' => e = .returned (.bool b) ∧ Below w.heap.size w w' := h ▸ IsSpace_any P A n c xs w hn ha
end Go.Proofs.YticofgmmjecleaaGreatDoor
namespace Go.Proofs.YticofgmmjecleaaGreatDoor
open Go.RowKit
/-- The code of a space and of multivectors. -/
def codeM (P : Int) (sq : List Int) (yss : List (List Int)) : Int := if isSp P sq then (if yss.any fun ys => !(isMu P sq ys) then 2 else 0) else 1
set_option maxHeartbeats 800000 in
set_option maxRecDepth 8000 in
theorem notMu (P : Int) (n : Nat) (g : Nat) (A : Option Addr) (c : Nat) (sq : List Int) (w : World) (hn : n ≤ 6) (hsq : sq.length = n) (hp0 : 0 < P) (hp1 : P ≤ 13) (hk : Blk w g 28 #[.int .i64 P, .slice A n c]) :
    Tells 97 #[.pointer (some ⟨g, 0, none⟩)] w (fun ys => !(isMu P sq ys)) (fun ys => ys.length ≤ 1048576) := by
  intro w' D m d ys hb hr hm
  have hyl : ys.length = m := by have := hr.1; rwa [ints_length] at this
  rw [hyl] at hm
  have k0 := hk.below hb hk.lt
  obtain ⟨q0, q1⟩ := k0.two
  have Hsq := Lib.hid hsq
  clear hyl hsq
  simp only [List.append_toArray, List.cons_append, List.nil_append]
  go_enter Tryz.func97, Tryz.ntmps97
  go_wp2_with fail
  refine (isMulti_any P A D n c m d sq ys _ hn Hsq.out hm hp0 hp1 hr).mono ?_
  rintro e w1 ⟨rfl, hb1⟩
  obtain ⟨b, hb'⟩ : ∃ b, b = isMu P sq ys := ⟨_, rfl⟩
  rw [← hb']
  have HB := Lib.hid hb'; clear hb'
  go_wp2
  go_ret
  exact ⟨ret_bool (by rw [HB.out]), hb1⟩
set_option maxRecDepth 8000 in
set_option maxHeartbeats 1000000 in
set_option maxRecDepth 8000 in
theorem checkMultis_any (P : Int) (A B : Option Addr) (n c m d : Nat) (sq : List Int) (yss : List (List Int)) (w : World) (hn : n ≤ 1048576) (hm : m ≤ 1048576) (ha : Rd w A n (ints sq)) (hb : RdII w B m yss) (hys : ∀ ys ∈ yss, ys.length ≤ 1048576) :
    Calls Tryz.prog 60 #[.agg #[.int .i64 P, .slice A n c], .slice B m d] w fun e w' => e = .returned (.int .i64 (codeM P sq yss)) ∧ Below w.heap.size w w' := by
  have hxl : sq.length = n := by have := ha.1; rwa [ints_length] at this
  have hB : Below w.heap.size w (w.alloc (.cells #[.int .i64 P, .slice A n c] 28)) := (Below.refl _ _).alloc (Nat.le_refl _) _
  have k0 : Blk (w.alloc (.cells #[.int .i64 P, .slice A n c] 28)) w.heap.size 28 #[.int .i64 P, .slice A n c] := Blk.new _ _ _
  have hmf : ∀ (fn : Fn) (first cap : Array Value) (w : World), (Instr.makeFunc fn first cap).run Tryz.prog w = .ok (.func fn first cap) w := fun _ _ _ _ => rfl
  cases h1 : isSp P sq
  · have H1 := Lib.hid h1; clear h1 hxl
    go_enter Tryz.func60, Tryz.ntmps60
    go_wp2_with fail
    refine (IsSpace_b _ _ _ _ _ _ (by omega) (ha.below hB) H1.out).mono ?_
    rintro e w1 ⟨rfl, hb1⟩
    go_wp2
    go_ret
    exact ⟨ret_int (by unfold codeM; rw [H1.out]; rfl), hB.trans (hb1.mono (by simp))⟩
  obtain ⟨hp, hd1, hd2, -⟩ := isSp_dim h1
  obtain ⟨hp0, hp1⟩ := isP_pos hp
  rw [hxl] at hd1 hd2
  have H1 := Lib.hid h1; have Hx := Lib.hid hxl; clear h1 hp hxl
  cases h2 : (yss.any fun ys => !(isMu P sq ys))
  all_goals
    have H2 := Lib.hid h2; clear h2
    go_enter Tryz.func60, Tryz.ntmps60
    go_wp2_with fail
    refine (IsSpace_b _ _ _ _ _ _ (by omega) (ha.below hB) H1.out).mono ?_
    rintro e w1 ⟨rfl, hb1⟩
    have hB1 := hB.trans (hb1.mono (by simp))
    have hT := notMu P n w.heap.size A c sq w1 (by omega) Hx.out hp0 hp1 (k0.below hb1 k0.lt)
    go_wp2_with fail
    refine (ContainsFunc_any _ _ _ _ _ _ _ _ _ (by omega) (hb.below hB1) hys hT (fun _ _ => rfl)).mono ?_
    rintro e w2 ⟨rfl, hb2⟩
    rw [H2.out]
    go_wp2
    go_ret
    exact ⟨ret_int (by unfold codeM; rw [H1.out, H2.out]; rfl), hB1.trans (hb2.mono hB1.size)⟩
theorem nums_numsL {P : Int} {xs : List Int} (h : nums P xs = true) : NumsL P xs := fun x hx => by
  have := List.all_eq_true.1 h x hx
  simp [inR] at this
  omega
theorem codeM_sp {P : Int} {sq : List Int} {ms : List (List Int)} (h : codeM P sq ms = 0) : isSp P sq = true ∧ ∀ ys ∈ ms, isMu P sq ys = true := by
  unfold codeM at h
  cases h1 : isSp P sq
  · rw [h1] at h; simp at h
  · rw [h1, if_pos rfl] at h
    refine ⟨rfl, fun ys hy => ?_⟩
    cases h2 : isMu P sq ys
    · exfalso
      have : (ms.any fun ys => !(isMu P sq ys)) = true := List.any_eq_true.2 ⟨ys, hy, by rw [h2]; rfl⟩
      rw [if_pos this] at h
      omega
    · rfl
end Go.Proofs.YticofgmmjecleaaGreatDoor
