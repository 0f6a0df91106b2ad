/-
  Matrices: the reference's functions; products and traces.
-/
import Derived.Test.YtgfgnpdnppggeaaGreatTurn2
namespace Go.Proofs.YtgfgnpdnppggeaaGreat
open Go.RowKit

theorem MkII.ne_blk {w0 w : World} {A : Option Addr} {n c g : Nat} {xss : List (List Int)} {t : TypeId} {cs : Array Value} (h : MkII w0 w A n c xss) (hb : Blk w g t cs) (hE : 22 ≠ t) : some g ≠ (Value.slice A n c).ownBlock := by
  obtain ⟨rows, hm, _⟩ := h
  exact hm.2.ne_blk hb hE
theorem RdII.row0 {w : World} {g o n : Nat} {M : List (List Int)} {p : Int} {m : Nat} (h : RdII w (some ⟨g, o, none⟩) n M) (h0 : 0 < n) (hT : Tab p m M) : ∃ A0 c0, w.cell? ⟨g, o, none⟩ = some (.slice A0 m c0) := by
  obtain ⟨g', o', e', hx0, A0, c0, hc, _, _⟩ := h.at_ h0
  injection e' with e'
  injection e' with e1 e2 _
  subst e1; subst e2
  refine ⟨A0, c0, ?_⟩
  rw [Nat.add_zero] at hc
  rw [hc, (hT M[0] (List.getElem_mem hx0)).1]

set_option maxHeartbeats 1600000 in
set_option maxRecDepth 8000 in
theorem l02Turn_any (p : Int) (A : Option Addr) (n c : Nat) (M : List (List Int)) (m : Nat) (w : World) (h0 : 0 < n) (hn : n ≤ 65536) (hm : m ≤ 65536) (ha : RdII w A n M) (hT : Tab p m M) :
    Calls Tryz.prog 117 #[.slice A n c] w fun e w' => ∃ A' c', e = .returned (.slice A' m c') ∧ MkII w w' A' m c' (transL M) := by
  have hML := ha.len
  have HTL : Hid (transL M = tab m fun k => tab n fun i => ent M i k) := Lib.hid (by unfold transL; rw [(hT.row (show 0 < M.length by omega)).1, hML])
  have HT := Lib.hid hT
  have HML := Lib.hid hML
  have hM0 : MkII w (w.alloc (.cells #[] 22)) (some ⟨w.heap.size, 0, none⟩) 0 0 [] := MkII.empty (Below.refl _ _)
  obtain ⟨g, o, rfl, _⟩ := ha.at_ h0
  clear hT hML
  go_enter Tryz.func117, Tryz.ntmps117
  go_wp2
  obtain ⟨w1, hw1⟩ : ∃ W, W = w.alloc (.cells #[] 22) := ⟨_, rfl⟩
  rw [← hw1] at hM0 ⊢
  clear hw1
  go_loopw [3, 4] (fun out i wr => ∃ (k : Nat) (A' : Option Addr) (c' : Nat), k ≤ m ∧ i = .int .i64 k ∧ out = .slice A' k c' ∧ MkII w wr A' k c' (tab k fun k => tab n fun i => ent M i k)) (fun _ i _ => m - (intOf i).toNat)
  case atStart => exact ⟨0, _, _, by omega, rfl, rfl, by simpa [tab] using hM0⟩
  case round =>
    obtain ⟨k, A', c', hk, rfl, rfl, hM⟩ := hrel
    clear hM0
    obtain ⟨wo, rfl⟩ : ∃ W, W = wr := ⟨_, rfl⟩
    obtain ⟨A0, c0, hcx0⟩ := (ha.below hM.b).row0 h0 HT.out
    by_cases hlt : k < m
    · have hr0 := Mk.lit (E := 2) (Below.refl wo.heap.size wo) #[] (by simp)
      have hR0 : MkI wo (wo.alloc (.cells #[] 2)) (some ⟨wo.heap.size, 0, none⟩) 0 0 [] := by simpa [MkI, ints] using hr0
      have HM := Lib.hid hM
      clear hr0 hM
      go_wp2
      go_loopw [5, 6] (fun row i w2 => ∃ (j : Nat) (A2 : Option Addr) (c2 : Nat), j ≤ n ∧ i = .int .i64 j ∧ row = .slice A2 j c2 ∧ MkI wo w2 A2 j c2 (tab j fun i => ent M i k)) (fun _ i _ => n - (intOf i).toNat)
      case atStart => exact ⟨0, _, _, by omega, rfl, rfl, by simpa [tab] using hR0⟩
      case round =>
        obtain ⟨j, A2, c2, hj, rfl, rfl, hR⟩ := hrel
        clear hR0 hcx0
        have HR := Lib.hid hR
        by_cases hlj : j < n
        · have hbb := HM.out.b.trans (hR.b.mono HM.out.b.size)
          obtain ⟨g', o', e', hxj, A3, c3, hcx, hr3, _⟩ := (ha.below hbb).at_ hlj
          injection e' with e'; injection e' with e1 e2 _
          subst e1; subst e2
          have hl3 : M[j].length = m := (HT.out M[j] (List.getElem_mem hxj)).1
          rw [hl3] at hcx hr3
          obtain ⟨g3, o3, rfl, hx3, hc3⟩ := hr3.int hlt
          have HV : Hid ((tab (j + 1) fun i => ent M i k) = (tab j fun i => ent M i k) ++ [M[j][k]]) := Lib.hid (by rw [tab_succ, ent_at hxj hx3])
          clear hR hr3 hl3 hbb ha
          go_wp2_with (at_builtin; refine wpList_app1 wo _ 22 2 _ _ Tryz.underlying22 info_i rfl (by omega) rfl _ _ rfl A2 j c2 _ _ HR.out (by omega) rfl rfl rfl ?_; intro A4 c4 w4 hM4 _ _)
          go_roundw
          case rel => exact ⟨j + 1, A4, c4, by omega, by go_num, rfl, by rw [HV.out]; simpa [MkI, ints] using hM4⟩
          case measure => simp [intOf]; omega
        · obtain rfl : j = n := by omega
          clear hR ha
          go_wp2_with (at_builtin; refine wpList_appRow w wo _ rfl _ _ rfl A' k c' _ A2 j c2 _ HM.out HR.out (by omega) rfl ?_ ?_; (go_simp); intro A4 c4 w4 hM4)
          go_roundw
          case rel => exact ⟨k + 1, A4, c4, by omega, by go_num, rfl, by rw [tab_succ]; exact hM4⟩
          case measure => simp [intOf]; omega
    · go_wp2
      go_ret
      obtain rfl : k = m := by omega
      exact ⟨_, _, rfl, by rw [HTL.out]; exact hM⟩

set_option maxHeartbeats 1600000 in
set_option maxRecDepth 8000 in
theorem l10Matrix_any (P : Int) (A : Option Addr) (n c : Nat) (sq : List Int) (X : Option Addr) (cx : Nat) (xs : List Int) (w : World) (hp : 2 ≤ P) (hp2 : P ≤ 13) (hn : n ≤ 6) (h0 : 0 < n) (ha : Rd w A n (ints sq)) (hs : NumsL P sq) (hx : Rd w X (pw n) (ints xs)) (hxs : NumsL P xs) (HP : isP P = true) :
    Calls Tryz.prog 59 #[.agg #[.int .i64 P, .slice A n c], .slice X (pw n) cx] w fun e w' => ∃ A' c', e = .returned (.slice A' n c') ∧ MkII w w' A' n c' (transL (colsL P sq n xs)) := by
  have hB0 : Below w.heap.size w (w.alloc (.cells #[.int .i64 P, .slice A n c] 28)) := (Below.refl _ _).alloc (Nat.le_refl _) _
  have k0 : Blk (w.alloc (.cells #[.int .i64 P, .slice A n c] 28)) w.heap.size 28 #[.int .i64 P, .slice A n c] := Blk.new _ _ _
  have k1 := k0.alloc (.cells #[] 22)
  have hM1 : MkII w ((w.alloc (.cells #[.int .i64 P, .slice A n c] 28)).alloc (.cells #[] 22)) (some ⟨w.heap.size + 1, 0, none⟩) 0 0 [] := by
    have := MkII.empty hB0
    simpa using this
  have hmk := make_i (P := Tryz.prog) 22 2 Tryz.underlying22 info_i n (by omega)
  clear k0 hB0
  go_enter Tryz.func59, Tryz.ntmps59
  go_wp2
  obtain ⟨w1, hw1⟩ : ∃ W, W = (w.alloc (.cells #[.int .i64 P, .slice A n c] 28)).alloc (.cells #[] 22) := ⟨_, rfl⟩
  rw [← hw1] at hM1 k1 ⊢
  clear hw1
  go_loopw [5, 6] (fun out i wr => ∃ (k : Nat) (A' : Option Addr) (c' : Nat), k ≤ n ∧ i = .int .i64 k ∧ out = .slice A' k c' ∧ MkII w wr A' k c' (tab k fun k => turnL P sq n xs (unitRow n k)) ∧ Blk wr w.heap.size 28 #[.int .i64 P, .slice A n c]) (fun _ i _ => n - (intOf i).toNat)
  case atStart => exact ⟨0, _, _, by omega, rfl, rfl, by simpa [tab] using hM1, k1⟩
  case round =>
    obtain ⟨k, A', c', hk, rfl, rfl, hM, hk2⟩ := hrel
    clear hM1 k1
    obtain ⟨q0, q1⟩ := hk2.two
    by_cases hlt : k < n
    · have hm1 := Mk.made (E := 2) (n := n) (z := .int .i64 0) (Below.refl wr.heap.size wr) (by simp only [maxLen]; omega)
      rw [ints_replicate] at hm1
      obtain ⟨u1, hc1⟩ := hm1.2.cellI hlt
      have hf1 := hm1.2.frozen_ k
      have hm2 := (hm1.set k (.int .i64 1)).1
      rw [ints_set, World.setCell_alloc_at _ _ _ _ _ rfl] at hm2
      have HM := Lib.hid hM
      have HK2 := Lib.hid hk2
      have HM2 := Lib.hid hm2
      have q0b := (hm2.b.cell (p := ⟨w.heap.size, 0, none⟩) hk2.lt).trans q0
      have q1b := (hm2.b.cell (p := ⟨w.heap.size, 1, none⟩) hk2.lt).trans q1
      have hBw := hM.b.trans (hm2.b.mono hM.b.size)
      have hcall := l10Turn_any P A n c sq X cx xs _ n (unitRow n k) _ hp hp2 hn (ha.below hBw) hs (hx.below hBw) hxs hm2.rd (unitRow_nums hp n k) HP
      clear hM hm1 hm2 hk2 hBw
      go_wp2_with fail
      refine hcall.mono ?_
      rintro e w5 ⟨A5, c5, rfl, hM5⟩
      have hM6 := hM5.after HM2.out.b
      have hk3 := HK2.out.below hM6.b HK2.out.lt
      have hM7 := HM.out.below hM6.b
      have hne := hM7.ne_blk hk3 (by decide)
      clear hcall hM5 q0 q1 q0b q1b hc1 hf1
      go_wp2_with (at_builtin; refine wpList_appRowG w wr _ rfl _ _ rfl A' k c' _ A5 n c5 _ HM.out hM6 (by omega) rfl ?_ ?_; (go_simp); intro A6 c6 w6 hM8 hg6 _)
      go_roundw
      case rel => exact ⟨k + 1, A6, c6, by omega, by go_num, rfl, by rw [tab_succ]; exact hM8, hk3.grown hg6 hne⟩
      case measure => simp [intOf]; omega
    · obtain rfl : k = n := by omega
      go_wp2_with fail
      refine (l02Turn_any P A' k c' (colsL P sq k xs) k _ h0 (by omega) (by omega) hM.rd (colsL_tab hp sq k xs)).mono ?_
      rintro e w5 ⟨A5, c5, rfl, hM5⟩
      go_wp2
      go_ret
      exact ⟨_, _, rfl, hM5.after hM.b⟩

set_option maxHeartbeats 1600000 in
set_option maxRecDepth 8000 in
theorem timesM_any (p : Int) (A : Option Addr) (n c : Nat) (M : List (List Int)) (B : Option Addr) (d : Nat) (N : List (List Int)) (w : World) (hp : 2 ≤ p) (hp2 : p ≤ 13) (h0 : 0 < n) (hn : n ≤ 65536) (ha : RdII w A n M) (hM : Tab p n M) (hb : RdII w B n N) (hN : Tab p n N) :
    Calls Tryz.prog 63 #[.int .i64 p, .slice A n c, .slice B n d] w fun e w' => ∃ A' c', e = .returned (.slice A' n c') ∧ MkII w w' A' n c' (timesM p M N) := by
  have HT := Lib.hid hM
  have HL := Lib.hid ha.len
  have HTT : Hid (Tab p n (transL N)) := Lib.hid (by have := transL_tab (show 0 < p by omega) hN; rwa [hb.len] at this)
  have hcall := transpose_any p B n d N n w h0 hn hn hb hN
  clear hM hN hb
  go_enter Tryz.func63, Tryz.ntmps63
  go_wp2_with fail
  refine hcall.mono ?_
  rintro e w1 ⟨T, cT, rfl, hT1⟩
  have hM0 : MkII w1 (w1.alloc (.cells #[] 22)) (some ⟨w1.heap.size, 0, none⟩) 0 0 [] := MkII.empty (Below.refl _ _)
  have HB1 := Lib.hid hT1.b
  have ha1 := ha.below hT1.b
  have hTr := hT1.rd
  clear hcall hT1 ha
  go_wp2
  go_loopw [8, 16] (fun out i wr => ∃ (k : Nat) (A' : Option Addr) (c' : Nat), k ≤ n ∧ i = .int .i64 k ∧ out = .slice A' k c' ∧ MkII w1 wr A' k c' (tab k fun i => applyL p (transL N) (M.getD i []))) (fun _ i _ => n - (intOf i).toNat)
  case atStart => exact ⟨0, _, _, by omega, rfl, rfl, by simpa [tab] using hM0⟩
  case round =>
    obtain ⟨k, A', c', hk, rfl, rfl, hM⟩ := hrel
    clear hM0
    by_cases hlt : k < n
    · obtain ⟨g, o, rfl, hxk, A1, c1, hcx, hr1, _⟩ := (ha1.below hM.b).at_ hlt
      obtain ⟨hl1, hn1⟩ := HT.out M[k] (List.getElem_mem hxk)
      rw [hl1] at hcx hr1
      have hap := apply_any p T n cT (transL N) A1 n c1 M[k] wr hp hp2 hn hn (hTr.below hM.b) HTT.out hr1 hn1
      have HV : Hid ((tab (k + 1) fun i => applyL p (transL N) (M.getD i [])) = (tab k fun i => applyL p (transL N) (M.getD i [])) ++ [applyL p (transL N) M[k]]) := Lib.hid (by rw [tab_succ, getD_of_lt [] hxk])
      have HM := Lib.hid hM
      clear hM hr1 hl1 hn1 hTr ha1
      go_wp2_with fail
      refine hap.mono ?_
      rintro e w5 ⟨A5, c5, rfl, hM5⟩
      clear hap
      go_wp2_with (at_builtin; refine wpList_appRow w1 wr _ rfl _ _ rfl A' k c' _ A5 n c5 _ HM.out hM5 (by omega) rfl ?_ ?_; (go_simp); intro A6 c6 w6 hM6)
      go_roundw
      case rel => exact ⟨k + 1, A6, c6, by omega, by go_num, rfl, by rw [HV.out]; exact hM6⟩
      case measure => simp [intOf]; omega
    · obtain rfl : k = n := by omega
      go_wp2
      go_ret
      exact ⟨_, _, rfl, by unfold timesM; rw [HL.out]; exact hM.after HB1.out⟩

set_option maxHeartbeats 1600000 in
set_option maxRecDepth 8000 in
theorem trace_any (p : Int) (A : Option Addr) (n c : Nat) (M : List (List Int)) (w : World) (hp : 2 ≤ p) (hp2 : p ≤ 13) (hn : n ≤ 65536) (ha : RdII w A n M) (hM : Tab p n M) :
    Calls Tryz.prog 62 #[.int .i64 p, .slice A n c] w fun e w' => e = .returned (.int .i64 (traceL p M)) ∧ w = w' := by
  have HL := Lib.hid ha.len
  have hsb : Hid (∀ j, j ≤ n → 0 ≤ (sumTo j fun i => ent M i i) ∧ (sumTo j fun i => ent M i i) ≤ 169 * (j : Int)) := Lib.hid (fun j hj => sumTo_169 (n := j) (f := fun i => ent M i i) fun i hi => by
    have := hM.ent (by omega) i i
    show 0 ≤ ent M i i ∧ ent M i i ≤ 169
    omega)
  have HT := Lib.hid hM
  clear hM
  go_enter Tryz.func62, Tryz.ntmps62
  go_wp2
  go_loopw [5, 9] (fun s i wr => ∃ j : Nat, j ≤ n ∧ i = .int .i64 j ∧ s = .int .i64 (sumTo j fun i => ent M i i) ∧ wr = w) (fun _ i _ => n - (intOf i).toNat)
  case atStart => exact ⟨0, by omega, rfl, rfl, rfl⟩
  case round =>
    obtain ⟨j, hj, rfl, rfl, rfl⟩ := hrel
    obtain ⟨b1, b2⟩ := hsb.out j hj
    have hsucc : Hid ((sumTo (j + 1) fun i => ent M i i) = (sumTo j fun i => ent M i i) + ent M j j) := Lib.hid (sumTo_succ _ _)
    have htr : Hid (j = n → traceL p M = (sumTo j fun i => ent M i i) % p) := Lib.hid (fun h => by unfold traceL; rw [HL.out, h])
    obtain ⟨s, hs⟩ : ∃ s, s = sumTo j fun i => ent M i i := ⟨_, rfl⟩
    rw [← hs] at b1 b2 hsucc htr ⊢
    clear hs
    by_cases hlt : j < n
    · obtain ⟨g, o, rfl, hxj, A1, c1, hcx, hr1, _⟩ := ha.at_ hlt
      obtain ⟨hl1, hn1⟩ := HT.out M[j] (List.getElem_mem hxj)
      rw [hl1] at hcx hr1
      obtain ⟨g2, o2, rfl, hxe, hce⟩ := hr1.int hlt
      obtain ⟨x1, x2⟩ := hn1 _ (List.getElem_mem hxe)
      have HV : Hid ((sumTo (j + 1) fun i => ent M i i) = s + M[j][j]) := Lib.hid (by rw [hsucc.out, ent_at hxj hxe])
      clear hr1 hl1 hn1 ha
      go_wp2
      go_roundw
      case rel => exact ⟨j + 1, by omega, by go_num, by rw [HV.out], trivial⟩
      case measure => simp [intOf]; omega
    · go_wp2_with fail
      refine (num_any p s _ (by omega) hp2 (by omega) (by omega)).mono ?_
      rintro e w' ⟨rfl, rfl⟩
      go_wp2
      go_ret
      exact ⟨ret_int (htr.out (by omega)).symm, rfl⟩

end Go.Proofs.YtgfgnpdnppggeaaGreat
