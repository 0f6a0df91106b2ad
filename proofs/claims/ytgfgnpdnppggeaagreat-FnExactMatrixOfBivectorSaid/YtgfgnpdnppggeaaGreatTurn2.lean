/-
  Matrices: turned ones, a bivector's one. Both sides.
-/
import Derived.Test.YtgfgnpdnppggeaaGreatTurnLaw
namespace Go.Proofs.YtgfgnpdnppggeaaGreat
open Go.RowKit

theorem ent_at {M : List (List Int)} {i k : Nat} (hi : i < M.length) (hk : k < M[i].length) : ent M i k = M[i][k] := by
  unfold ent
  rw [getD_of_lt [] hi, getD_of_lt 0 hk]

theorem Own.keep {w w' : World} {B : Nat} {E : TypeId} {A : Option Addr} {n c : Nat} {us : List Value} (h : Own w B E A n c us) (hk : ∀ b, B ≤ b → b < w.heap.size → w'.heap[b]? = w.heap[b]?) : Rd w' A n us := by
  refine ⟨h.len, fun hn => ?_⟩
  rcases h.form with ⟨_, h0⟩ | ⟨g, rfl, hg, hg2⟩
  · omega
  · obtain ⟨g', o, e, hc⟩ := h.rd.2 hn
    refine ⟨g', o, e, fun k u hu => ?_⟩
    injection e with e
    injection e with e1 _ _
    subst e1
    exact (World.cell?_of_block (hk g hg hg2)).trans (hc k u hu)
theorem MkII.keep {w0 w w' : World} {A : Option Addr} {n c : Nat} {xss : List (List Int)} (h : MkII w0 w A n c xss) (hk : ∀ b, w0.heap.size ≤ b → b < w.heap.size → w'.heap[b]? = w.heap[b]?) : RdII w' A n xss := by
  obtain ⟨rows, hm, hn⟩ := h
  exact ⟨rows, hm.2.keep hk, hn.len, fun k hk' => by obtain ⟨A', c', e, ho⟩ := hn.row k hk'; exact ⟨A', c', e, ho.keep hk, ho.cap⟩⟩
/-- A new row is appended: what else is said of memory, too. -/
theorem wpList_appRowG {ops : Array Oper} {rest : List Oper} {o : Oper} {a : Act} {Q : Exit → Act → World → Prop} (w0 wr w1 : World)
    (hgd : o.guard = none) (s x : Operand) (ho : o.op = .call { callee := .builtin .append, args := #[s, x], argTypes := #[39, 39] })
    (A : Option Addr) (n c : Nat) (xss : List (List Int)) (A1 : Option Addr) (m c1 : Nat) (xs : List Int) (hM : MkII w0 wr A n c xss) (hr : Mk wr w1 2 A1 m c1 (ints xs)) (hn : n ≤ 1099511627776)
    (hs : a.eval s = .slice A n c) (hx : a.eval x = .slice (some ⟨w1.heap.size, 0, none⟩) 1 1)
    (h : ∀ A' c' w', MkII w0 w' A' (n + 1) c' (xss ++ [xs]) → w1.grownBy w' (Value.slice A n c).ownBlock → (∃ g, A' = some ⟨g, 0, none⟩ ∧ ((Value.slice A n c).ownBlock = some g ∨ w1.heap.size ≤ g)) → wpList Tryz.prog ops Q rest (a.put o.dst (.slice A' (n + 1) c')) w') :
    wpList Tryz.prog ops Q (o :: rest) a (w1.alloc (.cells #[.slice A1 m c1] 22)) := by
  obtain ⟨rows, hm, hnest⟩ := hM
  have hm1 := hm.below hr.1
  have hn1 := hnest.snoc hr hm.1.size
  refine wpList_app1 w0 w1 39 22 (.slice none 0 0) 24 Tryz.underlying39 info_s rfl (by omega) hgd s x ho A n c rows (.slice A1 m c1) hm1 hn rfl hs hx ?_
  intro A' c' w' hM' hg hat
  exact h A' c' w' ⟨_, hM', hn1.grown hm1.2 (by decide) hg⟩ hg hat
/-- What is kept of the blocks between two sizes, and where a list lies that grows. -/
def Keeps (w2 w3 wr : World) (v : Value) : Prop := w3.heap.size ≤ wr.heap.size ∧ (∀ b, w2.heap.size ≤ b → b < w3.heap.size → wr.heap[b]? = w3.heap[b]?) ∧ ∀ gb, v.ownBlock = some gb → gb < w2.heap.size ∨ w3.heap.size ≤ gb
theorem lt_of_own {g gb k n c : Nat} (e : (Value.slice (some ⟨g, 0, none⟩) n c).ownBlock = some gb) (h : g < k) : gb < k := by
  have : g = gb := by simpa [Value.ownBlock] using e
  omega
theorem Keeps.step {w2 w3 wr w5 w6 : World} {A A' : Option Addr} {n c c' n' : Nat} (h : Keeps w2 w3 wr (.slice A n c)) (hb : Below wr.heap.size wr w5) (hg : w5.grownBy w6 (Value.slice A n c).ownBlock)
    (hat : ∃ g, A' = some ⟨g, 0, none⟩ ∧ ((Value.slice A n c).ownBlock = some g ∨ w5.heap.size ≤ g)) : Keeps w2 w3 w6 (.slice A' n' c') := by
  obtain ⟨h1, h2, h3⟩ := h
  have s1 := hb.size
  have s2 := hg.size
  refine ⟨by omega, fun b hb1 hb2 => ?_, fun gb hgb => ?_⟩
  · rw [hg.block b (by omega) (fun e => ?_), hb.block b (by omega), h2 b hb1 hb2]
    rcases h3 b e.symm with h | h <;> omega
  · obtain ⟨g, rfl, hor⟩ := hat
    have : g = gb := by simpa [Value.ownBlock] using hgb
    subst this
    rcases hor with he | he
    · exact h3 g he
    · right; omega

set_option maxHeartbeats 1600000 in
set_option maxRecDepth 8000 in
theorem transpose_any (p : Int) (A : Option Addr) (n c : Nat) (M : List (List Int)) (m : Nat) (w : World) (h0 : 0 < n) (hn : n ≤ 65536) (hm : m ≤ 65536) (ha : RdII w A n M) (hT : Tab p m M) :
    Calls Tryz.prog 120 #[.slice A n c] w fun e w' => ∃ A' c', e = .returned (.slice A' m c') ∧ MkII w w' A' m c' (transL M) := by
  have hML := ha.len
  have HTL : Hid (transL M = tab m fun k => tab n fun i => ent M i k) := Lib.hid (by unfold transL; rw [(hT.row (show 0 < M.length by omega)).1, hML])
  have HT := Lib.hid hT
  have HML := Lib.hid hML
  have hM0 : MkII w (w.alloc (.cells #[] 22)) (some ⟨w.heap.size, 0, none⟩) 0 0 [] := MkII.empty (Below.refl _ _)
  obtain ⟨g, o, rfl, hx0, A0, c0, hcx0, _, _⟩ := (ha.below hM0.b).at_ h0
  have hl0 : M[0].length = m := (HT.out M[0] (List.getElem_mem hx0)).1
  rw [hl0, Nat.add_zero] at hcx0
  clear hT hML hl0
  go_enter Tryz.func120, Tryz.ntmps120
  go_wp2
  clear hcx0
  obtain ⟨w1, hw1⟩ : ∃ W, W = w.alloc (.cells #[] 22) := ⟨_, rfl⟩
  rw [← hw1] at hM0 ⊢
  clear hw1
  go_loopw [3, 12] (fun out i wr => ∃ (k : Nat) (A' : Option Addr) (c' : Nat), k ≤ m ∧ i = .int .i64 k ∧ out = .slice A' k c' ∧ MkII w wr A' k c' (tab k fun k => tab n fun i => ent M i k)) (fun _ i _ => m - (intOf i).toNat)
  case atStart => exact ⟨0, _, _, by omega, rfl, rfl, by simpa [tab] using hM0⟩
  case round =>
    obtain ⟨k, A', c', hk, rfl, rfl, hM⟩ := hrel
    clear hM0
    obtain ⟨wo, rfl⟩ : ∃ W, W = wr := ⟨_, rfl⟩
    by_cases hlt : k < m
    · have hr0 := Mk.lit (E := 2) (Below.refl wo.heap.size wo) #[] (by simp)
      have hR0 : MkI wo (wo.alloc (.cells #[] 2)) (some ⟨wo.heap.size, 0, none⟩) 0 0 [] := by simpa [MkI, ints] using hr0
      have HM := Lib.hid hM
      clear hr0 hM
      go_wp2
      go_loopw [5, 18] (fun row i w2 => ∃ (j : Nat) (A2 : Option Addr) (c2 : Nat), j ≤ n ∧ i = .int .i64 j ∧ row = .slice A2 j c2 ∧ MkI wo w2 A2 j c2 (tab j fun i => ent M i k)) (fun _ i _ => n - (intOf i).toNat)
      case atStart => exact ⟨0, _, _, by omega, rfl, rfl, by simpa [tab] using hR0⟩
      case round =>
        obtain ⟨j, A2, c2, hj, rfl, rfl, hR⟩ := hrel
        clear hR0
        have HR := Lib.hid hR
        by_cases hlj : j < n
        · have hbb := HM.out.b.trans (hR.b.mono HM.out.b.size)
          obtain ⟨g', o', e', hxj, A3, c3, hcx, hr3, _⟩ := (ha.below hbb).at_ hlj
          injection e' with e'; injection e' with e1 e2 _
          subst e1; subst e2
          have hl3 : M[j].length = m := (HT.out M[j] (List.getElem_mem hxj)).1
          rw [hl3] at hcx hr3
          obtain ⟨g3, o3, rfl, hx3, hc3⟩ := hr3.int hlt
          have HV : Hid ((tab (j + 1) fun i => ent M i k) = (tab j fun i => ent M i k) ++ [M[j][k]]) := Lib.hid (by rw [tab_succ, ent_at hxj hx3])
          clear hR hr3 hl3 hbb ha
          go_wp2_with (at_builtin; refine wpList_app1 wo _ 22 2 _ _ Tryz.underlying22 info_i rfl (by omega) rfl _ _ rfl A2 j c2 _ _ HR.out (by omega) rfl rfl rfl ?_; intro A4 c4 w4 hM4 _ _)
          go_roundw
          case rel => exact ⟨j + 1, A4, c4, by omega, by go_num, rfl, by rw [HV.out]; simpa [MkI, ints] using hM4⟩
          case measure => simp [intOf]; omega
        · obtain rfl : j = n := by omega
          clear hR ha
          go_wp2_with (at_builtin; refine wpList_appRow w wo _ rfl _ _ rfl A' k c' _ A2 j c2 _ HM.out HR.out (by omega) rfl ?_ ?_; (go_simp); intro A4 c4 w4 hM4)
          go_roundw
          case rel => exact ⟨k + 1, A4, c4, by omega, by go_num, rfl, by rw [tab_succ]; exact hM4⟩
          case measure => simp [intOf]; omega
    · go_wp2
      go_ret
      obtain rfl : k = m := by omega
      exact ⟨_, _, rfl, by rw [HTL.out]; exact hM⟩

set_option maxHeartbeats 1600000 in
set_option maxRecDepth 8000 in
theorem matrixBy_turn (g gx : Nat) (P : Int) (A : Option Addr) (n c : Nat) (sq : List Int) (X : Option Addr) (cx : Nat) (xs : List Int) (w : World) (hp : 2 ≤ P) (hp2 : P ≤ 13) (hn : n ≤ 6) (h0 : 0 < n) (ha : Rd w A n (ints sq)) (hs : NumsL P sq) (hx : Rd w X (pw n) (ints xs)) (hxs : NumsL P xs) (hcx : pw n ≤ cx) (HP : isP P = true) (kg : Blk w g 28 #[.int .i64 P, .slice A n c]) (kx : Blk w gx 22 #[.slice X (pw n) cx]) :
    Calls Tryz.prog 112 #[.agg #[.int .i64 P, .slice A n c], .func (.func 113) #[] #[.pointer (some ⟨g, 0, none⟩), .pointer (some ⟨gx, 0, none⟩)]] w fun e w' => ∃ A' c', e = .returned (.slice A' n c') ∧ MkII w w' A' n c' (transL (colsL P sq n xs)) := by
  have hB0 : Below w.heap.size w (w.alloc (.cells #[.int .i64 P, .slice A n c] 28)) := (Below.refl _ _).alloc (Nat.le_refl _) _
  have k0 : Blk (w.alloc (.cells #[.int .i64 P, .slice A n c] 28)) w.heap.size 28 #[.int .i64 P, .slice A n c] := Blk.new _ _ _
  have hB1 := hB0.alloc (by simp) (.cells #[] 22)
  have k1 := k0.alloc (.cells #[] 22)
  have hM1 : MkII w ((w.alloc (.cells #[.int .i64 P, .slice A n c] 28)).alloc (.cells #[] 22)) (some ⟨w.heap.size + 1, 0, none⟩) 0 0 [] := by
    have := MkII.empty hB0
    simpa using this
  clear k0
  obtain ⟨q0, q1⟩ := k1.two
  go_enter Tryz.func112, Tryz.ntmps112
  go_wp2_with fail
  refine (dim_any _ _ _ _ _).mono ?_
  rintro e w2 ⟨rfl, hb2⟩
  have hM2 := hM1.below hb2
  have hB2 := hB1.trans (hb2.mono hB1.size)
  clear hM1 q0 q1 k1 hB0 hB1
  go_wp2_with fail
  refine (unit_any n _ (by omega)).mono ?_
  rintro e w3 ⟨U, cU, rfl, hU⟩
  have hM3 := hM2.below hU.b
  have hB3 := hB2.trans (hU.b.mono hB2.size)
  have hsz2 : w.heap.size + 1 < w2.heap.size := by have := hb2.size; simp at this; omega
  have hKp : Keeps w2 w3 w3 (.slice (some ⟨w.heap.size + 1, 0, none⟩) 0 0) := ⟨Nat.le_refl _, fun _ _ _ => rfl, fun gb e => .inl (lt_of_own e hsz2)⟩
  clear hM2 hB2 hb2 hsz2
  go_wp2
  go_loopw [5, 13] (fun out i wr => ∃ (k : Nat) (A' : Option Addr) (c' : Nat), k ≤ n ∧ i = .int .i64 k ∧ out = .slice A' k c' ∧ MkII w wr A' k c' (tab k fun k => turnL P sq n xs (unitRow n k)) ∧ Keeps w2 w3 wr (.slice A' k c')) (fun _ i _ => n - (intOf i).toNat)
  case atStart => exact ⟨0, _, _, by omega, rfl, rfl, by simpa [tab] using hM3, hKp⟩
  case round =>
    obtain ⟨k, A', c', hk, rfl, rfl, hM, hB4⟩ := hrel
    clear hM3 hKp
    by_cases hlt : k < n
    · obtain ⟨gu, ou, rfl, hxk, A1, c1, hcu, hru, hcc⟩ := (hU.keep hB4.2.1).at_ hlt
      have hrow := unitM_get n k hxk
      rw [hrow, unitRow_len] at hru hcu hcc
      have hcall := turning1_any g gx P A n c sq X cx xs A1 c1 (unitRow n k) wr hp hp2 hn (ha.below hM.b) hs (hx.below hM.b) hxs hcx hru (unitRow_nums hp n k) HP (kg.below hM.b kg.lt) (kx.below hM.b kx.lt)
      have HM := Lib.hid hM
      have HB4 := Lib.hid hB4
      clear hM hru hrow hB4
      go_wp2_with fail
      refine hcall.mono ?_
      rintro e w5 ⟨A5, c5, rfl, hM5⟩
      clear hcall
      go_wp2_with (at_builtin; refine wpList_appRowG w wr _ rfl _ _ rfl A' k c' _ A5 n c5 _ HM.out hM5 (by omega) rfl ?_ ?_; (go_simp); intro A6 c6 w6 hM6 hg6 hat6)
      go_roundw
      case rel => exact ⟨k + 1, A6, c6, by omega, by go_num, rfl, by rw [tab_succ]; exact hM6, HB4.out.step hM5.b hg6 hat6⟩
      case measure => simp [intOf]; omega
    · obtain rfl : k = n := by omega
      go_wp2_with fail
      refine (transpose_any P A' k c' (colsL P sq k xs) k _ h0 (by omega) (by omega) hM.rd (colsL_tab hp sq k xs)).mono ?_
      rintro e w5 ⟨A5, c5, rfl, hM5⟩
      go_wp2
      go_ret
      exact ⟨_, _, rfl, hM5.after hM.b⟩

set_option maxHeartbeats 1600000 in
set_option maxRecDepth 8000 in
theorem turning_any (P : Int) (A : Option Addr) (n c : Nat) (sq : List Int) (X : Option Addr) (cx : Nat) (xs : List Int) (w : World) (hp : 2 ≤ P) (hp2 : P ≤ 13) (hn : n ≤ 6) (h0 : 0 < n) (ha : Rd w A n (ints sq)) (hs : NumsL P sq) (hx : Rd w X (pw n) (ints xs)) (hxs : NumsL P xs) (hcx : pw n ≤ cx) (HP : isP P = true) :
    Calls Tryz.prog 58 #[.agg #[.int .i64 P, .slice A n c], .slice X (pw n) cx] w fun e w' => ∃ A' c', e = .returned (.slice A' n c') ∧ MkII w w' A' n c' (transL (colsL P sq n xs)) := by
  have hB0 : Below w.heap.size w (w.alloc (.cells #[.int .i64 P, .slice A n c] 28)) := (Below.refl _ _).alloc (Nat.le_refl _) _
  have k0 : Blk (w.alloc (.cells #[.int .i64 P, .slice A n c] 28)) w.heap.size 28 #[.int .i64 P, .slice A n c] := Blk.new _ _ _
  have hB1 := hB0.alloc (by simp) (.cells #[.slice X (pw n) cx] 22)
  have k1 := k0.alloc (.cells #[.slice X (pw n) cx] 22)
  have kx : Blk ((w.alloc (.cells #[.int .i64 P, .slice A n c] 28)).alloc (.cells #[.slice X (pw n) cx] 22)) (w.heap.size + 1) 22 #[.slice X (pw n) cx] := Blk.newAt (by simp)
  have hcall := matrixBy_turn w.heap.size (w.heap.size + 1) P A n c sq X cx xs _ hp hp2 hn h0 (ha.below hB1) hs (hx.below hB1) hxs hcx HP k1 kx
  obtain ⟨q0, q1⟩ := k1.two
  go_enter Tryz.func58, Tryz.ntmps58
  go_wp2_with fail
  refine hcall.mono ?_
  rintro e w2 ⟨A2, c2, rfl, hM⟩
  go_wp2
  go_ret
  exact ⟨_, _, rfl, hM.after hB1⟩

end Go.Proofs.YtgfgnpdnppggeaaGreat
