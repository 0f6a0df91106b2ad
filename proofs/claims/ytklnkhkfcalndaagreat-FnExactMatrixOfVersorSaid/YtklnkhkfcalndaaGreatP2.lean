/-
  LawMatrixOfVersor: part 2 of the texts that the proof needs. No condition.
-/
import Derived.Test.YtklnkhkfcalndaaGreatP1
namespace Go.Proofs.YtklnkhkfcalndaaGreat
open Go.RowKit
section
variable {w0 w w1 w2 : World} {g n c : Nat} {xss : List (List Int)}
theorem MkII.frozen_ (h : MkII w0 w (some ⟨g, 0, none⟩) n c xss) (k : Nat) : w.frozen? ⟨g, k, none⟩ = false := by
  obtain ⟨rows, hm, _⟩ := h
  exact hm.2.frozen_ k
/-- The list cut down. -/
theorem MkII.cut {A : Option Addr} {k : Nat} (h : MkII w0 w A n c xss) (hk : k ≤ n) : MkII w0 w A k c (xss.take k) := by
  obtain ⟨rows, hm, hn⟩ := h
  refine ⟨rows.take k, ⟨hm.1, hm.2.cut hk⟩, by rw [List.length_take, List.length_take, hn.len], fun j hj => ?_, fun i j b hij hi => ?_⟩
  · have hj2 : j < k ∧ j < xss.length := by rw [List.length_take] at hj; omega
    obtain ⟨A', c', e, ho⟩ := hn.row j hj2.2
    rw [List.getElem_take]
    exact ⟨A', c', by rw [List.getElem?_take, if_pos hj2.1]; exact e, ho⟩
  · rw [List.getElem?_take] at hi ⊢
    split at hi
    · split
      · exact hn.apart i j b hij hi
      · simp
    · simp at hi
end
theorem ent_at {M : List (List Int)} {i k : Nat} (hi : i < M.length) (hk : k < M[i].length) : ent M i k = M[i][k] := by
  unfold ent
  rw [getD_of_lt [] hi, getD_of_lt 0 hk]
theorem Own.keep {w w' : World} {B : Nat} {E : TypeId} {A : Option Addr} {n c : Nat} {us : List Value} (h : Own w B E A n c us) (hk : ∀ b, B ≤ b → b < w.heap.size → w'.heap[b]? = w.heap[b]?) : Rd w' A n us := by
  refine ⟨h.len, fun hn => ?_⟩
  rcases h.form with ⟨_, h0⟩ | ⟨g, rfl, hg, hg2⟩
  · omega
  · obtain ⟨g', o, e, hc⟩ := h.rd.2 hn
    refine ⟨g', o, e, fun k u hu => ?_⟩
    injection e with e
    injection e with e1 _ _
    subst e1
    exact (World.cell?_of_block (hk g hg hg2)).trans (hc k u hu)
theorem MkII.keep {w0 w w' : World} {A : Option Addr} {n c : Nat} {xss : List (List Int)} (h : MkII w0 w A n c xss) (hk : ∀ b, w0.heap.size ≤ b → b < w.heap.size → w'.heap[b]? = w.heap[b]?) : RdII w' A n xss := by
  obtain ⟨rows, hm, hn⟩ := h
  exact ⟨rows, hm.2.keep hk, hn.len, fun k hk' => by obtain ⟨A', c', e, ho⟩ := hn.row k hk'; exact ⟨A', c', e, ho.keep hk, ho.cap⟩⟩
/-- A new row is appended: what else is said of memory, too. -/
theorem wpList_appRowG {ops : Array Oper} {rest : List Oper} {o : Oper} {a : Act} {Q : Exit → Act → World → Prop} (w0 wr w1 : World)
    (hgd : o.guard = none) (s x : Operand) (ho : o.op = .call { callee := .builtin .append, args := #[s, x], argTypes := #[26, 26] })
    (A : Option Addr) (n c : Nat) (xss : List (List Int)) (A1 : Option Addr) (m c1 : Nat) (xs : List Int) (hM : MkII w0 wr A n c xss) (hr : Mk wr w1 2 A1 m c1 (ints xs)) (hn : n ≤ 1099511627776)
    (hs : a.eval s = .slice A n c) (hx : a.eval x = .slice (some ⟨w1.heap.size, 0, none⟩) 1 1)
    (h : ∀ A' c' w', MkII w0 w' A' (n + 1) c' (xss ++ [xs]) → w1.grownBy w' (Value.slice A n c).ownBlock → (∃ g, A' = some ⟨g, 0, none⟩ ∧ ((Value.slice A n c).ownBlock = some g ∨ w1.heap.size ≤ g)) → wpList Tryz.prog ops Q rest (a.put o.dst (.slice A' (n + 1) c')) w') :
    wpList Tryz.prog ops Q (o :: rest) a (w1.alloc (.cells #[.slice A1 m c1] 22)) := by
  obtain ⟨rows, hm, hnest⟩ := hM
  have hm1 := hm.below hr.1
  have hn1 := hnest.snoc hr hm.1.size
  refine wpList_app1 w0 w1 26 22 (.slice none 0 0) 24 Tryz.underlying26 info_s rfl (by omega) hgd s x ho A n c rows (.slice A1 m c1) hm1 hn rfl hs hx ?_
  intro A' c' w' hM' hg hat
  exact h A' c' w' ⟨_, hM', hn1.grown hm1.2 (by decide) hg⟩ hg hat
/-- What is kept of the blocks between two sizes, and where a list lies that grows. -/
def Keeps (w2 w3 wr : World) (v : Value) : Prop := w3.heap.size ≤ wr.heap.size ∧ (∀ b, w2.heap.size ≤ b → b < w3.heap.size → wr.heap[b]? = w3.heap[b]?) ∧ ∀ gb, v.ownBlock = some gb → gb < w2.heap.size ∨ w3.heap.size ≤ gb
theorem lt_of_own {g gb k n c : Nat} (e : (Value.slice (some ⟨g, 0, none⟩) n c).ownBlock = some gb) (h : g < k) : gb < k := by
  have : g = gb := by simpa [Value.ownBlock] using e
  omega
theorem Keeps.step {w2 w3 wr w5 w6 : World} {A A' : Option Addr} {n c c' n' : Nat} (h : Keeps w2 w3 wr (.slice A n c)) (hb : Below wr.heap.size wr w5) (hg : w5.grownBy w6 (Value.slice A n c).ownBlock)
    (hat : ∃ g, A' = some ⟨g, 0, none⟩ ∧ ((Value.slice A n c).ownBlock = some g ∨ w5.heap.size ≤ g)) : Keeps w2 w3 w6 (.slice A' n' c') := by
  obtain ⟨h1, h2, h3⟩ := h
  have s1 := hb.size
  have s2 := hg.size
  refine ⟨by omega, fun b hb1 hb2 => ?_, fun gb hgb => ?_⟩
  · rw [hg.block b (by omega) (fun e => ?_), hb.block b (by omega), h2 b hb1 hb2]
    rcases h3 b e.symm with h | h <;> omega
  · obtain ⟨g, rfl, hor⟩ := hat
    have : g = gb := by simpa [Value.ownBlock] using hgb
    subst this
    rcases hor with he | he
    · exact h3 g he
    · right; omega
theorem MkII.ne_blk {w0 w : World} {A : Option Addr} {n c g : Nat} {xss : List (List Int)} {t : TypeId} {cs : Array Value} (h : MkII w0 w A n c xss) (hb : Blk w g t cs) (hE : 22 ≠ t) : some g ≠ (Value.slice A n c).ownBlock := by
  obtain ⟨rows, hm, _⟩ := h
  exact hm.2.ne_blk hb hE
theorem RdII.row0 {w : World} {g o n : Nat} {M : List (List Int)} {p : Int} {m : Nat} (h : RdII w (some ⟨g, o, none⟩) n M) (h0 : 0 < n) (hT : Tab p m M) : ∃ A0 c0, w.cell? ⟨g, o, none⟩ = some (.slice A0 m c0) := by
  obtain ⟨g', o', e', hx0, A0, c0, hc, _, _⟩ := h.at_ h0
  injection e' with e'
  injection e' with e1 e2 _
  subst e1; subst e2
  refine ⟨A0, c0, ?_⟩
  rw [Nat.add_zero] at hc
  rw [hc, (hT M[0] (List.getElem_mem hx0)).1]
end Go.Proofs.YtklnkhkfcalndaaGreat
namespace Go.Proofs.YtklnkhkfcalndaaGreat
open Go.RowKit
set_option maxHeartbeats 1600000 in
set_option maxRecDepth 8000 in
theorem transpose_any (p : Int) (A : Option Addr) (n c : Nat) (M : List (List Int)) (m : Nat) (w : World) (h0 : 0 < n) (hn : n ≤ 65536) (hm : m ≤ 65536) (ha : RdII w A n M) (hT : Tab p m M) :
    Calls Tryz.prog 43 #[.slice A n c] w fun e w' => ∃ A' c', e = .returned (.slice A' m c') ∧ MkII w w' A' m c' (transL M) := by
  have hML := ha.len
  have HTL : Hid (transL M = tab m fun k => tab n fun i => ent M i k) := Lib.hid (by unfold transL; rw [(hT.row (show 0 < M.length by omega)).1, hML])
  have HT := Lib.hid hT
  have HML := Lib.hid hML
  have hM0 : MkII w (w.alloc (.cells #[] 22)) (some ⟨w.heap.size, 0, none⟩) 0 0 [] := MkII.empty (Below.refl _ _)
  obtain ⟨g, o, rfl, hx0, A0, c0, hcx0, _, _⟩ := (ha.below hM0.b).at_ h0
  have hl0 : M[0].length = m := (HT.out M[0] (List.getElem_mem hx0)).1
  rw [hl0, Nat.add_zero] at hcx0
  clear hT hML hl0
  go_enter Tryz.func43, Tryz.ntmps43
  go_wp2
  clear hcx0
  obtain ⟨w1, hw1⟩ : ∃ W, W = w.alloc (.cells #[] 22) := ⟨_, rfl⟩
  rw [← hw1] at hM0 ⊢
  clear hw1
  go_loopw [3, 12] (fun out i wr => ∃ (k : Nat) (A' : Option Addr) (c' : Nat), k ≤ m ∧ i = .int .i64 k ∧ out = .slice A' k c' ∧ MkII w wr A' k c' (tab k fun k => tab n fun i => ent M i k)) (fun _ i _ => m - (intOf i).toNat)
  case atStart => exact ⟨0, _, _, by omega, rfl, rfl, by simpa [tab] using hM0⟩
  case round =>
    obtain ⟨k, A', c', hk, rfl, rfl, hM⟩ := hrel
    clear hM0
    obtain ⟨wo, rfl⟩ : ∃ W, W = wr := ⟨_, rfl⟩
    by_cases hlt : k < m
    · have hr0 := Mk.lit (E := 2) (Below.refl wo.heap.size wo) #[] (by simp)
      have hR0 : MkI wo (wo.alloc (.cells #[] 2)) (some ⟨wo.heap.size, 0, none⟩) 0 0 [] := by simpa [MkI, ints] using hr0
      have HM := Lib.hid hM
      clear hr0 hM
      go_wp2
      go_loopw [5, 18] (fun row i w2 => ∃ (j : Nat) (A2 : Option Addr) (c2 : Nat), j ≤ n ∧ i = .int .i64 j ∧ row = .slice A2 j c2 ∧ MkI wo w2 A2 j c2 (tab j fun i => ent M i k)) (fun _ i _ => n - (intOf i).toNat)
      case atStart => exact ⟨0, _, _, by omega, rfl, rfl, by simpa [tab] using hR0⟩
      case round =>
        obtain ⟨j, A2, c2, hj, rfl, rfl, hR⟩ := hrel
        clear hR0
        have HR := Lib.hid hR
        by_cases hlj : j < n
        · have hbb := HM.out.b.trans (hR.b.mono HM.out.b.size)
          obtain ⟨g', o', e', hxj, A3, c3, hcx, hr3, _⟩ := (ha.below hbb).at_ hlj
          injection e' with e'; injection e' with e1 e2 _
          subst e1; subst e2
          have hl3 : M[j].length = m := (HT.out M[j] (List.getElem_mem hxj)).1
          rw [hl3] at hcx hr3
          obtain ⟨g3, o3, rfl, hx3, hc3⟩ := hr3.int hlt
          have HV : Hid ((tab (j + 1) fun i => ent M i k) = (tab j fun i => ent M i k) ++ [M[j][k]]) := Lib.hid (by rw [tab_succ, ent_at hxj hx3])
          clear hR hr3 hl3 hbb ha
          go_wp2_with (at_builtin; refine wpList_app1 wo _ 22 2 _ _ Tryz.underlying22 info_i rfl (by omega) rfl _ _ rfl A2 j c2 _ _ HR.out (by omega) rfl rfl rfl ?_; intro A4 c4 w4 hM4 _ _)
          go_roundw
          case rel => exact ⟨j + 1, A4, c4, by omega, by go_num, rfl, by rw [HV.out]; simpa [MkI, ints] using hM4⟩
          case measure => simp [intOf]; omega
        · obtain rfl : j = n := by omega
          clear hR ha
          go_wp2_with (at_builtin; refine wpList_appRow w wo _ rfl _ _ rfl A' k c' _ A2 j c2 _ HM.out HR.out (by omega) rfl ?_ ?_; (go_simp); intro A4 c4 w4 hM4)
          go_roundw
          case rel => exact ⟨k + 1, A4, c4, by omega, by go_num, rfl, by rw [tab_succ]; exact hM4⟩
          case measure => simp [intOf]; omega
    · go_wp2
      go_ret
      obtain rfl : k = m := by omega
      exact ⟨_, _, rfl, by rw [HTL.out]; exact hM⟩
set_option maxHeartbeats 1600000 in
set_option maxRecDepth 8000 in
theorem l02Turn_any (p : Int) (A : Option Addr) (n c : Nat) (M : List (List Int)) (m : Nat) (w : World) (h0 : 0 < n) (hn : n ≤ 65536) (hm : m ≤ 65536) (ha : RdII w A n M) (hT : Tab p m M) :
    Calls Tryz.prog 34 #[.slice A n c] w fun e w' => ∃ A' c', e = .returned (.slice A' m c') ∧ MkII w w' A' m c' (transL M) := by
  have hML := ha.len
  have HTL : Hid (transL M = tab m fun k => tab n fun i => ent M i k) := Lib.hid (by unfold transL; rw [(hT.row (show 0 < M.length by omega)).1, hML])
  have HT := Lib.hid hT
  have HML := Lib.hid hML
  have hM0 : MkII w (w.alloc (.cells #[] 22)) (some ⟨w.heap.size, 0, none⟩) 0 0 [] := MkII.empty (Below.refl _ _)
  obtain ⟨g, o, rfl, _⟩ := ha.at_ h0
  clear hT hML
  go_enter Tryz.func34, Tryz.ntmps34
  go_wp2
  obtain ⟨w1, hw1⟩ : ∃ W, W = w.alloc (.cells #[] 22) := ⟨_, rfl⟩
  rw [← hw1] at hM0 ⊢
  clear hw1
  go_loopw [3, 4] (fun out i wr => ∃ (k : Nat) (A' : Option Addr) (c' : Nat), k ≤ m ∧ i = .int .i64 k ∧ out = .slice A' k c' ∧ MkII w wr A' k c' (tab k fun k => tab n fun i => ent M i k)) (fun _ i _ => m - (intOf i).toNat)
  case atStart => exact ⟨0, _, _, by omega, rfl, rfl, by simpa [tab] using hM0⟩
  case round =>
    obtain ⟨k, A', c', hk, rfl, rfl, hM⟩ := hrel
    clear hM0
    obtain ⟨wo, rfl⟩ : ∃ W, W = wr := ⟨_, rfl⟩
    obtain ⟨A0, c0, hcx0⟩ := (ha.below hM.b).row0 h0 HT.out
    by_cases hlt : k < m
    · have hr0 := Mk.lit (E := 2) (Below.refl wo.heap.size wo) #[] (by simp)
      have hR0 : MkI wo (wo.alloc (.cells #[] 2)) (some ⟨wo.heap.size, 0, none⟩) 0 0 [] := by simpa [MkI, ints] using hr0
      have HM := Lib.hid hM
      clear hr0 hM
      go_wp2
      go_loopw [5, 6] (fun row i w2 => ∃ (j : Nat) (A2 : Option Addr) (c2 : Nat), j ≤ n ∧ i = .int .i64 j ∧ row = .slice A2 j c2 ∧ MkI wo w2 A2 j c2 (tab j fun i => ent M i k)) (fun _ i _ => n - (intOf i).toNat)
      case atStart => exact ⟨0, _, _, by omega, rfl, rfl, by simpa [tab] using hR0⟩
      case round =>
        obtain ⟨j, A2, c2, hj, rfl, rfl, hR⟩ := hrel
        clear hR0 hcx0
        have HR := Lib.hid hR
        by_cases hlj : j < n
        · have hbb := HM.out.b.trans (hR.b.mono HM.out.b.size)
          obtain ⟨g', o', e', hxj, A3, c3, hcx, hr3, _⟩ := (ha.below hbb).at_ hlj
          injection e' with e'; injection e' with e1 e2 _
          subst e1; subst e2
          have hl3 : M[j].length = m := (HT.out M[j] (List.getElem_mem hxj)).1
          rw [hl3] at hcx hr3
          obtain ⟨g3, o3, rfl, hx3, hc3⟩ := hr3.int hlt
          have HV : Hid ((tab (j + 1) fun i => ent M i k) = (tab j fun i => ent M i k) ++ [M[j][k]]) := Lib.hid (by rw [tab_succ, ent_at hxj hx3])
          clear hR hr3 hl3 hbb ha
          go_wp2_with (at_builtin; refine wpList_app1 wo _ 22 2 _ _ Tryz.underlying22 info_i rfl (by omega) rfl _ _ rfl A2 j c2 _ _ HR.out (by omega) rfl rfl rfl ?_; intro A4 c4 w4 hM4 _ _)
          go_roundw
          case rel => exact ⟨j + 1, A4, c4, by omega, by go_num, rfl, by rw [HV.out]; simpa [MkI, ints] using hM4⟩
          case measure => simp [intOf]; omega
        · obtain rfl : j = n := by omega
          clear hR ha
          go_wp2_with (at_builtin; refine wpList_appRow w wo _ rfl _ _ rfl A' k c' _ A2 j c2 _ HM.out HR.out (by omega) rfl ?_ ?_; (go_simp); intro A4 c4 w4 hM4)
          go_roundw
          case rel => exact ⟨k + 1, A4, c4, by omega, by go_num, rfl, by rw [tab_succ]; exact hM4⟩
          case measure => simp [intOf]; omega
    · go_wp2
      go_ret
      obtain rfl : k = m := by omega
      exact ⟨_, _, rfl, by rw [HTL.out]; exact hM⟩
end Go.Proofs.YtklnkhkfcalndaaGreat
namespace Go.Proofs.YtklnkhkfcalndaaGreat
open Go.RowKit
set_option maxHeartbeats 400000 in
theorem l01Prime_any (p : Int) (w : World) :
    Calls Tryz.prog 129 #[.int .i64 p] w fun e w' => e = .returned (.bool (isP p)) ∧ w = w' := by
  by_cases h3 : p = 3
  · subst h3
    go_enter Tryz.func129, Tryz.ntmps129
    go_wp2
    go_ret
    exact ⟨rfl, rfl⟩
  have b3 : (p == 3) = false := by simpa using h3
  by_cases h5 : p = 5
  · subst h5
    go_enter Tryz.func129, Tryz.ntmps129
    go_wp2
    go_ret
    exact ⟨rfl, rfl⟩
  have b5 : (p == 5) = false := by simpa using h5
  by_cases h7 : p = 7
  · subst h7
    go_enter Tryz.func129, Tryz.ntmps129
    go_wp2
    go_ret
    exact ⟨rfl, rfl⟩
  have b7 : (p == 7) = false := by simpa using h7
  by_cases h11 : p = 11
  · subst h11
    go_enter Tryz.func129, Tryz.ntmps129
    go_wp2
    go_ret
    exact ⟨rfl, rfl⟩
  have b11 : (p == 11) = false := by simpa using h11
  go_enter Tryz.func129, Tryz.ntmps129
  go_wp2
  go_ret
  exact ⟨ret_bool (by simp [isP, b3, b5, b7, b11]), rfl⟩
theorem l01Prime_b {b : Bool} (p : Int) (w : World) (h : isP p = b) :
    Calls Tryz.prog 129 #[.int .i64 p] w fun e w' => e = .returned (.bool b) ∧ w = w' := h ▸ l01Prime_any p w
set_option maxHeartbeats 400000 in
theorem l01In_any (n lo hi : Int) (w : World) :
    Calls Tryz.prog 130 #[.int .i64 n, .int .i64 lo, .int .i64 hi] w fun e w' => e = .returned (.bool (inR n lo hi)) ∧ w = w' := by
  by_cases h : lo ≤ n
  · go_enter Tryz.func130, Tryz.ntmps130
    go_wp2
    go_ret
    exact ⟨ret_bool (by simp [inR, h]), rfl⟩
  · go_enter Tryz.func130, Tryz.ntmps130
    go_wp2
    go_ret
    exact ⟨ret_bool (by simp [inR]; omega), rfl⟩
theorem l01In_b {b : Bool} (n lo hi : Int) (w : World) (h : inR n lo hi = b) :
    Calls Tryz.prog 130 #[.int .i64 n, .int .i64 lo, .int .i64 hi] w fun e w' => e = .returned (.bool b) ∧ w = w' := h ▸ l01In_any n lo hi w
set_option maxHeartbeats 400000 in
theorem l01Numbers_any (p : Int) (A : Option Addr) (n c : Nat) (xs : List Int) (w : World) (hp : 0 < p) (hp2 : p ≤ 100) (hn : n ≤ 1099511627776) (ha : Rd w A n (ints xs)) :
    Calls Tryz.prog 131 #[.int .i64 p, .slice A n c] w fun e w' => e = .returned (.bool (nums p xs)) ∧ w = w' := by
  have hxl : xs.length = n := by have := ha.1; rwa [ints_length] at this
  have Hx := Lib.hid hxl; clear hxl
  go_enter Tryz.func131, Tryz.ntmps131
  go_wp2
  go_loop [5] (fun i => ∃ k : Nat, k ≤ n ∧ i = .int .i64 k ∧ nums p (xs.take k) = true) (fun i => n - (intOf i).toNat)
  case atStart => exact ⟨0, by omega, rfl, by simp [nums]⟩
  case round =>
    obtain ⟨k, hk, rfl, ht⟩ := hrel
    have H := Lib.hid ht; clear ht
    by_cases hlt : k < n
    · obtain ⟨g, o, rfl, hx, hcx⟩ := ha.int hlt
      clear ha
      cases hi : inR xs[k] 0 (p - 1)
      all_goals
        have HI := Lib.hid hi; clear hi
        go_wp2_with (go_at_call 130; refine (l01In_b _ _ _ _ HI.out).mono ?_; rintro e w' ⟨rfl, rfl⟩)
      · go_ret
        exact ⟨ret_bool (nums_bad p xs k hx HI.out).symm, rfl⟩
      · go_round
        case rel => exact ⟨k + 1, by omega, by go_num, nums_take p xs k hx H.out HI.out⟩
        case measure => simp [intOf]; omega
    · go_wp2
      go_ret
      have := H.out
      rw [List.take_of_length_le (by rw [Hx.out]; omega)] at this
      exact ⟨ret_bool this.symm, rfl⟩
set_option maxHeartbeats 800000 in
theorem l03Is_any (P : Int) (A : Option Addr) (n c : Nat) (xs : List Int) (w : World) (hn : n ≤ 1099511627776) (ha : Rd w A n (ints xs)) :
    Calls Tryz.prog 111 #[.agg #[.int .i64 P, .slice A n c]] w fun e w' => e = .returned (.bool (isSp P xs)) ∧ Below w.heap.size w w' := by
  have hxl : xs.length = n := by have := ha.1; rwa [ints_length] at this
  have Hx := Lib.hid hxl; clear hxl
  have hB : Below w.heap.size w (w.alloc (.cells #[.int .i64 P, .slice A n c] 29)) := (Below.refl _ _).alloc (Nat.le_refl _) _
  have ha' := ha.below hB
  cases h1 : isP P
  · have H1 := Lib.hid h1; clear h1
    go_enter Tryz.func111, Tryz.ntmps111
    go_wp2_with (go_at_call 129; refine (l01Prime_b _ _ H1.out).mono ?_; rintro e w' ⟨rfl, rfl⟩)
    go_ret
    exact ⟨ret_bool (by simp [isSp, H1.out]), hB⟩
  · obtain ⟨hp0, hp1⟩ := isP_pos h1
    have H1 := Lib.hid h1; clear h1
    cases h2 : inR n 1 6
    · have H2 := Lib.hid h2; clear h2
      go_enter Tryz.func111, Tryz.ntmps111
      go_wp2_with (first | (go_at_call 129; refine (l01Prime_b _ _ H1.out).mono ?_; rintro e w' ⟨rfl, rfl⟩) | (go_at_call 130; refine (l01In_b _ _ _ _ H2.out).mono ?_; rintro e w' ⟨rfl, rfl⟩))
      go_ret
      exact ⟨ret_bool (by simp [isSp, H1.out, H2.out, Hx.out]), hB⟩
    · have H2 := Lib.hid h2; clear h2
      go_enter Tryz.func111, Tryz.ntmps111
      go_wp2_with (first | (go_at_call 129; refine (l01Prime_b _ _ H1.out).mono ?_; rintro e w' ⟨rfl, rfl⟩) | (go_at_call 130; refine (l01In_b _ _ _ _ H2.out).mono ?_; rintro e w' ⟨rfl, rfl⟩) | (go_at_call 131; refine (l01Numbers_any _ _ _ _ _ _ hp0 (by omega) hn ha').mono ?_; rintro e w' ⟨rfl, rfl⟩))
      go_ret
      exact ⟨ret_bool (by simp [isSp, H1.out, H2.out, Hx.out]), hB⟩
theorem l03Is_b {b : Bool} (P : Int) (A : Option Addr) (n c : Nat) (xs : List Int) (w : World) (hn : n ≤ 1099511627776) (ha : Rd w A n (ints xs)) (h : isSp P xs = b) :
    Calls Tryz.prog 111 #[.agg #[.int .i64 P, .slice A n c]] w fun e w' => e = .returned (.bool b) ∧ Below w.heap.size w w' := h ▸ l03Is_any P A n c xs w hn ha
end Go.Proofs.YtklnkhkfcalndaaGreat
namespace Go.Proofs.YtklnkhkfcalndaaGreat
open Go.RowKit
set_option maxHeartbeats 1600000 in
set_option maxRecDepth 8000 in
theorem matrixBy_any (f : FuncId) (p1 p2 : Addr) (G : Nat → List Int) (hcf : ∀ (args : Array Value) (w : World), (callFunc f args).run Tryz.prog w = .ok (.enter f args) w) (P : Int) (A : Option Addr) (n c : Nat) (w : World) (hp : 2 ≤ P) (hn : n ≤ 6) (h0 : 0 < n) (hG : ∀ k, k < n → (G k).length = n ∧ NumsL P (G k))
    (hof : ∀ (k : Nat) (w' : World) (Y : Option Addr) (cy : Nat), k < n → Below w.heap.size w w' → Rd w' Y n (ints (unitRow n k)) → n ≤ cy → Calls Tryz.prog f #[.slice Y n cy, .pointer (some p1), .pointer (some p2)] w' fun e w5 => ∃ A5 c5, e = .returned (.slice A5 n c5) ∧ MkI w' w5 A5 n c5 (G k)) :
    Calls Tryz.prog 24 #[.agg #[.int .i64 P, .slice A n c], .func (.func f) #[] #[.pointer (some p1), .pointer (some p2)]] w fun e w' => ∃ A' c', e = .returned (.slice A' n c') ∧ MkII w w' A' n c' (transL (tab n G)) := by
  have hB0 : Below w.heap.size w (w.alloc (.cells #[.int .i64 P, .slice A n c] 29)) := (Below.refl _ _).alloc (Nat.le_refl _) _
  have k0 : Blk (w.alloc (.cells #[.int .i64 P, .slice A n c] 29)) w.heap.size 29 #[.int .i64 P, .slice A n c] := Blk.new _ _ _
  have hB1 := hB0.alloc (by simp) (.cells #[] 22)
  have k1 := k0.alloc (.cells #[] 22)
  have hM1 : MkII w ((w.alloc (.cells #[.int .i64 P, .slice A n c] 29)).alloc (.cells #[] 22)) (some ⟨w.heap.size + 1, 0, none⟩) 0 0 [] := by
    have := MkII.empty hB0
    simpa using this
  clear k0
  obtain ⟨q0, q1⟩ := k1.two
  have HG := Lib.hid hG
  have HOF := Lib.hid hof
  clear hG hof
  go_enter Tryz.func24, Tryz.ntmps24
  go_wp2_with fail
  refine (dim_any _ _ _ _ _).mono ?_
  rintro e w2 ⟨rfl, hb2⟩
  have hM2 := hM1.below hb2
  have hB2 := hB1.trans (hb2.mono hB1.size)
  clear hM1 q0 q1 k1 hB0 hB1
  go_wp2_with fail
  refine (unit_any n _ (by omega)).mono ?_
  rintro e w3 ⟨U, cU, rfl, hU⟩
  have hM3 := hM2.below hU.b
  have hB3 := hB2.trans (hU.b.mono hB2.size)
  have hsz2 : w.heap.size + 1 < w2.heap.size := by have := hb2.size; simp at this; omega
  have hKp : Keeps w2 w3 w3 (.slice (some ⟨w.heap.size + 1, 0, none⟩) 0 0) := ⟨Nat.le_refl _, fun _ _ _ => rfl, fun gb e => .inl (lt_of_own e hsz2)⟩
  clear hM2 hB2 hb2 hsz2
  go_wp2
  go_loopw [5, 13] (fun out i wr => ∃ (k : Nat) (A' : Option Addr) (c' : Nat), k ≤ n ∧ i = .int .i64 k ∧ out = .slice A' k c' ∧ MkII w wr A' k c' (tab k G) ∧ Keeps w2 w3 wr (.slice A' k c')) (fun _ i _ => n - (intOf i).toNat)
  case atStart => exact ⟨0, _, _, by omega, rfl, rfl, by simpa [tab] using hM3, hKp⟩
  case round =>
    obtain ⟨k, A', c', hk, rfl, rfl, hM, hB4⟩ := hrel
    clear hM3 hKp
    by_cases hlt : k < n
    · obtain ⟨gu, ou, rfl, hxk, A1, c1, hcu, hru, hcc⟩ := (hU.keep hB4.2.1).at_ hlt
      have hrow := unitM_get n k hxk
      rw [hrow, unitRow_len] at hru hcu hcc
      have hcall := HOF.out k wr A1 c1 hlt hM.b hru hcc
      have HM := Lib.hid hM
      have HB4 := Lib.hid hB4
      clear hM hru hrow hB4
      go_wp2_with fail
      refine hcall.mono ?_
      rintro e w5 ⟨A5, c5, rfl, hM5⟩
      clear hcall
      go_wp2_with (at_builtin; refine wpList_appRowG w wr _ rfl _ _ rfl A' k c' _ A5 n c5 _ HM.out hM5 (by omega) rfl ?_ ?_; (go_simp); intro A6 c6 w6 hM6 hg6 hat6)
      go_roundw
      case rel => exact ⟨k + 1, A6, c6, by omega, by go_num, rfl, by rw [tab_succ]; exact hM6, HB4.out.step hM5.b hg6 hat6⟩
      case measure => simp [intOf]; omega
    · obtain rfl : k = n := by omega
      go_wp2_with fail
      refine (transpose_any P A' k c' (tab k G) k _ h0 (by omega) (by omega) hM.rd (Tab.tab HG.out)).mono ?_
      rintro e w5 ⟨A5, c5, rfl, hM5⟩
      go_wp2
      go_ret
      exact ⟨_, _, rfl, hM5.after hM.b⟩
end Go.Proofs.YtklnkhkfcalndaaGreat
namespace Go.Proofs.YtklnkhkfcalndaaGreat
open Go.Shelf
def laysSort_ren : Go.Shelf.Ren := ⟨fun | 5 => 94 | 8 => 123 | 7 => 122 | 19 => 141 | 20 => 142 | 10 => 132 | 11 => 133 | 12 => 134 | 13 => 135 | 14 => 136 | 15 => 137 | 16 => 138 | 17 => 139 | 18 => 140 | 30 => 143 | 31 => 144 | 32 => 145 | 33 => 146 | 34 => 147 | 35 => 148 | 40 => 149 | n => n, fun | 23 => 22 | 25 => 2 | 3 => 3 | 32 => 72 | 22 => 22 | 0 => 0 | 44 => 88 | 46 => 66 | 4 => 4 | 36 => 102 | 35 => 101 | 41 => 75 | 5 => 5 | 9 => 9 | 53 => 108 | 57 => 112 | 63 => 114 | 64 => 115 | n => n, fun | n => n⟩
theorem laysSort : Go.Proofs.SlLaysM.n5 Tryz.prog laysSort_ren := {
  mixed := by kernel_rfl
  f5 := ⟨Tryz.f94.name, by decide, Tryz.func94.trans (congrArg some (by kernel_rfl))⟩
  f7 := ⟨Tryz.f122.name, by decide, Tryz.func122.trans (congrArg some (by kernel_rfl))⟩
  f8 := Tryz.func123.trans (congrArg some (by kernel_rfl))
  f10 := ⟨Tryz.f132.name, by decide, Tryz.func132.trans (congrArg some (by kernel_rfl))⟩
  f11 := ⟨Tryz.f133.name, by decide, Tryz.func133.trans (congrArg some (by kernel_rfl))⟩
  f12 := ⟨Tryz.f134.name, by decide, Tryz.func134.trans (congrArg some (by kernel_rfl))⟩
  f13 := ⟨Tryz.f135.name, by decide, Tryz.func135.trans (congrArg some (by kernel_rfl))⟩
  f14 := ⟨Tryz.f136.name, by decide, Tryz.func136.trans (congrArg some (by kernel_rfl))⟩
  f15 := ⟨Tryz.f137.name, by decide, Tryz.func137.trans (congrArg some (by kernel_rfl))⟩
  f16 := ⟨Tryz.f138.name, by decide, Tryz.func138.trans (congrArg some (by kernel_rfl))⟩
  f17 := ⟨Tryz.f139.name, by decide, Tryz.func139.trans (congrArg some (by kernel_rfl))⟩
  f18 := ⟨Tryz.f140.name, by decide, Tryz.func140.trans (congrArg some (by kernel_rfl))⟩
  f19 := Tryz.func141.trans (congrArg some (by kernel_rfl))
  f20 := Tryz.func142.trans (congrArg some (by kernel_rfl))
  f30 := ⟨Tryz.f143.name, by decide, Tryz.func143.trans (congrArg some (by kernel_rfl))⟩
  f31 := Tryz.func144.trans (congrArg some (by kernel_rfl))
  f32 := Tryz.func145.trans (congrArg some (by kernel_rfl))
  f33 := ⟨Tryz.f146.name, by decide, Tryz.func146.trans (congrArg some (by kernel_rfl))⟩
  f34 := ⟨Tryz.f147.name, by decide, Tryz.func147.trans (congrArg some (by kernel_rfl))⟩
  f35 := ⟨Tryz.f148.name, by decide, Tryz.func148.trans (congrArg some (by kernel_rfl))⟩
  f40 := ⟨Tryz.f149.name, by decide, Tryz.func149.trans (congrArg some (by kernel_rfl))⟩
  t0 := Tryz.underlying0
  a0 := Tryz.isAgg0
  z0 := Tryz.sizeOf0
  v0 := Tryz.zeroValue0
  t3 := Tryz.underlying3
  a3 := Tryz.isAgg3
  z3 := Tryz.sizeOf3
  v3 := Tryz.zeroValue3
  t4 := Tryz.underlying4
  a4 := Tryz.isAgg4
  z4 := Tryz.sizeOf4
  v4 := Tryz.zeroValue4
  t5 := Tryz.underlying5
  a5 := Tryz.isAgg5
  z5 := Tryz.sizeOf5
  v5 := Tryz.zeroValue5
  t9 := Tryz.underlying9
  a9 := Tryz.isAgg9
  z9 := Tryz.sizeOf9
  v9 := Tryz.zeroValue9
  t22 := Tryz.underlying22
  a22 := Tryz.isAgg22
  z22 := Tryz.sizeOf22
  v22 := Tryz.zeroValue22
  t23 := Tryz.underlying22
  a23 := Tryz.isAgg22
  z23 := Tryz.sizeOf22
  v23 := Tryz.zeroValue22
  t25 := Tryz.underlying2
  a25 := Tryz.isAgg2
  z25 := Tryz.sizeOf2
  v25 := Tryz.zeroValue2
  t32 := Tryz.underlying72
  a32 := Tryz.isAgg72
  z32 := Tryz.sizeOf72
  v32 := Tryz.zeroValue72
  t35 := Tryz.underlying101
  a35 := Tryz.isAgg101
  z35 := Tryz.sizeOf101
  v35 := Tryz.zeroValue101
  t36 := Tryz.underlying102
  a36 := Tryz.isAgg102
  z36 := Tryz.sizeOf102
  v36 := Tryz.zeroValue102
  t41 := Tryz.underlying75
  a41 := Tryz.isAgg75
  z41 := Tryz.sizeOf75
  v41 := Tryz.zeroValue75
  t44 := Tryz.underlying88
  a44 := Tryz.isAgg88
  z44 := Tryz.sizeOf88
  v44 := Tryz.zeroValue88
  t46 := Tryz.underlying66
  a46 := Tryz.isAgg66
  z46 := Tryz.sizeOf66
  v46 := Tryz.zeroValue66
  t53 := Tryz.underlying108
  a53 := Tryz.isAgg108
  z53 := Tryz.sizeOf108
  v53 := Tryz.zeroValue108
  t57 := Tryz.underlying112
  a57 := Tryz.isAgg112
  z57 := Tryz.sizeOf112
  v57 := Tryz.zeroValue112
  t63 := Tryz.underlying114
  a63 := Tryz.isAgg114
  z63 := Tryz.sizeOf114
  v63 := Tryz.zeroValue114
  t64 := Tryz.underlying115
  a64 := Tryz.isAgg115
  z64 := Tryz.sizeOf115
  v64 := Tryz.zeroValue115 }
open Go.Sort Go.RowKit in
theorem slices_Sort_int (blk off cap : Nat) (zs : List Int) (w : World) (hH : Holds (Value.int .i64) w blk off zs.toArray) (hblk : blk < w.heap.size) (hsz : zs.length < 4611686018427387904) :
    Calls Tryz.prog 94 #[.slice (some ⟨blk, off, none⟩) zs.length cap] w fun e w' =>
      e = .returned (.tuple #[]) ∧ ∃ n os, w' = grow (putRow (Value.int .i64) (Sort.ahead w n) blk off (zs.mergeSort fun x y => decide (x ≤ y)).toArray) os := AnyM.slices_Sort_int laysSort blk off cap zs w hH hblk hsz
def laysCompact_ren : Go.Shelf.Ren := ⟨fun | 43 => 95 | n => n, fun | 22 => 22 | 23 => 2 | 3 => 3 | 4 => 4 | 0 => 0 | n => n, fun | n => n⟩
theorem laysCompact : Go.Proofs.SlLaysE.n43 Tryz.prog laysCompact_ren := {
  mixed := by kernel_rfl
  f43 := ⟨Tryz.f95.name, by decide, Tryz.func95.trans (congrArg some (by kernel_rfl))⟩
  t0 := Tryz.underlying0
  a0 := Tryz.isAgg0
  z0 := Tryz.sizeOf0
  v0 := Tryz.zeroValue0
  t3 := Tryz.underlying3
  a3 := Tryz.isAgg3
  z3 := Tryz.sizeOf3
  v3 := Tryz.zeroValue3
  t4 := Tryz.underlying4
  a4 := Tryz.isAgg4
  z4 := Tryz.sizeOf4
  v4 := Tryz.zeroValue4
  t22 := Tryz.underlying22
  a22 := Tryz.isAgg22
  z22 := Tryz.sizeOf22
  v22 := Tryz.zeroValue22
  a23 := Tryz.isAgg2
  z23 := Tryz.sizeOf2 }
open Go.Sort Go.RowKit
/-- Sorted. -/
def sortL (zs : List Int) : List Int := zs.mergeSort fun x y => decide (x ≤ y)
theorem sortL_len (zs : List Int) : (sortL zs).length = zs.length := List.length_mergeSort zs
theorem own_sorted {w0 wr : World} {g n c q : Nat} {os : Array Obj} {zs ts : List Int} (h : MkI w0 wr (some ⟨g, 0, none⟩) n c zs) (hl : ts.length = zs.length) :
    MkI w0 (grow (putRow (Value.int .i64) (Sort.ahead wr q) g 0 ts.toArray) os) (some ⟨g, 0, none⟩) n c ts ∧ wr.grownBy (grow (putRow (Value.int .i64) (Sort.ahead wr q) g 0 ts.toArray) os) (some g) := by
  have hn : zs.length = n := by have := h.2.len; rwa [ints_length] at this
  subst hn
  have hg := grownBy_sortedI (w := wr) (g := g) (n := q) (os := os) ts.toArray
  rcases h.2.2 with ⟨he, _⟩ | ⟨g', cap, cur, he, hB, hc, h1, h2, h3, ht⟩
  · cases he
  · cases he
    exact ⟨⟨h.1.grown hg h.1.size (fun k hk => by injection hk with hk; subst hk; exact hB), ownsRow_sortedI hl hB hc h1 h2 h3⟩, hg⟩
theorem holds_own {w0 wr : World} {g n c : Nat} {zs : List Int} (h : MkI w0 wr (some ⟨g, 0, none⟩) n c zs) : Holds (Value.int .i64) wr g 0 zs.toArray ∧ g < wr.heap.size ∧ n ≤ c := by
  have hn : zs.length = n := by have := h.2.len; rwa [ints_length] at this
  subst hn
  rcases h.2.2 with ⟨he, _⟩ | ⟨g', cap, cur, he, hB, hc, h1, h2, h3, ht⟩
  · cases he
  · cases he
    exact ⟨holds_of_blockI hc (by simpa [ints] using ht), (Array.getElem?_eq_some_iff.1 hc).1, h1⟩
theorem sort_own (w0 wr : World) (g n c : Nat) (zs : List Int) (h : MkI w0 wr (some ⟨g, 0, none⟩) n c zs) (hn : n ≤ 1099511627776) :
    Calls Tryz.prog 94 #[.slice (some ⟨g, 0, none⟩) n c] wr fun e w' => e = .returned (.tuple #[]) ∧ MkI w0 w' (some ⟨g, 0, none⟩) n c (sortL zs) ∧ wr.grownBy w' (some g) := by
  have hl : zs.length = n := by have := h.2.len; rwa [ints_length] at this
  obtain ⟨h1, h2, h3⟩ := holds_own h
  have hc := slices_Sort_int g 0 c zs wr h1 h2 (by omega)
  rw [hl] at hc
  refine hc.mono ?_
  rintro e w' ⟨rfl, q, os, rfl⟩
  obtain ⟨h4, h5⟩ := own_sorted (q := q) (os := os) h (sortL_len zs)
  exact ⟨rfl, h4, h5⟩
theorem compact_own (w0 wr : World) (g n c : Nat) (zs : List Int) (h : MkI w0 wr (some ⟨g, 0, none⟩) n c zs) (hn : n ≤ 1099511627776) :
    Calls Tryz.prog 95 #[.slice (some ⟨g, 0, none⟩) n c] wr fun e w' => e = .returned (.slice (some ⟨g, 0, none⟩) (Lib.compact zs).length c) ∧ MkI w0 w' (some ⟨g, 0, none⟩) (Lib.compact zs).length c (Lib.compact zs) := by
  have hl : zs.length = n := by have := h.2.len; rwa [ints_length] at this
  obtain ⟨h1, h2, h3⟩ := holds_own h
  have hc := AnyE.slices_Compact laysCompact (Value.int .i64) (fun _ => rfl) (EqlAt.intD _ _ .i64) (NeqAt.intD _ _ .i64) 0 Tryz.zeroValue2 g 0 c zs.toArray wr h1 (by simp; omega) (by simp; omega)
  have hs : zs.toArray.size = n := by simpa using hl
  have hle : (Lib.compactUpTo zs.toArray n).length ≤ n := by
    unfold Lib.compactUpTo
    rw [List.length_map]
    exact Nat.le_trans (List.length_filter_le _ _) (by simp)
  have he : Lib.compact zs = Lib.compactUpTo zs.toArray n := by unfold Lib.compact; rw [hl]
  rw [hs] at hc
  rw [he]
  refine hc.mono ?_
  rintro e w' ⟨rfl, q, rfl⟩
  obtain ⟨h4, h5⟩ := own_sorted (ts := Lib.compactUpTo zs.toArray n ++ List.replicate (n - (Lib.compactUpTo zs.toArray n).length) 0) (q := q) (os := #[]) h (by simp; omega)
  rw [grow_empty] at h4
  refine ⟨rfl, h4.1, ?_⟩
  have := h4.2.cut hle
  have e2 : (ints (Lib.compactUpTo zs.toArray n ++ List.replicate (n - (Lib.compactUpTo zs.toArray n).length) 0)).take (Lib.compactUpTo zs.toArray n).length = ints (Lib.compactUpTo zs.toArray n) := by
    rw [← ints_append, List.take_left' (by rw [ints_length])]
  rwa [e2] at this
end Go.Proofs.YtklnkhkfcalndaaGreat
namespace Go.Proofs.YtklnkhkfcalndaaGreat
open Go.RowKit
set_option maxHeartbeats 1600000 in
theorem ones64_any (x : Nat) (w : World) (hx : x < 64) :
    Calls Tryz.prog 109 #[.int .u64 x] w fun e w' => e = .returned (.int .i64 (pc x)) ∧ w = w' := by
  go_enter Tryz.func109, Tryz.ntmps109
  go_wp2
  go_ret
  refine ⟨ret_int ?_, rfl⟩
  revert x
  decide +kernel
set_option maxHeartbeats 400000 in
theorem ones_any (x : Nat) (w : World) (hx : x < 64) :
    Calls Tryz.prog 74 #[.int .u64 x] w fun e w' => e = .returned (.int .i64 (pc x)) ∧ w = w' := by
  go_enter Tryz.func74, Tryz.ntmps74
  go_wp2_with (go_at_call 109; refine (ones64_any x _ hx).mono ?_; rintro e w' ⟨rfl, rfl⟩)
  go_ret
  exact ⟨rfl, rfl⟩
set_option maxHeartbeats 400000 in
theorem gradeOf_any (x : Nat) (w : World) (hx : x < 64) :
    Calls Tryz.prog 41 #[.int .i64 x] w fun e w' => e = .returned (.int .i64 (pc x)) ∧ w = w' := by
  go_enter Tryz.func41, Tryz.ntmps41
  go_wp2_with (go_at_call 74; refine (ones_any x _ hx).mono ?_; rintro e w' ⟨rfl, rfl⟩)
  go_ret
  exact ⟨rfl, rfl⟩
set_option maxHeartbeats 400000 in
theorem l04Grade_any (x : Nat) (w : World) (hx : x < 64) :
    Calls Tryz.prog 30 #[.int .i64 x] w fun e w' => e = .returned (.int .i64 (pc x)) ∧ w = w' := by
  have hp := pc_le 6 x (by omega)
  have HP := Lib.hid hp; clear hp
  go_enter Tryz.func30, Tryz.ntmps30
  go_wp2
  go_loop [0, 3] (fun m n => ∃ (y k : Nat), y < 64 ∧ k < 100 ∧ m = .int .i64 y ∧ n = .int .i64 k ∧ pc x = k + pc y) (fun m _ => (intOf m).toNat)
  case atStart => exact ⟨x, 0, hx, by omega, rfl, rfl, by omega⟩
  case round =>
    obtain ⟨y, k, hy, hk, rfl, rfl, hpc⟩ := hrel
    rw [pc_rec y] at hpc
    have H := Lib.hid hpc; clear hpc
    by_cases hlt : 0 < y
    · go_wp2
      go_round
      case rel => exact ⟨y / 2, k + y % 2, by omega, by have := H.out; have := HP.out; omega, by go_num, by go_num, by have := H.out; omega⟩
      case measure => simp [intOf]; omega
    · go_wp2
      go_ret
      obtain rfl : y = 0 := by omega
      have := H.out
      simp [pc] at this
      exact ⟨ret_int (by omega), rfl⟩
end Go.Proofs.YtklnkhkfcalndaaGreat
namespace Go.Proofs.YtklnkhkfcalndaaGreat
open Go.RowKit
set_option maxHeartbeats 400000 in
theorem Index_any (A : Option Addr) (n c : Nat) (xs : List Int) (v : Int) (w : World) (hn : n ≤ 1099511627776) (ha : Rd w A n (ints xs)) :
    Calls Tryz.prog 121 #[.slice A n c, .int .i64 v] w fun e w' => ∃ r : Int, e = .returned (.int .i64 r) ∧ decide (0 ≤ r) = xs.contains v ∧ w = w' := by
  have hxl : xs.length = n := by have := ha.1; rwa [ints_length] at this
  have Hx := Lib.hid hxl; clear hxl
  go_enter Tryz.func121, Tryz.ntmps121
  go_wp2
  go_loop [8] (fun i => ∃ k : Nat, k ≤ n ∧ i = .int .i64 k ∧ (xs.take k).contains v = false) (fun i => n - (intOf i).toNat)
  case atStart => exact ⟨0, by omega, rfl, by simp⟩
  case round =>
    obtain ⟨k, hk, rfl, ht⟩ := hrel
    have H := Lib.hid ht; clear ht
    by_cases hlt : k < n
    · obtain ⟨g, o, rfl, hx, hcx⟩ := ha.int hlt
      clear ha
      cases hi : (v == xs[k])
      all_goals
        have HI := Lib.hid hi
        go_wp2
      · go_round
        case rel =>
          refine ⟨k + 1, by omega, by go_num, ?_⟩
          rw [List.take_succ_eq_append_getElem hx, List.contains_eq_any_beq, List.any_append, ← List.contains_eq_any_beq, H.out]
          simpa using HI.out
        case measure => simp [intOf]; omega
      · go_ret
        refine ⟨_, rfl, ?_, rfl⟩
        have hv : v = xs[k] := by simpa using HI.out
        have : xs.contains v = true := by rw [List.contains_iff_mem, hv]; exact List.getElem_mem hx
        simpa using this
    · go_wp2
      go_ret
      refine ⟨_, rfl, ?_, rfl⟩
      have := H.out
      rw [List.take_of_length_le (by rw [Hx.out]; omega)] at this
      simpa using this
set_option maxHeartbeats 400000 in
theorem Contains_any (A : Option Addr) (n c : Nat) (xs : List Int) (v : Int) (w : World) (hn : n ≤ 1099511627776) (ha : Rd w A n (ints xs)) :
    Calls Tryz.prog 93 #[.slice A n c, .int .i64 v] w fun e w' => e = .returned (.bool (xs.contains v)) ∧ w = w' := by
  go_enter Tryz.func93, Tryz.ntmps93
  go_wp2_with fail
  refine (Index_any _ _ _ _ _ _ hn ha).mono ?_
  rintro e w1 ⟨r, rfl, hr, rfl⟩
  have HR := Lib.hid hr; clear hr
  go_wp2
  go_ret
  exact ⟨ret_bool HR.out, rfl⟩
theorem Contains_b {b : Bool} (A : Option Addr) (n c : Nat) (xs : List Int) (v : Int) (w : World) (hn : n ≤ 1099511627776) (ha : Rd w A n (ints xs)) (h : xs.contains v = b) :
    Calls Tryz.prog 93 #[.slice A n c, .int .i64 v] w fun e w' => e = .returned (.bool b) ∧ w = w' := h ▸ Contains_any A n c xs v w hn ha
/-- A search by a function of one captured pointer that answers of a row what p says and changes nothing that was there. -/
def Tells (f : FuncId) (cap : Array Value) (w : World) (p : List Int → Bool) (ok : List Int → Prop) : Prop :=
  ∀ (w' : World) (A : Option Addr) (m c : Nat) (xs : List Int), Below w.heap.size w w' → Rd w' A m (ints xs) → ok xs →
    Calls Tryz.prog f (#[.slice A m c] ++ cap) w' fun e w'' => e = .returned (.bool (p xs)) ∧ Below w'.heap.size w' w''
set_option maxHeartbeats 800000 in
theorem IndexFunc_any (f : FuncId) (q : Addr) (p : List Int → Bool) (ok : List Int → Prop) (A : Option Addr) (n c : Nat) (xss : List (List Int)) (w : World) (hn : n ≤ 1099511627776) (ha : RdII w A n xss) (hok : ∀ xs ∈ xss, ok xs)
    (hf : Tells f #[.pointer (some q)] w p ok) (hcf : ∀ (args : Array Value) (w : World), (callFunc f args).run Tryz.prog w = .ok (.enter f args) w) :
    Calls Tryz.prog 120 #[.slice A n c, .func (.func f) #[] #[.pointer (some q)]] w fun e w' => ∃ r : Int, e = .returned (.int .i64 r) ∧ decide (0 ≤ r) = xss.any p ∧ Below w.heap.size w w' := by
  have hxl := ha.len
  have Hx := Lib.hid hxl; clear hxl
  go_enter Tryz.func120, Tryz.ntmps120
  go_wp2
  go_loopw [8] (fun i wr => ∃ k : Nat, k ≤ n ∧ i = .int .i64 k ∧ (xss.take k).any p = false ∧ Below w.heap.size w wr) (fun i _ => n - (intOf i).toNat)
  case atStart => exact ⟨0, by omega, rfl, by simp, Below.refl _ _⟩
  case round =>
    obtain ⟨k, hk, rfl, ht, hB⟩ := hrel
    have H := Lib.hid ht; clear ht
    by_cases hlt : k < n
    · obtain ⟨g, o, rfl, hx, A', c', hcx, hr, -⟩ := (ha.below hB).at_ hlt
      have hoki := hok xss[k] (List.getElem_mem hx)
      clear ha
      cases hi : p xss[k]
      all_goals
        have HI := Lib.hid hi; clear hi
        go_wp2_with fail
        refine (hf _ _ _ _ _ hB hr hoki).mono ?_
        rintro e w1 ⟨rfl, hb1⟩
        rw [HI.out]
        go_wp2
      · go_roundw
        case rel =>
          refine ⟨k + 1, by omega, by go_num, ?_, hB.trans (hb1.mono hB.size)⟩
          rw [List.take_succ_eq_append_getElem hx, List.any_append, H.out]
          simpa using HI.out
        case measure => simp [intOf]; omega
      · go_ret
        refine ⟨_, rfl, ?_, hB.trans (hb1.mono hB.size)⟩
        have : xss.any p = true := List.any_eq_true.2 ⟨xss[k], List.getElem_mem hx, HI.out⟩
        rw [this]; simp
    · go_wp2
      go_ret
      refine ⟨_, rfl, ?_, hB⟩
      have := H.out
      rw [List.take_of_length_le (by rw [Hx.out]; omega)] at this
      rw [this]; simp
set_option maxHeartbeats 400000 in
theorem ContainsFunc_any (f : FuncId) (q : Addr) (p : List Int → Bool) (ok : List Int → Prop) (A : Option Addr) (n c : Nat) (xss : List (List Int)) (w : World) (hn : n ≤ 1099511627776) (ha : RdII w A n xss) (hok : ∀ xs ∈ xss, ok xs)
    (hf : Tells f #[.pointer (some q)] w p ok) (hcf : ∀ (args : Array Value) (w : World), (callFunc f args).run Tryz.prog w = .ok (.enter f args) w) :
    Calls Tryz.prog 88 #[.slice A n c, .func (.func f) #[] #[.pointer (some q)]] w fun e w' => e = .returned (.bool (xss.any p)) ∧ Below w.heap.size w w' := by
  go_enter Tryz.func88, Tryz.ntmps88
  go_wp2_with fail
  refine (IndexFunc_any _ _ _ _ _ _ _ _ _ hn ha hok hf hcf).mono ?_
  rintro e w1 ⟨r, rfl, hr, hb⟩
  have HR := Lib.hid hr; clear hr
  go_wp2
  go_ret
  exact ⟨ret_bool HR.out, hb⟩
end Go.Proofs.YtklnkhkfcalndaaGreat
namespace Go.Proofs.YtklnkhkfcalndaaGreat
open Go.RowKit
theorem sorted_ext {xs ys : List Int} (hx : xs.Pairwise (· < ·)) (hy : ys.Pairwise (· < ·)) (h : ∀ a, a ∈ xs ↔ a ∈ ys) : xs = ys := by
  have nx : xs.Nodup := hx.imp fun h => by omega
  have ny : ys.Nodup := hy.imp fun h => by omega
  exact List.Perm.eq_of_pairwise (le := fun a b : Int => a < b) (fun a b _ _ h1 h2 => by omega) hx hy ((List.perm_ext_iff_of_nodup nx ny).2 h)
theorem sortL_pairwise (zs : List Int) : (sortL zs).Pairwise (· ≤ ·) := by
  have := List.pairwise_mergeSort (le := fun x y : Int => decide (x ≤ y)) (fun a b c h1 h2 => by simp at *; omega) (fun a b => by simp; omega) zs
  exact this.imp fun h => by simpa using h
theorem sortL_mem (zs : List Int) (a : Int) : a ∈ sortL zs ↔ a ∈ zs := List.mem_mergeSort
theorem arr_get (zs : List Int) (i : Nat) : (zs.toArray[i]! : Int) = zs.getD i 0 := by simp [List.getD]
theorem le_of_sorted {zs : List Int} (h : zs.Pairwise (· ≤ ·)) {i j : Nat} (hij : i ≤ j) (hj : j < zs.length) : zs.getD i 0 ≤ zs.getD j 0 := by
  rw [getD_of_lt 0 (by omega), getD_of_lt 0 hj]
  by_cases e : i = j
  · subst e; exact Int.le_refl _
  · exact List.pairwise_iff_getElem.1 h i j (by omega) hj (by omega)
theorem compact_lt {zs : List Int} (h : zs.Pairwise (· ≤ ·)) : (Lib.compact zs).Pairwise (· < ·) := by
  unfold Lib.compact Lib.compactUpTo
  rw [List.pairwise_map]
  refine List.Pairwise.imp_of_mem (R := (· < ·)) ?_ (List.pairwise_lt_range.filter _)
  intro a b ha hb hab
  have hb1 := List.mem_filter.1 hb
  have hbl : b < zs.length := by simpa using hb1.1
  have hk := hb1.2
  simp only [Lib.keeps, arr_get, ne_eq, decide_eq_true_eq] at hk
  rw [arr_get, arr_get]
  have h1 := le_of_sorted h (show a ≤ b - 1 by omega) (by omega)
  have h2 := le_of_sorted h (show b - 1 ≤ b by omega) hbl
  rcases hk with hk | hk
  · omega
  · have : zs.getD b 0 ≠ zs.getD (b - 1) 0 := by simpa using hk
    omega
theorem compact_mem {zs : List Int} (a : Int) : a ∈ Lib.compact zs ↔ a ∈ zs := by
  unfold Lib.compact Lib.compactUpTo
  constructor
  · intro h
    obtain ⟨i, hi, rfl⟩ := List.mem_map.1 h
    have : i < zs.length := by have := (List.mem_filter.1 hi).1; simpa using this
    rw [arr_get]
    exact getD_mem 0 this
  · intro h
    obtain ⟨j, hj, e⟩ := List.getElem_of_mem h
    have key : ∀ j, j < zs.length → zs.getD j 0 = a → ∃ i, i < zs.length ∧ zs.getD i 0 = a ∧ (i = 0 ∨ zs.getD i 0 ≠ zs.getD (i - 1) 0) := by
      intro j
      induction j with
      | zero => intro h1 h2; exact ⟨0, h1, h2, .inl rfl⟩
      | succ j ih =>
        intro h1 h2
        by_cases hp : zs.getD j 0 = a
        · exact ih (by omega) hp
        · exact ⟨j + 1, h1, h2, .inr (by rw [h2]; exact fun e => hp (by simpa using e.symm))⟩
    obtain ⟨i, hi, he, hk⟩ := key j hj (by rw [getD_of_lt 0 hj]; exact e)
    refine List.mem_map.2 ⟨i, List.mem_filter.2 ⟨by simpa using hi, ?_⟩, by rw [arr_get]; exact he⟩
    simp only [Lib.keeps, arr_get]
    exact decide_eq_true hk
/-- The grades of the first k places with numbers other than 0, one after another. -/
def colL (xs : List Int) (k : Nat) : List Int := ((List.range k).filter fun i => xs.getD i 0 != 0).map fun i => ((pc i : Nat) : Int)
theorem colL_succ (xs : List Int) (k : Nat) : colL xs (k + 1) = if xs.getD k 0 != 0 then colL xs k ++ [((pc k : Nat) : Int)] else colL xs k := by
  unfold colL
  rw [List.range_succ, List.filter_append, List.map_append, List.filter_cons, List.filter_nil]
  split
  · rfl
  · rw [List.map_nil, List.append_nil]
theorem colL_le (xs : List Int) (k : Nat) : (colL xs k).length ≤ k := by
  unfold colL
  rw [List.length_map]
  exact Nat.le_trans (List.length_filter_le _ _) (by simp)
/-- Has grade k a number other than 0? -/
def hasG (xs : List Int) (k : Nat) : Bool := (List.range xs.length).any fun i => xs.getD i 0 != 0 && pc i == k
/-- The grades of a multivector. -/
def gradesL (xs : List Int) : List Int := ((List.range 7).filter (hasG xs)).map fun k : Nat => (k : Int)
theorem gradesL_len (xs : List Int) : (gradesL xs).length ≤ 7 := by
  unfold gradesL
  rw [List.length_map]
  exact Nat.le_trans (List.length_filter_le _ _) (by simp)
theorem hasG_iff (xs : List Int) (k : Nat) : hasG xs k = true ↔ ∃ i, i < xs.length ∧ xs.getD i 0 ≠ 0 ∧ pc i = k := by
  unfold hasG
  rw [List.any_eq_true]
  constructor
  · rintro ⟨i, hi, h⟩
    simp only [Bool.and_eq_true, bne_iff_ne, ne_eq, beq_iff_eq] at h
    exact ⟨i, by simpa using hi, h.1, h.2⟩
  · rintro ⟨i, hi, h1, h2⟩
    exact ⟨i, by simpa using hi, by simp only [Bool.and_eq_true, bne_iff_ne, ne_eq, beq_iff_eq]; exact ⟨h1, h2⟩⟩
theorem gradesL_mem (xs : List Int) (hl : xs.length ≤ 64) (a : Int) : a ∈ gradesL xs ↔ ∃ i, i < xs.length ∧ xs.getD i 0 ≠ 0 ∧ a = pc i := by
  unfold gradesL
  rw [List.mem_map]
  constructor
  · rintro ⟨k, hk, rfl⟩
    obtain ⟨_, hk⟩ := List.mem_filter.1 hk
    obtain ⟨i, h1, h2, h3⟩ := (hasG_iff xs k).1 hk
    exact ⟨i, h1, h2, by rw [h3]⟩
  · rintro ⟨i, h1, h2, rfl⟩
    exact ⟨pc i, List.mem_filter.2 ⟨by have := pc_le 6 i (by omega); simp; omega, (hasG_iff xs _).2 ⟨i, h1, h2, rfl⟩⟩, rfl⟩
theorem gradesL_lt (xs : List Int) : (gradesL xs).Pairwise (· < ·) := by
  unfold gradesL
  rw [List.pairwise_map]
  exact (List.pairwise_lt_range.filter _).imp fun h => by omega
theorem gradesL_eq (xs : List Int) (hl : xs.length ≤ 64) : Lib.compact (sortL (colL xs xs.length)) = gradesL xs := by
  refine sorted_ext (compact_lt (sortL_pairwise _)) (gradesL_lt xs) fun a => ?_
  rw [compact_mem, sortL_mem, gradesL_mem xs hl]
  unfold colL
  rw [List.mem_map]
  constructor
  · rintro ⟨i, hi, rfl⟩
    obtain ⟨h1, h2⟩ := List.mem_filter.1 hi
    exact ⟨i, by simpa using h1, by simpa using h2, rfl⟩
  · rintro ⟨i, h1, h2, rfl⟩
    exact ⟨i, List.mem_filter.2 ⟨by simpa using h1, by simpa using h2⟩, rfl⟩
set_option maxHeartbeats 800000 in
theorem gradesOf_any (X : Option Addr) (m cx : Nat) (xs : List Int) (w : World) (hm : m ≤ 64) (hx : Rd w X m (ints xs)) :
    Calls Tryz.prog 52 #[.slice X m cx] w fun e w' => ∃ A' c', e = .returned (.slice A' (gradesL xs).length c') ∧ MkI w w' A' (gradesL xs).length c' (gradesL xs) := by
  have hxl : xs.length = m := by have := hx.1; rwa [ints_length] at this
  have hM0 := Mk.lit (E := 2) (Below.refl w.heap.size w) #[] (by simp)
  have HG : Hid (Lib.compact (sortL (colL xs m)) = gradesL xs) := Lib.hid (by rw [← hxl]; exact gradesL_eq xs (by omega))
  clear hxl
  go_enter Tryz.func52, Tryz.ntmps52
  go_wp2
  go_loopw [3, 4, 5, 9] (fun o _ _ i wr => ∃ (k g c' : Nat), k ≤ m ∧ i = .int .i64 k ∧ o = .slice (some ⟨g, 0, none⟩) (colL xs k).length c' ∧ MkI w wr (some ⟨g, 0, none⟩) (colL xs k).length c' (colL xs k)) (fun _ _ _ i _ => m - (intOf i).toNat)
  case atStart => exact ⟨0, _, _, by omega, rfl, rfl, by simpa [MkI, ints, colL] using hM0⟩
  case round =>
    obtain ⟨k, g, c', hk, rfl, rfl, hM⟩ := hrel
    clear hM0
    by_cases hlt : k < m
    · obtain ⟨g1, o1, rfl, hxk, hcx⟩ := (hx.below hM.b).int hlt
      have hs := colL_succ xs k
      rw [getD_of_lt 0 hxk] at hs
      have HS := Lib.hid hs
      have HM := Lib.hid hM
      have hle := colL_le xs k
      obtain ⟨l, hl⟩ : ∃ l, l = (colL xs k).length := ⟨_, rfl⟩
      rw [← hl] at hle HM ⊢
      have HL := Lib.hid hl
      clear hs hM hx hl
      cases h0 : (xs[k] != 0)
      · have H0 := Lib.hid h0
        go_wp2
        go_roundw
        case rel =>
          have e : colL xs (k + 1) = colL xs k := by rw [HS.out, H0.out]; rfl
          exact ⟨k + 1, g, c', by omega, by go_num, by rw [e, ← HL.out], by rw [e, ← HL.out]; exact HM.out⟩
        case measure => simp [intOf]; omega
      · have H0 := Lib.hid h0
        go_wp2_with (first
          | (go_at_call 41; refine (gradeOf_any k _ (by omega)).mono ?_; rintro e w' ⟨rfl, rfl⟩)
          | (at_builtin; refine wpList_app1 w _ 22 2 _ _ Tryz.underlying22 info_i rfl (by omega) rfl _ _ rfl (some ⟨g, 0, none⟩) l c' _ _ HM.out (by omega) rfl rfl rfl ?_; intro A2 c2 w2 hM2 _ hg2))
        obtain ⟨g2, rfl, _⟩ := hg2
        go_roundw
        case rel =>
          have e : colL xs (k + 1) = colL xs k ++ [((pc k : Nat) : Int)] := by rw [HS.out, H0.out]; rfl
          have el : (colL xs (k + 1)).length = l + 1 := by rw [e, List.length_append, HL.out]; rfl
          exact ⟨k + 1, g2, c2, by omega, by go_num, by rw [el], by rw [el, e]; simpa [MkI, ints] using hM2⟩
        case measure => simp [intOf]; omega
    · obtain rfl : k = m := by omega
      have hle := colL_le xs k
      go_wp2_with (first
        | (go_at_call 94; refine (sort_own _ _ _ _ _ _ hM (by omega)).mono ?_; rintro e w2 ⟨rfl, hM2, -⟩)
        | (go_at_call 95; refine (compact_own _ _ _ _ _ _ hM2 (by omega)).mono ?_; rintro e w3 ⟨rfl, hM3⟩))
      rw [HG.out] at hM3 ⊢
      go_ret
      exact ⟨_, _, rfl, hM3⟩
end Go.Proofs.YtklnkhkfcalndaaGreat
namespace Go.Proofs.YtklnkhkfcalndaaGreat
open Go.RowKit
theorem swaps_le (a b : Nat) (ha : a < 64) (k : Nat) : swaps a b k ≤ 6 * k := by
  induction k with
  | zero => simp [swaps]
  | succ k ih =>
    have : pc (a / 2 ^ (k + 1)) ≤ 6 := pc_le 6 _ (Nat.lt_of_le_of_lt (Nat.div_le_self _ _) (by omega))
    simp only [swaps]
    split <;> omega
theorem and_bit_all : ∀ k : Nat, k < 6 → ∀ x : Nat, x < 64 → bits BinOp.and IntKind.i64 ((x : Int) / 2 ^ k) 1 = (bit x k : Int) := by decide +kernel
theorem and_bit {x k : Nat} (hk : k < 6) (hx : x < 64) : bits BinOp.and IntKind.i64 ((x : Int) / 2 ^ k) 1 = (bit x k : Int) := and_bit_all k hk x hx
theorem bit_lt (x k : Nat) : bit x k < 2 := Nat.mod_lt _ (by omega)
theorem bit1 {x k : Nat} (hk : k < 6) (hx : x < 64) (h : (bits BinOp.and IntKind.i64 ((x : Int) / 2 ^ k) 1 == 1) = true) : bit x k = 1 := by
  rw [and_bit hk hx] at h; have := beq_iff_eq.1 h; omega
theorem bit0 {x k : Nat} (hk : k < 6) (hx : x < 64) (h : (bits BinOp.and IntKind.i64 ((x : Int) / 2 ^ k) 1 == 1) = false) : ¬ bit x k = 1 := by
  rw [and_bit hk hx] at h; intro hh; rw [hh] at h; simp at h
theorem shr_u64 (x k : Nat) (hx : x < 64) : IntKind.u64.wrap ((x : Int) / 2 ^ k) = ((x / 2 ^ k : Nat) : Int) := by
  have h : x / 2 ^ k ≤ x := Nat.div_le_self _ _
  have he : ((x : Int) / 2 ^ k) = ((x / 2 ^ k : Nat) : Int) := by simp
  rw [he]
  exact IntWalk.u64_in _ ⟨Int.natCast_nonneg _, by omega⟩
theorem keepB3 {B : Nat} {W0 w1 w2 : World} {p q r : Addr} {u v x : Value} (h : w1.cell? p = some u ∧ w1.cell? q = some v ∧ w1.cell? r = some x ∧ Below B W0 w1) (hb : Below w1.heap.size w1 w2) (hB : B ≤ W0.heap.size) :
    w2.cell? p = some u ∧ w2.cell? q = some v ∧ w2.cell? r = some x ∧ Below B W0 w2 :=
  ⟨(hb.cell (World.block_lt_of_cell? _ _ h.1)).trans h.1, (hb.cell (World.block_lt_of_cell? _ _ h.2.1)).trans h.2.1, (hb.cell (World.block_lt_of_cell? _ _ h.2.2.1)).trans h.2.2.1, h.2.2.2.trans (hb.mono (Nat.le_trans hB h.2.2.2.size))⟩
set_option maxRecDepth 2000 in
set_option maxHeartbeats 1600000 in
theorem factor_any (P : Int) (A : Option Addr) (n c : Nat) (sq : List Int) (a b : Nat) (w : World) (hp : 2 ≤ P) (hp2 : P ≤ 13) (hn : n ≤ 6) (ha : Rd w A n (ints sq)) (hs : NumsL P sq) (h1 : a < 64) (h2 : b < 64) :
    Calls Tryz.prog 126 #[.agg #[.int .i64 P, .slice A n c], .int .i64 a, .int .i64 b] w fun e w' => e = .returned (.int .i64 (fac P sq a b)) ∧ Below w.heap.size w w' := by
  have hxl : sq.length = n := by have := ha.1; rwa [ints_length] at this
  have Hx := Lib.hid hxl; clear hxl
  go_enter Tryz.func126, Tryz.ntmps126
  go_wp2_with (go_at_call 38; refine (dim_any _ _ _ _ _).mono ?_; rintro e w1 ⟨rfl, hb1⟩)
  have hk0 : Blk w1 w.heap.size 29 #[.int .i64 P, .slice A n c] := (Blk.new w _ _).below hb1 (by simp)
  have hB1 : Below w.heap.size w w1 := ((Below.refl _ w).alloc (Nat.le_refl _) _).trans (hb1.mono (by simp))
  have ha1 := ha.below hB1
  clear ha hb1
  go_loopw [7, 8, 9, 12] (fun sw out _ i wr => ∃ (k : Nat), k ≤ n ∧ i = .int .i64 k ∧ sw = .int .i64 (swaps a b k) ∧ out = .int .i64 (common P sq a b k) ∧ Below w1.heap.size w1 wr) (fun _ _ _ i _ => n - (intOf i).toNat)
  case atStart => exact ⟨0, by omega, rfl, rfl, rfl, Below.refl _ _⟩
  case round =>
    obtain ⟨k, hk, rfl, rfl, rfl, hM⟩ := hrel
    have hkr := hk0.below hM hk0.lt
    have har := ha1.below hM
    have hsl := swaps_le a b h1 k
    obtain ⟨cb1, cb2⟩ := common_bound P sq a b hp k
    by_cases hlt : k < n
    · cases hb : (bits BinOp.and IntKind.i64 ((b : Int) / 2 ^ k) 1 == 1)
      · have hb' := Lib.hid (bit0 (by omega) h2 hb)
        go_wp2
        go_roundw
        case rel => exact ⟨k + 1, by omega, by go_num, by simp only [swaps, if_neg hb'.out]; rfl, by simp only [common, if_neg (fun hh : bit b k = 1 ∧ bit a k = 1 => hb'.out hh.1)], hM⟩
        case measure => simp [intOf]; omega
      · have hb' := Lib.hid (bit1 (by omega) h2 hb)
        have hv := Lib.hid (shr_u64 a (k + 1) h1)
        have hpc : pc (a / 2 ^ (k + 1)) ≤ 6 := pc_le 6 _ (Nat.lt_of_le_of_lt (Nat.div_le_self _ _) (by omega))
        have hlt2 : a / 2 ^ (k + 1) < 64 := Nat.lt_of_le_of_lt (Nat.div_le_self _ _) h1
        have HL := Lib.hid hlt2; clear hlt2
        cases hba : (bits BinOp.and IntKind.i64 ((a : Int) / 2 ^ k) 1 == 1)
        · have hba' := Lib.hid (bit0 (by omega) h1 hba)
          go_wp2_with (go_at_call 74; rw [hv.out]; refine (ones_any _ _ HL.out).mono ?_; rintro e w' ⟨rfl, rfl⟩)
          go_roundw
          case rel => exact ⟨k + 1, by omega, by go_num, by simp only [swaps, if_pos hb'.out]; rfl, by simp only [common, if_neg (fun hh : bit b k = 1 ∧ bit a k = 1 => hba'.out hh.2)], hM⟩
          case measure => simp [intOf]; omega
        · have hba' := Lib.hid (bit1 (by omega) h1 hba)
          obtain ⟨g, o, rfl, hx, hcx⟩ := har.int hlt
          obtain ⟨sx1, sx2⟩ := hs _ (List.getElem_mem hx)
          obtain ⟨m1, m2⟩ := mul_small cb1 (show common P sq a b k ≤ 13 by omega) sx1 (show sq[k] ≤ 13 by omega)
          obtain ⟨kc0, kc1⟩ := hkr.two
          clear har ha1 hk0
          go_wp2_with (go_at_call 74; rw [hv.out]; refine (ones_any _ _ HL.out).mono ?_; rintro e w' ⟨rfl, rfl⟩)
          go_region_held3 (fun w' => w'.cell? ⟨w.heap.size, 0, none⟩ = some (.int .i64 P) ∧ w'.cell? ⟨w.heap.size, 1, none⟩ = some (.slice (some ⟨g, o, none⟩) n c) ∧ w'.cell? ⟨g, o + k, none⟩ = some (.int .i64 sq[k]) ∧ Below w1.heap.size w1 w')
            (first | with_reducible assumption | with_reducible exact keepB3 (by assumption) hb9 (Nat.le_refl _) | exact ⟨kc0, kc1, hcx, hM.drew⟩)
            (first
              | (go_at_call 44; refine (field_any _ _ _ _ _).mono ?_; rintro e w' ⟨rfl, hb9⟩)
              | (go_at_call 77; refine (num_iw P (common P sq a b k * sq[k]) _ (by omega) hp2 (by omega) (by omega)).mono ?_; rintro e w' ⟨rfl, rfl⟩))
          have hM2 := (by assumption : _ ∧ _ ∧ _ ∧ Below w1.heap.size w1 w').2.2.2
          go_wp2
          go_roundw
          case rel => exact ⟨k + 1, by omega, by go_num, by simp only [swaps, if_pos hb'.out]; rfl, by simp only [common, if_pos (And.intro hb'.out hba'.out)]; rw [List.getD_eq_getElem?_getD, List.getElem?_eq_getElem hx]; rfl, hM2⟩
          case measure => simp [intOf]; omega
    · obtain rfl : k = n := by omega
      have hBB : Below w.heap.size w wr := hB1.trans (hM.mono hB1.size)
      clear har ha1
      cases hsw : ((swaps a b k : Int) % 2 == 1)
      · go_wp2
        go_ret
        refine ⟨ret_int ?_, hBB⟩
        unfold fac
        rw [Hx.out, if_neg (by intro hh; have : (swaps a b k : Int) % 2 = 1 := by omega
                               rw [this] at hsw; simp at hsw)]
      · obtain ⟨kc0, kc1⟩ := hkr.two
        go_wp2_with (first
              | (go_at_call 44; refine (field_any _ _ _ _ _).mono ?_; rintro e w' ⟨rfl, hb9⟩)
              | (go_at_call 77; refine (num_any P (-common P sq a b k) _ (by omega) hp2 (by omega) (by omega)).mono ?_; rintro e w' ⟨rfl, rfl⟩))
        go_ret
        refine ⟨ret_int ?_, hBB.trans (hb9.mono hBB.size)⟩
        unfold fac
        rw [Hx.out, if_pos (by have := beq_iff_eq.1 hsw; omega)]
end Go.Proofs.YtklnkhkfcalndaaGreat
namespace Go.Proofs.YtklnkhkfcalndaaGreat
open Go.RowKit
theorem xor_all : ∀ x : Nat, x < 64 → ∀ y : Nat, y < 64 → bits BinOp.xor IntKind.i64 (x : Int) (y : Int) = ((x ^^^ y : Nat) : Int) := by decide +kernel
theorem xor_lt {n x y : Nat} (hx : x < pw n) (hy : y < pw n) : x ^^^ y < pw n := Nat.xor_lt_two_pow hx hy
theorem i64_fit (n : Int) (h1 : -1000000000000 ≤ n) (h2 : n ≤ 1000000000000) : IntKind.i64.wrap n = n := by rw [IntWalk.i64_left]; exact wrap_in n h1 h2
/-- A row of numbers of the call's own: place i. -/
theorem mkI_at {w w' : World} {g n c : Nat} {L : List Int} (h : MkI w w' (some ⟨g, 0, none⟩) n c L) {i : Nat} (hi : i < n) : w'.cell? ⟨g, i, none⟩ = some (.int .i64 (L.getD i 0)) ∧ w'.frozen? ⟨g, i, none⟩ = false := by
  have hl : L.length = n := by have := h.2.len; rwa [ints_length] at this
  obtain ⟨g', o, e, hx, hc⟩ := Rd.int h.rd hi
  injection e with e; injection e with e1 e2 _
  subst e1; subst e2
  rw [Nat.zero_add] at hc
  exact ⟨by rw [hc, List.getD_eq_getElem?_getD, List.getElem?_eq_getElem hx]; rfl, h.2.frozen_ i⟩
/-- A function of two masks that tells whether their product is taken. -/
def Takes (f : FuncId) (t : Nat → Nat → Bool) : Prop := ∀ (a b : Nat) (w : World), a < 64 → b < 64 → Calls Tryz.prog f #[.int .i64 a, .int .i64 b] w fun e w' => e = .returned (.bool (t a b)) ∧ w = w'
set_option maxRecDepth 2000 in
set_option maxHeartbeats 3200000 in
theorem product_any (f : FuncId) (t : Nat → Nat → Bool) (hf : Takes f t) (hcf : ∀ (args : Array Value) (w : World), (callFunc f args).run Tryz.prog w = .ok (.enter f args) w)
    (P : Int) (A : Option Addr) (n c : Nat) (sq : List Int) (X : Option Addr) (cx : Nat) (xs : List Int) (Y : Option Addr) (cy : Nat) (ys : List Int) (w : World) (hp : 2 ≤ P) (hp2 : P ≤ 13) (hn : n ≤ 6)
    (ha : Rd w A n (ints sq)) (hs : NumsL P sq) (hx : Rd w X (pw n) (ints xs)) (hxs : NumsL P xs) (hy : Rd w Y (pw n) (ints ys)) (hys : NumsL P ys) :
    Calls Tryz.prog 99 #[.agg #[.int .i64 P, .slice A n c], .slice X (pw n) cx, .slice Y (pw n) cy, .func (.func f) #[] #[]] w fun e w' => ∃ A' c', e = .returned (.slice A' (pw n) c') ∧ MkI w w' A' (pw n) c' (prodL P sq t xs ys) := by
  have hxl : xs.length = pw n := by have := hx.1; rwa [ints_length] at this
  have hyl : ys.length = pw n := by have := hy.1; rwa [ints_length] at this
  have Hx := Lib.hid hxl; clear hxl
  have Hy := Lib.hid hyl; clear hyl
  have hpw : pw n ≤ 64 := pw_le hn
  go_enter Tryz.func99, Tryz.ntmps99
  go_wp2_with (go_at_call 42; refine (nothing_any _ _ _ _ _ (by omega)).mono ?_; rintro e w1 ⟨G, c1, rfl, hM1⟩)
  have hB0 : Below w.heap.size w (w.alloc (.cells #[.int .i64 P, .slice A n c] 29)) := (Below.refl _ w).alloc (Nat.le_refl _) _
  have hk0 : Blk w1 w.heap.size 29 #[.int .i64 P, .slice A n c] := (Blk.new w _ _).below hM1.b (by simp)
  have hpos := pw_pos n
  rcases hM1.2.form with ⟨_, h0⟩ | ⟨g, rfl, hg, _⟩
  · omega
  have hg' : w.heap.size + 1 ≤ g := by simpa using hg
  have hM := hM1.after hB0
  clear hM1 hB0 hg hpos
  go_loopw [10, 11, 18] (fun _ _ i wr => ∃ k : Nat, k ≤ pw n ∧ i = .int .i64 k ∧ MkI w wr (some ⟨g, 0, none⟩) (pw n) c1 (addRows P sq t xs ys (List.replicate (pw n) 0) k) ∧ Blk wr w.heap.size 29 #[.int .i64 P, .slice A n c]) (fun _ _ i _ => pw n - (intOf i).toNat)
  case atStart => exact ⟨0, by omega, rfl, by simpa [addRows] using hM, hk0⟩
  case round =>
    obtain ⟨k, hk, rfl, hM2, hk2⟩ := hrel
    clear hM hk0
    have hrx := hx.below hM2.b
    by_cases hlt : k < pw n
    · obtain ⟨gx, ox, hX, hxk, hcx⟩ := hrx.int hlt
      subst hX
      obtain ⟨x1, x2⟩ := hxs _ (List.getElem_mem hxk)
      clear hrx
      cases h0 : (xs[k] == 0)
      · have hxn : Hid (xs.getD k 0 = xs[k]) := Lib.hid (by rw [List.getD_eq_getElem?_getD, List.getElem?_eq_getElem hxk]; rfl)
        have hR0 : MkI w wr (some ⟨g, 0, none⟩) (pw n) c1 (addRow P sq t xs ys k (addRows P sq t xs ys (List.replicate (pw n) 0) k) 0) := by simpa [addRow] using hM2
        have hN0 : NumsL P (addRows P sq t xs ys (List.replicate (pw n) 0) k) := addRows_nums sq t xs ys k (by omega) (NumsL.replicate (by omega) _)
        obtain ⟨L0, hL0⟩ : ∃ L, L = addRows P sq t xs ys (List.replicate (pw n) 0) k := ⟨_, rfl⟩
        rw [← hL0] at hR0 hN0
        have HL0 := Lib.hid hL0
        clear hM2 hL0
        have hcw : w.cell? ⟨gx, ox + k, none⟩ = some (.int .i64 xs[k]) := by
          obtain ⟨g', o', e, hx', hc'⟩ := hx.int hlt
          injection e with e; injection e with e1 e2 _
          subst e1; subst e2; exact hc'
        have HCW := Lib.hid hcw
        clear hcw
        go_wp2
        clear hcx
        go_loopw [12, 13, 27] (fun _ _ i wr => ∃ j : Nat, j ≤ pw n ∧ i = .int .i64 j ∧ MkI w wr (some ⟨g, 0, none⟩) (pw n) c1 (addRow P sq t xs ys k L0 j) ∧ Blk wr w.heap.size 29 #[.int .i64 P, .slice A n c]) (fun _ _ i _ => pw n - (intOf i).toNat)
        case atStart => exact ⟨0, by omega, rfl, hR0, hk2⟩
        case round =>
          clear hR0 hk2
          obtain ⟨j, hj, rfl, hM3, hk3⟩ := hrel
          have hry := hy.below hM3.b
          by_cases hlj : j < pw n
          · obtain ⟨gy, oy, hY, hyj, hcy⟩ := hry.int hlj
            subst hY
            obtain ⟨y1, y2⟩ := hys _ (List.getElem_mem hyj)
            clear hry
            have hyn : Hid (ys.getD j 0 = ys[j]) := Lib.hid (by rw [List.getD_eq_getElem?_getD, List.getElem?_eq_getElem hyj]; rfl)
            cases h1 : (ys[j] != 0)
            · have hz : Hid (ys.getD j 0 = 0) := Lib.hid (by rw [hyn.out]; simpa using h1)
              go_wp2
              go_roundw
              case rel => exact ⟨j + 1, by omega, by go_num, by rw [addRow_succ]; unfold addPair; rw [if_neg (fun hh => hh.2.1 hz.out)]; exact hM3, hk3⟩
              case measure => simp [intOf]; omega
            · cases ht : t k j
              · have HT := Lib.hid ht; clear ht
                go_wp2_with fail
                refine (hf k j _ (by omega) (by omega)).mono ?_
                rintro e w' ⟨rfl, rfl⟩
                rw [HT.out]
                go_wp2
                go_roundw
                case rel => exact ⟨j + 1, by omega, by go_num, by rw [addRow_succ]; unfold addPair; rw [if_neg (fun hh => by rw [HT.out] at hh; exact absurd hh.2.2 (by decide))]; exact hM3, hk3⟩
                case measure => simp [intOf]; omega
              · have HT := Lib.hid ht; clear ht
                have hidx : k ^^^ j < pw n := xor_lt hlt hlj
                have hxo := xor_all k (by omega) j (by omega)
                have hvb := (addRow_nums sq t xs ys k j (by omega) hN0).getD (by omega) (k ^^^ j)
                obtain ⟨hoc, hof⟩ := mkI_at hM3.drew hidx
                obtain ⟨v0, hv0⟩ : ∃ v, v = (addRow P sq t xs ys k L0 j).getD (k ^^^ j) 0 := ⟨_, rfl⟩
                rw [← hv0] at hvb hoc
                obtain ⟨v1, v2⟩ := hvb
                have HV0 := Lib.hid hv0
                have hAt : Hid (∀ w', MkI w w' (some ⟨g, 0, none⟩) (pw n) c1 (addRow P sq t xs ys k L0 j) → w'.cell? ⟨g, k ^^^ j, none⟩ = some (.int .i64 v0) ∧ w'.frozen? ⟨g, k ^^^ j, none⟩ = false) :=
                  Lib.hid (fun w' h => by rw [HV0.out]; exact mkI_at h hidx)
                clear hv0
                obtain ⟨f1, f2⟩ := fac_bound P sq k j hp
                obtain ⟨m1, m2⟩ := mul_small x1 (show xs[k] ≤ 13 by omega) y1 (show ys[j] ≤ 13 by omega)
                obtain ⟨m3, m4⟩ := mul_small m1 (show xs[k] * ys[j] ≤ 169 by omega) f1 (show fac P sq k j ≤ 13 by omega)
                have HNE : Hid (g ≠ w.heap.size) := Lib.hid (by omega)
                have HP : Hid (0 < P) := Lib.hid (by omega)
                have hV : Hid (∀ w', Calls Tryz.prog 77 #[.int .i64 P, .int .i64 (v0 + xs[k] * ys[j] * fac P sq k j)] w' fun e w'' => e = .returned (.int .i64 ((v0 + xs[k] * ys[j] * fac P sq k j) % P)) ∧ w' = w'') :=
                  Lib.hid (fun w' => num_any P _ w' (by omega) hp2 (by omega) (by omega))
                have hF : Hid (∀ w', MkI w w' (some ⟨g, 0, none⟩) (pw n) c1 (addRow P sq t xs ys k L0 j) → Calls Tryz.prog 126 #[.agg #[.int .i64 P, .slice A n c], .int .i64 k, .int .i64 j] w' fun e w'' => e = .returned (.int .i64 (fac P sq k j)) ∧ Below w'.heap.size w' w'') :=
                  Lib.hid (fun w' h => factor_any P A n c sq k j w' hp hp2 hn (ha.below h.b) hs (by omega) (by omega))
                have W1 := i64_fit (xs[k] * ys[j]) (by omega) (by omega)
                have W2 := i64_fit (xs[k] * ys[j] * fac P sq k j) (by omega) (by omega)
                have W3 := i64_fit (v0 + xs[k] * ys[j] * fac P sq k j) (by omega) (by omega)
                obtain ⟨kc0, kc1⟩ := hk3.two
                go_wp2_with fail
                refine (hf k j _ (by omega) (by omega)).mono ?_
                rintro e w' ⟨rfl, rfl⟩
                rw [HT.out]
                have hO := hM3.drew
                have hk4 := hk3.drew
                have HPair : Hid (xs.getD k 0 ≠ 0 ∧ ys.getD j 0 ≠ 0 ∧ t k j = true) := Lib.hid ⟨by rw [hxn.out]; simpa using h0, by rw [hyn.out]; simpa using h1, HT.out⟩
                go_wp2
                have i1 : (0 : Int) ≤ ((k ^^^ j : Nat) : Int) := by omega
                have i2 : ((k ^^^ j : Nat) : Int) < ((pw n : Nat) : Int) := by omega
                refine wp_obs 23 [[], [], [], [1, 2], [], [4], [], [], [], [7, 8], [6, 7, 8, 9], [6, 7, 8, 9, 10], [], [], [12, 13], [], [], [], [15, 16, 17], [12, 13, 14, 15, 16, 17, 18], [6, 7, 8, 9, 10, 11, 12, 13, 14, 15, 16, 17, 18, 19], [4, 5, 6, 7, 8, 9, 10, 11, 12, 13, 14, 15, 16, 17, 18, 19, 20], [0, 1, 2, 3], [0, 1, 2, 3, 4, 5, 6, 7, 8, 9, 10, 11, 12, 13, 14, 15, 16, 17, 18, 19, 20, 21, 22]] [VIs (.slice (some ⟨g, 0, none⟩) (pw n) c1), VIs (.int .i64 (k)), VIs (.int .i64 (j)), VIs (.int .i64 ((k ^^^ j : Nat))), VIs (.agg #[.int .i64 P, .slice A n c]), VIs (.int .i64 (P)), VIs (.slice (some ⟨g, 0, none⟩) (pw n) c1), VIs (.int .i64 (k)), VIs (.int .i64 (j)), VIs (.int .i64 ((k ^^^ j : Nat))), VIs (.pointer (some ⟨g, k ^^^ j, none⟩)), VIs (.int .i64 (v0)), VIs (.int .i64 (xs[k])), VIs (.int .i64 (ys[j])), VIs (.int .i64 (xs[k] * ys[j])), VIs (.agg #[.int .i64 P, .slice A n c]), VIs (.int .i64 (k)), VIs (.int .i64 (j)), VIs (.int .i64 (fac P sq k j)), VIs (.int .i64 (xs[k] * ys[j] * fac P sq k j)), VIs (.int .i64 (v0 + xs[k] * ys[j] * fac P sq k j)), VIs (.int .i64 ((v0 + xs[k] * ys[j] * fac P sq k j) % P)), VIs (.pointer (some ⟨g, k ^^^ j, none⟩))] (fun w' => Blk w' w.heap.size 29 #[.int .i64 P, .slice A n c] ∧ MkI w w' (some ⟨g, 0, none⟩) (pw n) c1 (addRow P sq t xs ys k L0 j)) (by kernel_rfl) (by kernel_rfl) (fun _ _ h hb => ⟨h.1.below hb h.1.lt, h.2.below hb⟩) (⟨hk4, hO⟩) (fun x => ?_)
                refine obs_step (Eq.trans (by simp only [List.getElem?_toArray, List.getElem?_cons_zero]; exact rfl) rfl) rfl (fun w' hS hV K hK => ?_) ?_
                · obtain ⟨q0, q1⟩ := hS.1.two; obtain ⟨hoc, hof⟩ := hAt.out _ hS.2
                  go_simp
                  exact hK.out _ _ _ rfl rfl rfl (Below.refl _ _)
                simp only [List.setIfInBounds_toArray, List.set_cons_zero, List.set_cons_succ]
                refine obs_step (Eq.trans (by simp only [List.getElem?_toArray, List.getElem?_cons_succ, List.getElem?_cons_zero]; exact rfl) rfl) rfl (fun w' hS hV K hK => ?_) ?_
                · obtain ⟨q0, q1⟩ := hS.1.two; obtain ⟨hoc, hof⟩ := hAt.out _ hS.2
                  go_simp
                  exact hK.out _ _ _ rfl rfl rfl (Below.refl _ _)
                simp only [List.setIfInBounds_toArray, List.set_cons_zero, List.set_cons_succ]
                refine obs_step (Eq.trans (by simp only [List.getElem?_toArray, List.getElem?_cons_succ, List.getElem?_cons_zero]; exact rfl) rfl) rfl (fun w' hS hV K hK => ?_) ?_
                · obtain ⟨q0, q1⟩ := hS.1.two; obtain ⟨hoc, hof⟩ := hAt.out _ hS.2
                  go_simp
                  exact hK.out _ _ _ rfl rfl rfl (Below.refl _ _)
                simp only [List.setIfInBounds_toArray, List.set_cons_zero, List.set_cons_succ]
                refine obs_step (Eq.trans (by simp only [List.getElem?_toArray, List.getElem?_cons_succ, List.getElem?_cons_zero]; exact rfl) rfl) rfl (fun w' hS hV K hK => ?_) ?_
                · simp only [List.mem_cons, List.not_mem_nil, or_false, forall_eq_or_imp, forall_eq, List.getD_cons_succ, List.getD_cons_zero, VIs, VAny] at hV
                  obtain ⟨e1, e2⟩ := hV
                  obtain ⟨q0, q1⟩ := hS.1.two; obtain ⟨hoc, hof⟩ := hAt.out _ hS.2
                  go_simp
                  exact hK.out _ _ _ rfl rfl rfl (Below.refl _ _)
                simp only [List.setIfInBounds_toArray, List.set_cons_zero, List.set_cons_succ]
                refine obs_step (Eq.trans (by simp only [List.getElem?_toArray, List.getElem?_cons_succ, List.getElem?_cons_zero]; exact rfl) rfl) rfl (fun w' hS hV K hK => ?_) ?_
                · obtain ⟨q0, q1⟩ := hS.1.two; obtain ⟨hoc, hof⟩ := hAt.out _ hS.2
                  go_simp
                  exact hK.out _ _ _ rfl rfl rfl (Below.refl _ _)
                simp only [List.setIfInBounds_toArray, List.set_cons_zero, List.set_cons_succ]
                refine obs_step (Eq.trans (by simp only [List.getElem?_toArray, List.getElem?_cons_succ, List.getElem?_cons_zero]; exact rfl) rfl) rfl (fun w' hS hV K hK => ?_) ?_
                · simp only [List.mem_cons, List.not_mem_nil, or_false, forall_eq, List.getD_cons_succ, List.getD_cons_zero, VIs, VAny] at hV
                  obtain e4 := hV
                  obtain ⟨q0, q1⟩ := hS.1.two; obtain ⟨hoc, hof⟩ := hAt.out _ hS.2
                  go_simp
                  refine (field_any _ _ _ _ _).mono ?_
                  rintro e v1 ⟨rfl, hb⟩
                  exact hK.out _ _ _ rfl rfl rfl hb
                simp only [List.setIfInBounds_toArray, List.set_cons_zero, List.set_cons_succ]
                refine obs_step (Eq.trans (by simp only [List.getElem?_toArray, List.getElem?_cons_succ, List.getElem?_cons_zero]; exact rfl) rfl) rfl (fun w' hS hV K hK => ?_) ?_
                · obtain ⟨q0, q1⟩ := hS.1.two; obtain ⟨hoc, hof⟩ := hAt.out _ hS.2
                  go_simp
                  exact hK.out _ _ _ rfl rfl rfl (Below.refl _ _)
                simp only [List.setIfInBounds_toArray, List.set_cons_zero, List.set_cons_succ]
                refine obs_step (Eq.trans (by simp only [List.getElem?_toArray, List.getElem?_cons_succ, List.getElem?_cons_zero]; exact rfl) rfl) rfl (fun w' hS hV K hK => ?_) ?_
                · obtain ⟨q0, q1⟩ := hS.1.two; obtain ⟨hoc, hof⟩ := hAt.out _ hS.2
                  go_simp
                  exact hK.out _ _ _ rfl rfl rfl (Below.refl _ _)
                simp only [List.setIfInBounds_toArray, List.set_cons_zero, List.set_cons_succ]
                refine obs_step (Eq.trans (by simp only [List.getElem?_toArray, List.getElem?_cons_succ, List.getElem?_cons_zero]; exact rfl) rfl) rfl (fun w' hS hV K hK => ?_) ?_
                · obtain ⟨q0, q1⟩ := hS.1.two; obtain ⟨hoc, hof⟩ := hAt.out _ hS.2
                  go_simp
                  exact hK.out _ _ _ rfl rfl rfl (Below.refl _ _)
                simp only [List.setIfInBounds_toArray, List.set_cons_zero, List.set_cons_succ]
                refine obs_step (Eq.trans (by simp only [List.getElem?_toArray, List.getElem?_cons_succ, List.getElem?_cons_zero]; exact rfl) rfl) rfl (fun w' hS hV K hK => ?_) ?_
                · simp only [List.mem_cons, List.not_mem_nil, or_false, forall_eq_or_imp, forall_eq, List.getD_cons_succ, List.getD_cons_zero, VIs, VAny] at hV
                  obtain ⟨e7, e8⟩ := hV
                  obtain ⟨q0, q1⟩ := hS.1.two; obtain ⟨hoc, hof⟩ := hAt.out _ hS.2
                  go_simp
                  exact hK.out _ _ _ rfl rfl rfl (Below.refl _ _)
                simp only [List.setIfInBounds_toArray, List.set_cons_zero, List.set_cons_succ]
                refine obs_step (Eq.trans (by simp only [List.getElem?_toArray, List.getElem?_cons_succ, List.getElem?_cons_zero]; exact rfl) rfl) rfl (fun w' hS hV K hK => ?_) ?_
                · simp only [List.mem_cons, List.not_mem_nil, or_false, forall_eq_or_imp, forall_eq, List.getD_cons_succ, List.getD_cons_zero, VIs, VAny] at hV
                  obtain ⟨e6, e7, e8, e9⟩ := hV
                  obtain ⟨q0, q1⟩ := hS.1.two; obtain ⟨hoc, hof⟩ := hAt.out _ hS.2
                  go_simp
                  exact hK.out _ _ _ rfl rfl rfl (Below.refl _ _)
                simp only [List.setIfInBounds_toArray, List.set_cons_zero, List.set_cons_succ]
                refine obs_step (Eq.trans (by simp only [List.getElem?_toArray, List.getElem?_cons_succ, List.getElem?_cons_zero]; exact rfl) rfl) rfl (fun w' hS hV K hK => ?_) ?_
                · simp only [List.mem_cons, List.not_mem_nil, or_false, forall_eq_or_imp, forall_eq, List.getD_cons_succ, List.getD_cons_zero, VIs, VAny] at hV
                  obtain ⟨e6, e7, e8, e9, e10⟩ := hV
                  obtain ⟨q0, q1⟩ := hS.1.two; obtain ⟨hoc, hof⟩ := hAt.out _ hS.2
                  go_simp
                  exact hK.out _ _ _ rfl rfl rfl (Below.refl _ _)
                simp only [List.setIfInBounds_toArray, List.set_cons_zero, List.set_cons_succ]
                refine obs_step (Eq.trans (by simp only [List.getElem?_toArray, List.getElem?_cons_succ, List.getElem?_cons_zero]; exact rfl) rfl) rfl (fun w' hS hV K hK => ?_) ?_
                · obtain ⟨q0, q1⟩ := hS.1.two; obtain ⟨hoc, hof⟩ := hAt.out _ hS.2
                  go_simp
                  exact hK.out _ _ _ rfl rfl rfl (Below.refl _ _)
                simp only [List.setIfInBounds_toArray, List.set_cons_zero, List.set_cons_succ]
                refine obs_step (Eq.trans (by simp only [List.getElem?_toArray, List.getElem?_cons_succ, List.getElem?_cons_zero]; exact rfl) rfl) rfl (fun w' hS hV K hK => ?_) ?_
                · obtain ⟨q0, q1⟩ := hS.1.two; obtain ⟨hoc, hof⟩ := hAt.out _ hS.2
                  go_simp
                  exact hK.out _ _ _ rfl rfl rfl (Below.refl _ _)
                simp only [List.setIfInBounds_toArray, List.set_cons_zero, List.set_cons_succ]
                refine obs_step (Eq.trans (by simp only [List.getElem?_toArray, List.getElem?_cons_succ, List.getElem?_cons_zero]; exact rfl) rfl) rfl (fun w' hS hV K hK => ?_) ?_
                · simp only [List.mem_cons, List.not_mem_nil, or_false, forall_eq_or_imp, forall_eq, List.getD_cons_succ, List.getD_cons_zero, VIs, VAny] at hV
                  obtain ⟨e12, e13⟩ := hV
                  obtain ⟨q0, q1⟩ := hS.1.two; obtain ⟨hoc, hof⟩ := hAt.out _ hS.2
                  go_simp
                  exact hK.out _ _ _ rfl rfl rfl (Below.refl _ _)
                simp only [List.setIfInBounds_toArray, List.set_cons_zero, List.set_cons_succ]
                refine obs_step (Eq.trans (by simp only [List.getElem?_toArray, List.getElem?_cons_succ, List.getElem?_cons_zero]; exact rfl) rfl) rfl (fun w' hS hV K hK => ?_) ?_
                · obtain ⟨q0, q1⟩ := hS.1.two; obtain ⟨hoc, hof⟩ := hAt.out _ hS.2
                  go_simp
                  exact hK.out _ _ _ rfl rfl rfl (Below.refl _ _)
                simp only [List.setIfInBounds_toArray, List.set_cons_zero, List.set_cons_succ]
                refine obs_step (Eq.trans (by simp only [List.getElem?_toArray, List.getElem?_cons_succ, List.getElem?_cons_zero]; exact rfl) rfl) rfl (fun w' hS hV K hK => ?_) ?_
                · obtain ⟨q0, q1⟩ := hS.1.two; obtain ⟨hoc, hof⟩ := hAt.out _ hS.2
                  go_simp
                  exact hK.out _ _ _ rfl rfl rfl (Below.refl _ _)
                simp only [List.setIfInBounds_toArray, List.set_cons_zero, List.set_cons_succ]
                refine obs_step (Eq.trans (by simp only [List.getElem?_toArray, List.getElem?_cons_succ, List.getElem?_cons_zero]; exact rfl) rfl) rfl (fun w' hS hV K hK => ?_) ?_
                · obtain ⟨q0, q1⟩ := hS.1.two; obtain ⟨hoc, hof⟩ := hAt.out _ hS.2
                  go_simp
                  exact hK.out _ _ _ rfl rfl rfl (Below.refl _ _)
                simp only [List.setIfInBounds_toArray, List.set_cons_zero, List.set_cons_succ]
                refine obs_step (Eq.trans (by simp only [List.getElem?_toArray, List.getElem?_cons_succ, List.getElem?_cons_zero]; exact rfl) rfl) rfl (fun w' hS hV K hK => ?_) ?_
                · simp only [List.mem_cons, List.not_mem_nil, or_false, forall_eq_or_imp, forall_eq, List.getD_cons_succ, List.getD_cons_zero, VIs, VAny] at hV
                  obtain ⟨e15, e16, e17⟩ := hV
                  obtain ⟨q0, q1⟩ := hS.1.two; obtain ⟨hoc, hof⟩ := hAt.out _ hS.2
                  go_simp
                  refine (hF.out _ hS.2).mono ?_
                  rintro e v1 ⟨rfl, hb⟩
                  exact hK.out _ _ _ rfl rfl rfl hb
                simp only [List.setIfInBounds_toArray, List.set_cons_zero, List.set_cons_succ]
                refine obs_step (Eq.trans (by simp only [List.getElem?_toArray, List.getElem?_cons_succ, List.getElem?_cons_zero]; exact rfl) rfl) rfl (fun w' hS hV K hK => ?_) ?_
                · simp only [List.mem_cons, List.not_mem_nil, or_false, forall_eq_or_imp, forall_eq, List.getD_cons_succ, List.getD_cons_zero, VIs, VAny] at hV
                  obtain ⟨e12, e13, e14, e15, e16, e17, e18⟩ := hV
                  obtain ⟨q0, q1⟩ := hS.1.two; obtain ⟨hoc, hof⟩ := hAt.out _ hS.2
                  go_simp
                  exact hK.out _ _ _ rfl rfl rfl (Below.refl _ _)
                simp only [List.setIfInBounds_toArray, List.set_cons_zero, List.set_cons_succ]
                refine obs_step (Eq.trans (by simp only [List.getElem?_toArray, List.getElem?_cons_succ, List.getElem?_cons_zero]; exact rfl) rfl) rfl (fun w' hS hV K hK => ?_) ?_
                · simp only [List.mem_cons, List.not_mem_nil, or_false, forall_eq_or_imp, forall_eq, List.getD_cons_succ, List.getD_cons_zero, VIs, VAny] at hV
                  obtain ⟨e6, e7, e8, e9, e10, e11, e12, e13, e14, e15, e16, e17, e18, e19⟩ := hV
                  obtain ⟨q0, q1⟩ := hS.1.two; obtain ⟨hoc, hof⟩ := hAt.out _ hS.2
                  go_simp
                  exact hK.out _ _ _ rfl rfl rfl (Below.refl _ _)
                simp only [List.setIfInBounds_toArray, List.set_cons_zero, List.set_cons_succ]
                refine obs_step (Eq.trans (by simp only [List.getElem?_toArray, List.getElem?_cons_succ, List.getElem?_cons_zero]; exact rfl) rfl) rfl (fun w' hS hV K hK => ?_) ?_
                · simp only [List.mem_cons, List.not_mem_nil, or_false, forall_eq_or_imp, forall_eq, List.getD_cons_succ, List.getD_cons_zero, VIs, VAny] at hV
                  obtain ⟨e4, e5, e6, e7, e8, e9, e10, e11, e12, e13, e14, e15, e16, e17, e18, e19, e20⟩ := hV
                  obtain ⟨q0, q1⟩ := hS.1.two; obtain ⟨hoc, hof⟩ := hAt.out _ hS.2
                  go_simp
                  refine (hV.out _).mono ?_
                  rintro e v1 ⟨rfl, rfl⟩
                  exact hK.out _ _ _ rfl rfl rfl (Below.refl _ _)
                simp only [List.setIfInBounds_toArray, List.set_cons_zero, List.set_cons_succ]
                refine obs_step (Eq.trans (by simp only [List.getElem?_toArray, List.getElem?_cons_succ, List.getElem?_cons_zero]; exact rfl) rfl) rfl (fun w' hS hV K hK => ?_) ?_
                · simp only [List.mem_cons, List.not_mem_nil, or_false, forall_eq_or_imp, forall_eq, List.getD_cons_succ, List.getD_cons_zero, VIs, VAny] at hV
                  obtain ⟨e0, e1, e2, e3⟩ := hV
                  obtain ⟨q0, q1⟩ := hS.1.two; obtain ⟨hoc, hof⟩ := hAt.out _ hS.2
                  go_simp
                  exact hK.out _ _ _ rfl rfl rfl (Below.refl _ _)
                simp only [List.setIfInBounds_toArray, List.set_cons_zero, List.set_cons_succ]
                refine fun w' hS hV => ?_
                have hV := fun i hi => hV i (List.mem_range.1 hi)
                simp only [List.range, List.range.loop, List.mem_cons, List.not_mem_nil, or_false, forall_eq_or_imp, forall_eq, List.getD_cons_succ, List.getD_cons_zero, VIs, VAny] at hV
                obtain ⟨e0, e1, e2, e3, e4, e5, e6, e7, e8, e9, e10, e11, e12, e13, e14, e15, e16, e17, e18, e19, e20, e21, e22⟩ := hV
                simp only [e0, e1, e2, e3, e4, e5, e6, e7, e8, e9, e10, e11, e12, e13, e14, e15, e16, e17, e18, e19, e20, e21, e22]
                clear e0 e1 e2 e3 e4 e5 e6 e7 e8 e9 e10 e11 e12 e13 e14 e15 e16 e17 e18 e19 e20 e21 e22
                obtain ⟨hk4, hO⟩ := hS
                obtain ⟨hoc, hof⟩ := hAt.out _ hO
                refine any_one (j := 23) (by kernel_rfl) (Eq.trans (by simp only [List.getElem?_toArray, List.getElem?_cons_succ, List.getElem?_cons_zero]; exact rfl) rfl) (fun K hK => ?_)
                go_simp
                refine hK.out _ _ (wpAny_done (by kernel_rfl) ?_ _)
                have hset := (hO.set (k ^^^ j) (.int .i64 ((v0 + xs[k] * ys[j] * fac P sq k j) % P))).1
                rw [ints_set] at hset
                have hkn := hk4.far (p := ⟨g, k ^^^ j, none⟩) HNE.out.symm (.int .i64 ((v0 + xs[k] * ys[j] * fac P sq k j) % P))
                clear W1 W2 W3 hoc hof hO hk4
                go_wp2
                go_roundw
                case rel => exact ⟨j + 1, by omega, by go_num, by rw [addRow_succ]; unfold addPair; rw [if_pos HPair.out, ← HV0.out, hxn.out, hyn.out]; exact hset, hkn⟩
                case measure => simp [intOf]; omega
          · obtain rfl : j = pw n := by omega
            have HM := Lib.hid hM3
            clear hry hM3
            go_wp2
            go_roundw
            case rel => exact ⟨k + 1, by omega, by go_num, by rw [addRows_succ, Hy.out, ← HL0.out]; exact HM.out, hk3⟩
            case measure => simp [intOf]; omega
      · have hz : xs.getD k 0 = 0 := by rw [List.getD_eq_getElem?_getD, List.getElem?_eq_getElem hxk]; simpa using h0
        have HM := Lib.hid hM2
        clear hM2
        go_wp2
        go_roundw
        case rel => exact ⟨k + 1, by omega, by go_num, by rw [addRows_succ, addRow_zero _ _ _ _ _ _ _ _ hz]; exact HM.out, hk2⟩
        case measure => simp [intOf]; omega
    · obtain rfl : k = pw n := by omega
      go_wp2
      go_ret
      exact ⟨_, _, rfl, by unfold prodL; rw [Hx.out]; exact hM2⟩
end Go.Proofs.YtklnkhkfcalndaaGreat
namespace Go.Proofs.YtklnkhkfcalndaaGreat
open Go.RowKit
theorem leadL_step {v : List Int} {k : Nat} (h : k ≤ leadL v) (hk : k < v.length) (h0 : v[k] = 0) : k + 1 ≤ leadL v := by
  rcases Nat.lt_or_ge k (leadL v) with h1 | h1
  · exact h1
  · have e : leadL v = k := by omega
    have := leadL_at v (by omega)
    rw [e, getD_of_lt 0 hk] at this
    exact absurd h0 this
theorem leadL_stop {v : List Int} {k : Nat} (h : k ≤ leadL v) (hk : k < v.length) (h0 : v[k] ≠ 0) : leadL v = k := by
  rcases Nat.lt_or_ge k (leadL v) with h1 | h1
  · have := leadL_before v k h1
    rw [getD_of_lt 0 hk] at this
    exact absurd this h0
  · omega
theorem leadL_end {v : List Int} {k : Nat} (h : k ≤ leadL v) (hk : k = v.length) : leadL v = v.length := by
  have := leadL_le v; omega
/-- The first place with a number other than 0, or -1. -/
def firstL (xs : List Int) : Int := if leadL xs < xs.length then leadL xs else -1
set_option maxHeartbeats 400000 in
theorem l02First_any (A : Option Addr) (n c : Nat) (xs : List Int) (w : World) (hn : n ≤ 1099511627776) (ha : Rd w A n (ints xs)) :
    Calls Tryz.prog 66 #[.slice A n c] w fun e w' => e = .returned (.int .i64 (firstL xs)) ∧ w = w' := by
  have hxl : xs.length = n := by have := ha.1; rwa [ints_length] at this
  have Hx := Lib.hid hxl; clear hxl
  go_enter Tryz.func66, Tryz.ntmps66
  go_wp2
  go_loop [3] (fun i => ∃ k : Nat, k ≤ n ∧ i = .int .i64 k ∧ k ≤ leadL xs) (fun i => n - (intOf i).toNat)
  case atStart => exact ⟨0, by omega, rfl, by omega⟩
  case round =>
    obtain ⟨k, hk, rfl, ht⟩ := hrel
    have H := Lib.hid ht; clear ht
    by_cases hlt : k < n
    · obtain ⟨g, o, rfl, hx, hcx⟩ := ha.int hlt
      clear ha
      cases hi : (xs[k] != 0)
      all_goals
        have HI := Lib.hid hi
        go_wp2
      · go_round
        case rel => exact ⟨k + 1, by omega, by go_num, leadL_step H.out hx (by simpa using HI.out)⟩
        case measure => simp [intOf]; omega
      · go_ret
        exact ⟨ret_int (by unfold firstL; rw [leadL_stop H.out hx (by simpa using HI.out), if_pos hx]), rfl⟩
    · go_wp2
      go_ret
      have := H.out
      exact ⟨ret_int (by unfold firstL; rw [leadL_end this (by rw [Hx.out]; omega), if_neg (by omega)]), rfl⟩
/-- The part of grade k. -/
def partG (xs : List Int) (k : Nat) : List Int := tab xs.length fun i => if pc i = k then xs.getD i 0 else 0
theorem partG_len (xs : List Int) (k : Nat) : (partG xs k).length = xs.length := tab_len _ _
theorem partG_getD {xs : List Int} {k i : Nat} (h : i < xs.length) : (partG xs k).getD i 0 = if pc i = k then xs.getD i 0 else 0 := tab_getD h 0
theorem tab_pad_set {n k : Nat} {f : Nat → Int} (hk : k < n) : (tab k f ++ List.replicate (n - k) 0).set k (f k) = tab (k + 1) f ++ List.replicate (n - (k + 1)) 0 := by
  rw [List.set_append, if_neg (by rw [tab_len]; omega), tab_len, Nat.sub_self, tab_succ, List.append_assoc]
  congr 1
  obtain ⟨m, hm⟩ : ∃ m, n - k = m + 1 := ⟨n - k - 1, by omega⟩
  rw [hm, show n - (k + 1) = m by omega]
  simp [List.replicate_succ]
theorem tab_pad_zero {n k : Nat} {f : Nat → Int} (hk : k < n) (h0 : f k = 0) : tab k f ++ List.replicate (n - k) 0 = tab (k + 1) f ++ List.replicate (n - (k + 1)) 0 := by
  rw [tab_succ, List.append_assoc, h0]
  congr 1
  obtain ⟨m, hm⟩ : ∃ m, n - k = m + 1 := ⟨n - k - 1, by omega⟩
  rw [hm, show n - (k + 1) = m by omega]
  simp [List.replicate_succ]
set_option maxHeartbeats 800000 in
theorem l04Part_any (X : Option Addr) (m cx : Nat) (xs : List Int) (q : Nat) (w : World) (hm : m ≤ 64) (_hq : q ≤ 1000) (hx : Rd w X m (ints xs)) :
    Calls Tryz.prog 63 #[.slice X m cx, .int .i64 q] w fun e w' => ∃ A' c', e = .returned (.slice A' m c') ∧ MkI w w' A' m c' (partG xs q) := by
  have hxl : xs.length = m := by have := hx.1; rwa [ints_length] at this
  have hmk := make_i (P := Tryz.prog) 22 2 Tryz.underlying22 info_i m (by omega)
  have hM0 := Mk.made (E := 2) (n := m) (z := .int .i64 0) (Below.refl w.heap.size w) (by simp only [maxLen]; omega)
  rw [ints_replicate] at hM0
  have HP : Hid (partG xs q = tab m fun i => if pc i = q then xs.getD i 0 else 0) := Lib.hid (by unfold partG; rw [hxl])
  clear hxl
  go_enter Tryz.func63, Tryz.ntmps63
  go_wp2
  clear hmk
  go_loopw [6] (fun i wr => ∃ k : Nat, k ≤ m ∧ i = .int .i64 k ∧ MkI w wr (some ⟨w.heap.size, 0, none⟩) m m ((tab k fun i => if pc i = q then xs.getD i 0 else 0) ++ List.replicate (m - k) 0)) (fun i _ => m - (intOf i).toNat)
  case atStart => exact ⟨0, by omega, rfl, by simpa [tab] using hM0⟩
  case round =>
    obtain ⟨k, hk, rfl, hM⟩ := hrel
    clear hM0
    by_cases hlt : k < m
    · obtain ⟨gx, ox, rfl, hxk, hcx⟩ := (hx.below hM.b).int hlt
      by_cases hpc : pc k = q
      · have hb : (((pc k : Nat) : Int) == (q : Int)) = true := by simp [hpc]
        have hset := (hM.set k (.int .i64 xs[k])).1
        have hf : ((tab k fun i => if pc i = q then xs.getD i 0 else 0) ++ List.replicate (m - k) 0).set k xs[k] = (tab (k + 1) fun i => if pc i = q then xs.getD i 0 else 0) ++ List.replicate (m - (k + 1)) 0 := by
          rw [← tab_pad_set hlt]; simp only [hpc, if_true]; rw [getD_of_lt 0 hxk]
        obtain ⟨hoc, hof⟩ := mkI_at hM hlt
        rw [ints_set, hf] at hset
        have HS := Lib.hid hset
        clear hset hM hpc hf
        go_wp2_with (go_at_call 30; refine (l04Grade_any k _ (by omega)).mono ?_; rintro e w' ⟨rfl, rfl⟩)
        go_roundw
        case rel => exact ⟨k + 1, by omega, by go_num, HS.out⟩
        case measure => simp [intOf]; omega
      · have hb : (((pc k : Nat) : Int) == (q : Int)) = false := by simp; omega
        have HS := Lib.hid (tab_pad_zero (f := fun i => if pc i = q then xs.getD i 0 else 0) hlt (if_neg hpc) ▸ hM)
        clear hM hpc
        go_wp2_with (go_at_call 30; refine (l04Grade_any k _ (by omega)).mono ?_; rintro e w' ⟨rfl, rfl⟩)
        go_roundw
        case rel => exact ⟨k + 1, by omega, by go_num, HS.out⟩
        case measure => simp [intOf]; omega
    · obtain rfl : k = m := by omega
      go_wp2
      go_ret
      exact ⟨_, _, rfl, by rw [HP.out]; simpa using hM⟩
set_option maxHeartbeats 400000 in
theorem l01Same_any (A B : Option Addr) (n m c d : Nat) (xs ys : List Int) (w : World) (hn : n ≤ 1099511627776) (hm : m ≤ 1099511627776)
    (ha : Rd w A n (ints xs)) (hb : Rd w B m (ints ys)) :
    Calls Tryz.prog 62 #[.slice A n c, .slice B m d] w fun e w' => e = .returned (.bool (decide (xs = ys))) ∧ ∃ j, w' = w.drewN j := by
  have hxl : xs.length = n := by have := ha.1; rwa [ints_length] at this
  have hyl : ys.length = m := by have := hb.1; rwa [ints_length] at this
  by_cases hnm : n = m
  · subst hnm
    have Hx := Lib.hid hxl; clear hxl
    have Hy := Lib.hid hyl; clear hyl
    go_enter Tryz.func62, Tryz.ntmps62
    go_wp2
    go_loopw [5] (fun i wr => ∃ k j : Nat, k ≤ n ∧ i = .int .i64 k ∧ xs.take k = ys.take k ∧ wr = w.drewN j) (fun i _ => n - (intOf i).toNat)
    case atStart => exact ⟨0, 0, by omega, rfl, by simp, rfl⟩
    case round =>
      obtain ⟨k, j, hk, rfl, hxy, rfl⟩ := hrel
      have H := Lib.hid hxy; clear hxy
      by_cases hlt : k < n
      · obtain ⟨g, o, rfl, hx, hcx⟩ := ha.int hlt
        obtain ⟨g', o', rfl, hy, hcy⟩ := hb.int hlt
        clear ha hb
        go_wp2
        go_quiet (fail)
        go_wp2
        · go_ret
          exact ⟨ret_bool (ne_of_get xs ys k hx hy (by assumption)).symm, _, World.drewN_drewN _ _ _⟩
        · go_roundw
          case rel => exact ⟨k + 1, _, by omega, by go_num, take_succ_eq xs ys k hx hy H.out (by simpa using (by assumption : (xs[k] != ys[k]) = false)), rfl⟩
          case measure => simp [intOf]; omega
      · go_wp2
        go_ret
        refine ⟨ret_bool ?_, _, rfl⟩
        have := H.out
        rw [List.take_of_length_le (by rw [Hx.out]; omega), List.take_of_length_le (by rw [Hy.out]; omega)] at this
        rw [this]; simp
  · have hne : decide (xs = ys) = false := by
      rw [decide_eq_false_iff_not]; rintro rfl; omega
    have Hne := Lib.hid hne; clear hne hxl hyl
    have hb0 : ((n : Int) != (m : Int)) = true := by rw [bne_iff_ne]; omega
    go_enter Tryz.func62, Tryz.ntmps62
    go_wp2
    go_ret
    exact ⟨ret_bool Hne.out.symm, 0, rfl⟩
/-- A function of a number that tells whether p holds; w: what it needs of the world. -/
def TellsI (f : FuncId) (cap : Array Value) (S : World → Prop) (p : Int → Bool) : Prop :=
  ∀ (w : World) (x : Int), S w → 0 ≤ x → x ≤ 1000 → Calls Tryz.prog f (#[.int .i64 x] ++ cap) w fun e w' => e = .returned (.bool (p x)) ∧ w = w'
set_option maxHeartbeats 800000 in
theorem IndexFuncI_any (f : FuncId) (cap : Array Value) (S : World → Prop) (p : Int → Bool) (A : Option Addr) (n c : Nat) (xs : List Int) (w : World) (hn : n ≤ 1099511627776) (ha : Rd w A n (ints xs)) (hxs : ∀ x ∈ xs, 0 ≤ x ∧ x ≤ 1000) (hS : S w)
    (hf : TellsI f cap S p) (hcf : ∀ (args : Array Value) (w : World), (callFunc f args).run Tryz.prog w = .ok (.enter f args) w) :
    Calls Tryz.prog 124 #[.slice A n c, .func (.func f) #[] cap] w fun e w' => ∃ r : Int, e = .returned (.int .i64 r) ∧ decide (0 ≤ r) = xs.any p ∧ w = w' := by
  have hxl : xs.length = n := by have := ha.1; rwa [ints_length] at this
  have Hx := Lib.hid hxl; clear hxl
  go_enter Tryz.func124, Tryz.ntmps124
  go_wp2
  go_loop [5, 8] (fun _ i => ∃ k : Nat, k ≤ n ∧ i = .int .i64 k ∧ (xs.take k).any p = false) (fun _ i => n - (intOf i).toNat)
  case atStart => exact ⟨0, by omega, rfl, by simp⟩
  case round =>
    obtain ⟨k, hk, rfl, ht⟩ := hrel
    have H := Lib.hid ht; clear ht
    by_cases hlt : k < n
    · obtain ⟨g, o, rfl, hx, hcx⟩ := ha.int hlt
      obtain ⟨b1, b2⟩ := hxs xs[k] (List.getElem_mem hx)
      clear ha
      cases hi : p xs[k]
      all_goals
        have HI := Lib.hid hi; clear hi
        go_wp2_with fail
        refine (hf _ _ hS b1 b2).mono ?_
        rintro e w1 ⟨rfl, rfl⟩
        rw [HI.out]
        go_wp2
      · go_round
        case rel =>
          refine ⟨k + 1, by omega, by go_num, ?_⟩
          rw [List.take_succ_eq_append_getElem hx, List.any_append, H.out]
          simpa using HI.out
        case measure => simp [intOf]; omega
      · go_ret
        refine ⟨_, rfl, ?_, rfl⟩
        have : xs.any p = true := List.any_eq_true.2 ⟨xs[k], List.getElem_mem hx, HI.out⟩
        rw [this]; simp
    · go_wp2
      go_ret
      refine ⟨_, rfl, ?_, rfl⟩
      have := H.out
      rw [List.take_of_length_le (by rw [Hx.out]; omega)] at this
      rw [this]; simp
set_option maxHeartbeats 400000 in
theorem ContainsFuncI_any (f : FuncId) (cap : Array Value) (S : World → Prop) (p : Int → Bool) (A : Option Addr) (n c : Nat) (xs : List Int) (w : World) (hn : n ≤ 1099511627776) (ha : Rd w A n (ints xs)) (hxs : ∀ x ∈ xs, 0 ≤ x ∧ x ≤ 1000) (hS : S w)
    (hf : TellsI f cap S p) (hcf : ∀ (args : Array Value) (w : World), (callFunc f args).run Tryz.prog w = .ok (.enter f args) w) :
    Calls Tryz.prog 96 #[.slice A n c, .func (.func f) #[] cap] w fun e w' => e = .returned (.bool (xs.any p)) ∧ w = w' := by
  go_enter Tryz.func96, Tryz.ntmps96
  go_wp2_with fail
  refine (IndexFuncI_any _ _ S p _ _ _ _ _ hn ha hxs hS hf hcf).mono ?_
  rintro e w1 ⟨r, rfl, hr, rfl⟩
  have HR := Lib.hid hr; clear hr
  go_wp2
  go_ret
  exact ⟨ret_bool HR.out, rfl⟩
theorem gradesL_range (xs : List Int) : ∀ x ∈ gradesL xs, 0 ≤ x ∧ x ≤ 1000 := fun x hx => by
  obtain ⟨k, hk, rfl⟩ := List.mem_map.1 hx
  have : k < 7 := by have := (List.mem_filter.1 hk).1; simpa using this
  omega
/-- Has it blades of grade k alone? -/
def onlyL (xs : List Int) (k : Int) : Bool := !((gradesL xs).any fun g => g != k)
set_option maxHeartbeats 400000 in
theorem onlyGrade1_tells (k : Int) (q : Addr) : TellsI 97 #[.pointer (some q)] (fun w => w.cell? q = some (.int .i64 k)) (fun g => g != k) := by
  intro w x hS h1 h2
  show Calls _ _ #[.int .i64 x, .pointer (some q)] _ _
  go_enter Tryz.func97, Tryz.ntmps97
  go_wp2
  go_ret
  exact ⟨rfl, rfl⟩
set_option maxRecDepth 8000 in
set_option maxHeartbeats 400000 in
theorem onlyGrade_any (X : Option Addr) (m cx : Nat) (xs : List Int) (k : Int) (w : World) (hm : m ≤ 64) (hx : Rd w X m (ints xs)) :
    Calls Tryz.prog 54 #[.slice X m cx, .int .i64 k] w fun e w' => e = .returned (.bool (onlyL xs k)) ∧ Below w.heap.size w w' := by
  have hl := gradesL_len xs
  have hB0 : Below w.heap.size w (w.alloc (.cells #[.int .i64 k] 2)) := (Below.refl _ w).alloc (Nat.le_refl _) _
  have k0 : Blk (w.alloc (.cells #[.int .i64 k] 2)) w.heap.size 2 #[.int .i64 k] := Blk.new _ _ _
  have hmf : ∀ (fn : Fn) (first cap : Array Value) (w : World), (Instr.makeFunc fn first cap).run Tryz.prog w = .ok (.func fn first cap) w := fun _ _ _ _ => rfl
  go_enter Tryz.func54, Tryz.ntmps54
  go_wp2_with fail
  refine (gradesOf_any _ _ _ _ _ hm (hx.below hB0)).mono ?_
  rintro e w1 ⟨A', c', rfl, hM⟩
  have k1 := k0.below hM.b k0.lt
  have hS : w1.cell? ⟨w.heap.size, 0, none⟩ = some (.int .i64 k) := k1.cell 0
  have hB1 := hB0.trans (hM.b.mono (by simp))
  obtain ⟨l, hl'⟩ : ∃ l, l = (gradesL xs).length := ⟨_, rfl⟩
  rw [← hl'] at hl hM ⊢
  clear hl' k0 hB0
  go_wp2_with fail
  refine (ContainsFuncI_any _ #[.pointer (some ⟨w.heap.size, 0, none⟩)] (fun w => w.cell? ⟨_, 0, none⟩ = some (.int .i64 k)) _ _ _ _ _ _ (by omega) hM.rd (gradesL_range xs) hS (onlyGrade1_tells k _) (fun _ _ => rfl)).mono ?_
  rintro e w2 ⟨rfl, rfl⟩
  obtain ⟨b, hb⟩ : ∃ b, b = (gradesL xs).any fun g => g != k := ⟨_, rfl⟩
  rw [← hb]
  have HB := Lib.hid hb; clear hb
  go_wp2
  go_ret
  exact ⟨ret_bool (by unfold onlyL; rw [HB.out]), hB1⟩
end Go.Proofs.YtklnkhkfcalndaaGreat
namespace Go.Proofs.YtklnkhkfcalndaaGreat
open Go.RowKit
set_option maxRecDepth 8000 in
set_option maxHeartbeats 400000 in
theorem clone_any (A : Option Addr) (n c : Nat) (xs : List Int) (w : World) (hn : n ≤ 65536) (ha : Rd w A n (ints xs)) :
    Calls Tryz.prog 127 #[.slice A n c] w fun e w' => ∃ A' c', e = .returned (.slice A' n c') ∧ MkI w w' A' n c' xs := by
  have hxl : xs.length = n := by have := ha.1; rwa [ints_length] at this
  cases A with
  | none =>
    have h0 : n = 0 := by
      rcases Nat.eq_zero_or_pos n with h | h
      · exact h
      · obtain ⟨g, o, e, _⟩ := ha.2 h; cases e
    subst h0
    have hxs : xs = [] := List.eq_nil_of_length_eq_zero hxl
    subst hxs
    clear ha hxl hn
    have hq := fun w : World => Lib.run_eql_slice_nil (P := Tryz.prog) w 22 2 none 0 c 0 0 Tryz.underlying22
    simp only [Option.isNone_none] at hq
    go_enter Tryz.func127, Tryz.ntmps127
    go_wp2
    go_ret
    exact ⟨none, 0, rfl, Mk.nil (Below.refl _ _)⟩
  | some p =>
    have hM0 := Mk.lit (E := 2) (Below.refl w.heap.size w) #[] (by simp)
    obtain ⟨i, hi, h1, h2, h3⟩ := info_parts info_i
    obtain ⟨b1, b2⟩ := bound_of (Nat.le_trans hn (by decide))
    clear b1
    have HB := Lib.hid b2
    clear b2
    have hnews : ∀ (j : Nat) (u : Value), (ints xs)[j]? = some u → (w.alloc (.cells #[] 2)).cell? (p.add j) = some u := fun j u hu => by
      have hj : j < n := by have := (List.getElem?_eq_some_iff.1 hu).1; rw [ints_length] at this; omega
      obtain ⟨g, o, e, hc⟩ := (ha.below ((Below.refl _ w).alloc (Nat.le_refl _) (.cells #[] 2))).2 (by omega)
      injection e with e; subst e
      rw [Addr.add_lit]
      exact hc j u hu
    have Hx := Lib.hid hxl
    have HN := Lib.hid hnews
    have HI := Lib.hid hi
    have H1 := Lib.hid h1
    have H2 := Lib.hid h2
    have H3 := Lib.hid h3
    clear hnews hi h1 h2 h3 hxl
    have hq := fun w : World => Lib.run_eql_slice_nil (P := Tryz.prog) w 22 2 (some p) n c 0 0 Tryz.underlying22
    simp only [Option.isNone_some] at hq
    go_enter Tryz.func127, Tryz.ntmps127
    go_wp2_with (at_builtin; refine wpList_append_own_at (w.alloc (.cells #[] 2)) rfl _ _ 22 rfl w.heap.size 2 i _ 1 8 Tryz.underlying22 HI.out H1.out H2.out H3.out rfl (by omega) (.slice (some ⟨w.heap.size, 0, none⟩) 0 0) 0 [] rfl hM0.2 p n c (ints xs) rfl (by rw [ints_length, Hx.out, Nat.mul_one]) HN.out (by intro u hu; obtain ⟨y, _, rfl⟩ := List.mem_map.1 hu; rfl) (by simp only [maxLen]; omega) (by have := HB.out 8 (by omega); omega) (by simp) ?_; intro v' w' hown hg _ _)
    have hb' : Below w.heap.size w w' := hM0.1.grown hg (by simp) (fun k hk => (hM0.2.lt k hk).1)
    rw [Nat.zero_add, List.nil_append] at hown
    rcases hown.2 with ⟨rfl, h0⟩ | ⟨g, cap, cur, rfl, hr⟩
    · subst h0
      go_ret
      exact ⟨none, 0, rfl, hb', hown⟩
    · go_ret
      exact ⟨_, _, rfl, hb', hown⟩
/-- The blades of the grades that t tells turned to their negatives. -/
def sgnL (p : Int) (t : Nat → Bool) (xs : List Int) : List Int := tab xs.length fun i => if t (pc i) then (-(xs.getD i 0)) % p else xs.getD i 0
theorem sgnL_len (p : Int) (t : Nat → Bool) (xs : List Int) : (sgnL p t xs).length = xs.length := tab_len _ _
theorem sgnL_nums {p : Int} (hp : 0 < p) (t : Nat → Bool) {xs : List Int} (h : NumsL p xs) : NumsL p (sgnL p t xs) := NumsL.tab fun i _ => by
  split
  · exact ⟨Int.emod_nonneg _ (by omega), Int.emod_lt_of_pos _ hp⟩
  · exact h.getD hp i
/-- The first k places of f, then those of xs. -/
def mixL (f : Nat → Int) (xs : List Int) (k : Nat) : List Int := tab xs.length fun i => if i < k then f i else xs.getD i 0
theorem mixL_len (f : Nat → Int) (xs : List Int) (k : Nat) : (mixL f xs k).length = xs.length := tab_len _ _
theorem mixL_zero (f : Nat → Int) (xs : List Int) : mixL f xs 0 = xs := by
  refine Eq.trans (tab_congr fun i _ => ?_) (eq_tab 0 rfl).symm
  rw [if_neg (by omega)]
theorem mixL_all (f : Nat → Int) (xs : List Int) : mixL f xs xs.length = tab xs.length f := tab_congr fun _i hi => if_pos hi
theorem mixL_succ (f : Nat → Int) (xs : List Int) (k : Nat) (hk : k < xs.length) : mixL f xs (k + 1) = (mixL f xs k).set k (f k) := by
  apply list_ext_getD 0 (by rw [List.length_set, mixL_len, mixL_len])
  intro i hi
  rw [mixL_len] at hi
  rw [getD_set, mixL_len]
  unfold mixL
  rw [tab_getD hi, tab_getD hi]
  by_cases h : k = i
  · subst h; rw [if_pos (by omega), if_pos ⟨rfl, hk⟩]
  · rw [if_neg (c := k = i ∧ _) (fun hh => h hh.1)]
    by_cases h2 : i < k
    · rw [if_pos (by omega), if_pos h2]
    · rw [if_neg (by omega), if_neg h2]
theorem mixL_skip (f : Nat → Int) (xs : List Int) (k : Nat) (hf : f k = xs.getD k 0) : mixL f xs (k + 1) = mixL f xs k := by
  refine tab_congr fun i _ => ?_
  by_cases h : i < k
  · rw [if_pos (by omega), if_pos h]
  · by_cases h2 : i = k
    · subst h2; rw [if_pos (by omega), if_neg (by omega), hf]
    · rw [if_neg (by omega), if_neg h]
set_option maxHeartbeats 1600000 in
theorem signed_any (f : FuncId) (t : Nat → Bool) (hf : ∀ (k : Nat) (w : World), k ≤ 6 → Calls Tryz.prog f #[.int .i64 k] w fun e w' => e = .returned (.bool (t k)) ∧ w = w') (hcf : ∀ (args : Array Value) (w : World), (callFunc f args).run Tryz.prog w = .ok (.enter f args) w)
    (P : Int) (A : Option Addr) (n c : Nat) (X : Option Addr) (m cx : Nat) (xs : List Int) (w : World) (hp : 2 ≤ P) (hp2 : P ≤ 13) (hm : m ≤ 64) (hx : Rd w X m (ints xs)) (hxs : NumsL P xs) :
    Calls Tryz.prog 101 #[.agg #[.int .i64 P, .slice A n c], .slice X m cx, .func (.func f) #[] #[]] w fun e w' => ∃ A' c', e = .returned (.slice A' m c') ∧ MkI w w' A' m c' (sgnL P t xs) := by
  have hxl : xs.length = m := by have := hx.1; rwa [ints_length] at this
  have hB0 : Below w.heap.size w (w.alloc (.cells #[.int .i64 P, .slice A n c] 29)) := (Below.refl _ w).alloc (Nat.le_refl _) _
  have k0 : Blk (w.alloc (.cells #[.int .i64 P, .slice A n c] 29)) w.heap.size 29 #[.int .i64 P, .slice A n c] := Blk.new _ _ _
  have HX := Lib.hid hxl; clear hxl
  go_enter Tryz.func101, Tryz.ntmps101
  go_wp2_with fail
  refine (clone_any _ _ _ _ _ (by omega) (hx.below hB0)).mono ?_
  rintro e w1 ⟨A', c', rfl, hM1⟩
  have k1 := k0.below hM1.b k0.lt
  have hM := hM1.after hB0
  have hl0 : MkI w w1 A' m c' (mixL (fun i => if t (pc i) then (-(xs.getD i 0)) % P else xs.getD i 0) xs 0) := by rw [mixL_zero]; exact hM
  clear k0 hM1 hM hB0
  go_wp2_with fail
  go_loopw [8, 9, 14] (fun _ _ i wr => ∃ k : Nat, k ≤ m ∧ i = .int .i64 k ∧ MkI w wr A' m c' (mixL (fun i => if t (pc i) then (-(xs.getD i 0)) % P else xs.getD i 0) xs k) ∧ Blk wr w.heap.size 29 #[.int .i64 P, .slice A n c]) (fun _ _ i _ => m - (intOf i).toNat)
  case atStart => exact ⟨0, by omega, rfl, hl0, k1⟩
  case round =>
    obtain ⟨k, hk, rfl, hM, hk2⟩ := hrel
    clear hl0 k1
    by_cases hlt : k < m
    · obtain ⟨gx, ox, rfl, hxk, hcx⟩ := (hx.below hM.b).int hlt
      obtain ⟨x1, x2⟩ := hxs _ (List.getElem_mem hxk)
      have hpk := pc_le 6 k (by omega)
      rcases hM.2.form with ⟨_, h0⟩ | ⟨g, rfl, hg, hgl⟩
      · omega
      have HNE : Hid (g ≠ w.heap.size) := Lib.hid (fun e => by
        have hne := hM.2.ne_blk hk2 (by decide)
        simp [Value.ownBlock, e] at hne)
      cases ht : t (pc k)
      · have HM := Lib.hid (mixL_skip (fun i => if t (pc i) then (-(xs.getD i 0)) % P else xs.getD i 0) xs k (by simp [ht]) ▸ hM)
        have HT := Lib.hid ht
        clear hM ht
        go_wp2_with (go_at_call 41; refine (gradeOf_any k _ (by omega)).mono ?_; rintro e w' ⟨rfl, rfl⟩)
        refine (hf (pc k) _ hpk).mono ?_
        rintro e w' ⟨rfl, rfl⟩
        rw [HT.out]
        go_wp2
        go_roundw
        case rel => exact ⟨k + 1, by omega, by go_num, HM.out, hk2⟩
        case measure => simp [intOf]; omega
      · have hset := (hM.set k (.int .i64 ((-xs[k]) % P))).1
        have hfk : (if t (pc k) = true then (-(xs.getD k 0)) % P else xs.getD k 0) = (-xs[k]) % P := by rw [if_pos ht, getD_of_lt 0 hxk]
        rw [ints_set] at hset
        have HS : Hid (MkI w (wr.setCell ⟨g, k, none⟩ (.int .i64 ((-xs[k]) % P))) (some ⟨g, 0, none⟩) m c' (mixL (fun i => if t (pc i) then (-(xs.getD i 0)) % P else xs.getD i 0) xs (k + 1))) := Lib.hid (by rw [mixL_succ _ _ _ (by rw [HX.out]; exact hlt), hfk]; exact hset)
        have hAt : Hid (∀ w', MkI w w' (some ⟨g, 0, none⟩) m c' (mixL (fun i => if t (pc i) then (-(xs.getD i 0)) % P else xs.getD i 0) xs k) → w'.cell? ⟨g, k, none⟩ = some (.int .i64 ((mixL (fun i => if t (pc i) then (-(xs.getD i 0)) % P else xs.getD i 0) xs k).getD k 0)) ∧ w'.frozen? ⟨g, k, none⟩ = false) :=
          Lib.hid (fun w' h => mkI_at h hlt)
        have HT := Lib.hid ht
        have HM := Lib.hid hM
        clear hset hfk ht hM
        go_wp2_with (go_at_call 41; refine (gradeOf_any k _ (by omega)).mono ?_; rintro e w' ⟨rfl, rfl⟩)
        refine (hf (pc k) _ hpk).mono ?_
        rintro e w' ⟨rfl, rfl⟩
        rw [HT.out]
        obtain ⟨q0, q1⟩ := hk2.two
        go_wp2_with fail
        refine (field_any _ _ _ _ _).mono ?_
        rintro e w2 ⟨rfl, hb2⟩
        have hM2 := HM.out.below hb2
        have hk3 := hk2.below hb2 hk2.lt
        obtain ⟨hoc, hof⟩ := hAt.out _ hM2
        obtain ⟨v0, hv0⟩ : ∃ v, v = (mixL (fun i => if t (pc i) then (-(xs.getD i 0)) % P else xs.getD i 0) xs k).getD k 0 := ⟨_, rfl⟩
        rw [← hv0] at hoc
        have hset := (hM2.set k (.int .i64 ((-xs[k]) % P))).1
        have hfk : (if t (pc k) = true then (-(xs.getD k 0)) % P else xs.getD k 0) = (-xs[k]) % P := by rw [if_pos HT.out, getD_of_lt 0 hxk]
        rw [ints_set] at hset
        have HS2 : Hid (MkI w (w2.setCell ⟨g, k, none⟩ (.int .i64 ((-xs[k]) % P))) (some ⟨g, 0, none⟩) m c' (mixL (fun i => if t (pc i) then (-(xs.getD i 0)) % P else xs.getD i 0) xs (k + 1))) := Lib.hid (by rw [mixL_succ _ _ _ (by rw [HX.out]; exact hlt), hfk]; exact hset)
        have HKN := Lib.hid (hk3.far (p := ⟨g, k, none⟩) HNE.out.symm (.int .i64 ((-xs[k]) % P)))
        clear hv0 HS HM hM2 hk3 hk2 q0 q1 hset hfk
        go_wp2_with (go_at_call 77; refine (num_any _ (-xs[k]) _ (by omega) hp2 (by omega) (by omega)).mono ?_; rintro e w' ⟨rfl, rfl⟩)
        go_roundw
        case rel => exact ⟨k + 1, by omega, by go_num, HS2.out, HKN.out⟩
        case measure => simp [intOf]; omega
    · obtain rfl : k = m := by omega
      have hM2 := hM
      rw [← HX.out, mixL_all, HX.out] at hM2
      go_wp2
      go_ret
      exact ⟨_, _, rfl, by unfold sgnL; rw [HX.out]; exact hM2⟩
def revT (k : Nat) : Bool := k * (k - 1) / 2 % 2 == 1
def oddT (k : Nat) : Bool := k % 2 == 1
theorem rev_bool (k : Nat) (hk : k ≤ 1000) : ((k : Int) * ((k : Int) - 1) / 2 % 2 == 1) = revT k := by
  unfold revT
  rw [Bool.eq_iff_iff]
  simp only [beq_iff_eq]
  rcases Nat.eq_zero_or_pos k with h | h
  · subst h; simp
  · have e : (k : Int) * ((k : Int) - 1) = ((k * (k - 1) : Nat) : Int) := by rw [Int.natCast_mul]; congr 1; omega
    rw [e]; omega
set_option maxHeartbeats 400000 in
theorem reverse1_tells (k : Nat) (w : World) (hk : k ≤ 6) : Calls Tryz.prog 102 #[.int .i64 k] w fun e w' => e = .returned (.bool (revT k)) ∧ w = w' := by
  have hm : 0 ≤ (k : Int) * ((k : Int) - 1) ∧ (k : Int) * ((k : Int) - 1) ≤ 1000000 := by
    rcases Nat.eq_zero_or_pos k with h | h
    · subst h; simp
    · have := mul_small (show (0 : Int) ≤ k by omega) (show (k : Int) ≤ 1000 by omega) (show (0 : Int) ≤ (k : Int) - 1 by omega) (show (k : Int) - 1 ≤ 1000 by omega)
      omega
  obtain ⟨m1, m2⟩ := hm
  go_enter Tryz.func102, Tryz.ntmps102
  go_wp2
  go_ret
  exact ⟨ret_bool (rev_bool k (by omega)), rfl⟩
set_option maxHeartbeats 400000 in
theorem involute1_tells (k : Nat) (w : World) (hk : k ≤ 6) : Calls Tryz.prog 103 #[.int .i64 k] w fun e w' => e = .returned (.bool (oddT k)) ∧ w = w' := by
  go_enter Tryz.func103, Tryz.ntmps103
  go_wp2
  go_ret
  refine ⟨ret_bool ?_, rfl⟩
  unfold oddT
  rw [Bool.eq_iff_iff]
  simp only [beq_iff_eq]
  omega
def revL (p : Int) (xs : List Int) : List Int := sgnL p revT xs
def invoL (p : Int) (xs : List Int) : List Int := sgnL p oddT xs
set_option maxRecDepth 8000 in
set_option maxHeartbeats 400000 in
theorem reverse_any (P : Int) (A : Option Addr) (n c : Nat) (X : Option Addr) (m cx : Nat) (xs : List Int) (w : World) (hp : 2 ≤ P) (hp2 : P ≤ 13) (hm : m ≤ 64) (hx : Rd w X m (ints xs)) (hxs : NumsL P xs) :
    Calls Tryz.prog 56 #[.agg #[.int .i64 P, .slice A n c], .slice X m cx] w fun e w' => ∃ A' c', e = .returned (.slice A' m c') ∧ MkI w w' A' m c' (revL P xs) := by
  have hB0 : Below w.heap.size w (w.alloc (.cells #[.int .i64 P, .slice A n c] 29)) := (Below.refl _ w).alloc (Nat.le_refl _) _
  have hcall := signed_any 102 revT reverse1_tells (fun _ _ => rfl) P A n c X m cx xs _ hp hp2 hm (hx.below hB0) hxs
  go_enter Tryz.func56, Tryz.ntmps56
  go_wp2_with (go_at_call 101; refine hcall.mono ?_; rintro e w1 ⟨A', c', rfl, hM⟩)
  go_ret
  exact ⟨_, _, rfl, hM.after hB0⟩
set_option maxRecDepth 8000 in
set_option maxHeartbeats 400000 in
theorem involute_any (P : Int) (A : Option Addr) (n c : Nat) (X : Option Addr) (m cx : Nat) (xs : List Int) (w : World) (hp : 2 ≤ P) (hp2 : P ≤ 13) (hm : m ≤ 64) (hx : Rd w X m (ints xs)) (hxs : NumsL P xs) :
    Calls Tryz.prog 58 #[.agg #[.int .i64 P, .slice A n c], .slice X m cx] w fun e w' => ∃ A' c', e = .returned (.slice A' m c') ∧ MkI w w' A' m c' (invoL P xs) := by
  have hB0 : Below w.heap.size w (w.alloc (.cells #[.int .i64 P, .slice A n c] 29)) := (Below.refl _ w).alloc (Nat.le_refl _) _
  have hcall := signed_any 103 oddT involute1_tells (fun _ _ => rfl) P A n c X m cx xs _ hp hp2 hm (hx.below hB0) hxs
  go_enter Tryz.func58, Tryz.ntmps58
  go_wp2_with (go_at_call 101; refine hcall.mono ?_; rintro e w1 ⟨A', c', rfl, hM⟩)
  go_ret
  exact ⟨_, _, rfl, hM.after hB0⟩
end Go.Proofs.YtklnkhkfcalndaaGreat
namespace Go.Proofs.YtklnkhkfcalndaaGreat
open Go.RowKit
set_option maxHeartbeats 1600000 in
set_option maxRecDepth 8000 in
theorem l04Signs_rev (P : Int) (A : Option Addr) (n c : Nat) (X : Option Addr) (m cx : Nat) (xs : List Int) (w : World) (hp : 2 ≤ P) (hp2 : P ≤ 13) (hm : m ≤ 64) (hx : Rd w X m (ints xs)) (hxs : NumsL P xs) :
    Calls Tryz.prog 113 #[.agg #[.int .i64 P, .slice A n c], .slice X m cx, .bool true, .bool false] w fun e w' => ∃ A' c', e = .returned (.slice A' m c') ∧ MkI w w' A' m c' (sgnL P revT xs) := by
  have hxl : xs.length = m := by have := hx.1; rwa [ints_length] at this
  have hB0 : Below w.heap.size w (w.alloc (.cells #[.int .i64 P, .slice A n c] 29)) := (Below.refl _ w).alloc (Nat.le_refl _) _
  have k0 : Blk (w.alloc (.cells #[.int .i64 P, .slice A n c] 29)) w.heap.size 29 #[.int .i64 P, .slice A n c] := Blk.new _ _ _
  have hM0 := Mk.lit (E := 2) hB0 #[] (by simp)
  have hM1 : MkI w ((w.alloc (.cells #[.int .i64 P, .slice A n c] 29)).alloc (.cells #[] 2)) (some ⟨w.heap.size + 1, 0, none⟩) 0 0 [] := by simpa [MkI, ints] using hM0
  have k1 := k0.alloc (.cells #[] 2)
  have HX := Lib.hid hxl; clear hxl
  go_enter Tryz.func113, Tryz.ntmps113
  go_wp2
  clear hM0 hB0 k0
  obtain ⟨w1, hw1⟩ : ∃ W, W = (w.alloc (.cells #[.int .i64 P, .slice A n c] 29)).alloc (.cells #[] 2) := ⟨_, rfl⟩
  rw [← hw1] at hM1 k1 ⊢
  clear hw1
  go_loopw [9, 10, 11, 12] (fun o i _ _ wr => ∃ (k : Nat) (A' : Option Addr) (c' : Nat), k ≤ m ∧ i = .int .i64 k ∧ o = .slice A' k c' ∧ MkI w wr A' k c' (tab k fun i => if revT (pc i) then (-(xs.getD i 0)) % P else xs.getD i 0) ∧ Blk wr w.heap.size 29 #[.int .i64 P, .slice A n c]) (fun _ i _ _ _ => m - (intOf i).toNat)
  case atStart => exact ⟨0, _, _, by omega, rfl, rfl, by simpa [tab] using hM1, k1⟩
  case round =>
    obtain ⟨k, A', c', hk, rfl, rfl, hM, hk2⟩ := hrel
    clear hM1 k1
    by_cases hlt : k < m
    · obtain ⟨gx, ox, rfl, hxk, hcx⟩ := (hx.below hM.b).int hlt
      obtain ⟨x1, x2⟩ := hxs _ (List.getElem_mem hxk)
      have hpk := pc_le 6 k (by omega)
      have hxd := getD_of_lt 0 hxk
      have HXD := Lib.hid hxd; clear hxd
      have hmm : 0 ≤ ((pc k : Nat) : Int) * (((pc k : Nat) : Int) - 1) ∧ ((pc k : Nat) : Int) * (((pc k : Nat) : Int) - 1) ≤ 1000000 := by
        rcases Nat.eq_zero_or_pos (pc k) with h | h
        · rw [h]; simp
        · have := mul_small (show (0 : Int) ≤ (pc k : Nat) by omega) (show ((pc k : Nat) : Int) ≤ 1000 by omega) (show (0 : Int) ≤ ((pc k : Nat) : Int) - 1 by omega) (show ((pc k : Nat) : Int) - 1 ≤ 1000 by omega)
          omega
      obtain ⟨m1, m2⟩ := hmm
      have hbT := rev_bool (pc k) (by omega)
      cases ht : revT (pc k)
      · rw [ht] at hbT
        have HV : Hid ((tab (k + 1) fun i => if revT (pc i) then (-(xs.getD i 0)) % P else xs.getD i 0) = (tab k fun i => if revT (pc i) then (-(xs.getD i 0)) % P else xs.getD i 0) ++ [xs[k]]) := Lib.hid (by rw [tab_succ, if_neg (by rw [ht]; decide), HXD.out])
        have HM := Lib.hid hM
        clear hM ht
        go_wp2_with (first
          | (go_at_call 30; refine (l04Grade_any k _ (by omega)).mono ?_; rintro e w' ⟨rfl, rfl⟩)
          | (at_builtin; refine wpList_app1 w _ 22 2 _ _ Tryz.underlying22 info_i rfl (by omega) rfl _ _ rfl A' k c' _ _ HM.out (by omega) rfl rfl rfl ?_; intro A2 c2 w2 hM2 hgr _))
        have hne := HM.out.2.ne_blk hk2 (by decide)
        have hk3 := hk2.grown hgr hne
        go_roundw
        case rel => exact ⟨k + 1, A2, c2, by omega, by go_num, rfl, by rw [HV.out]; simpa [MkI, ints] using hM2, hk3⟩
        case measure => simp [intOf]; omega
      · rw [ht] at hbT
        have HV : Hid ((tab (k + 1) fun i => if revT (pc i) then (-(xs.getD i 0)) % P else xs.getD i 0) = (tab k fun i => if revT (pc i) then (-(xs.getD i 0)) % P else xs.getD i 0) ++ [(-xs[k]) % P]) := Lib.hid (by rw [tab_succ, if_pos ht, HXD.out])
        clear ht
        have W1 := i64_fit (P - xs[k]) (by omega) (by omega)
        have W2 : (P - xs[k]).tmod P = (-xs[k]) % P := by rw [Int.tmod_eq_emod_of_nonneg (by omega), show P - xs[k] = -xs[k] + P by omega, Int.add_emod_right]
        have i1 : (0 : Int) ≤ (k : Int) := by omega
        have hP0 : ¬ P = 0 := by omega
        have i2 : (k : Int) < (m : Int) := by omega
        go_wp2_with (go_at_call 30; refine (l04Grade_any k _ (by omega)).mono ?_; rintro e w' ⟨rfl, rfl⟩)
        go_wp2
        refine wp_obs 12 [[], [], [1], [], [], [3, 4], [3, 4, 5], [1, 2, 3, 4, 5, 6], [], [8], [1, 2, 3, 4, 5, 6, 7, 8, 9], [1, 2, 3, 4, 5, 6, 7, 8, 9, 10], [0, 1, 2, 3, 4, 5, 6, 7, 8, 9, 10, 11], [0, 1, 2, 3, 4, 5, 6, 7, 8, 9, 10, 11, 12]] [VIs (.slice A' k c'), VIs (.pointer (some ⟨w.heap.size, 0, none⟩)), VIs (.int .i64 P), VIs (.slice (some ⟨gx, ox, none⟩) m cx), VIs (.int .i64 k), VIs (.pointer (some ⟨gx, ox + k, none⟩)), VIs (.int .i64 xs[k]), VIs (.int .i64 (P - xs[k])), VIs (.pointer (some ⟨w.heap.size, 0, none⟩)), VIs (.int .i64 P), VIs (.int .i64 ((-xs[k]) % P)), VBs 2 #[.int .i64 ((-xs[k]) % P)]] (fun w' => Blk w' w.heap.size 29 #[.int .i64 P, .slice A n c] ∧ MkI w w' A' k c' (tab k fun i => if revT (pc i) then (-(xs.getD i 0)) % P else xs.getD i 0) ∧ w'.cell? ⟨gx, ox + k, none⟩ = some (.int .i64 xs[k])) (by kernel_rfl) (by kernel_rfl) (fun _ _ h hb => ⟨h.1.below hb h.1.lt, h.2.1.below hb, (hb.cell (World.block_lt_of_cell? _ _ h.2.2)).trans h.2.2⟩) (⟨hk2.drew, hM.drew, hcx⟩) (fun x => ?_)
        refine obs_step (Eq.trans (by simp only [List.getElem?_toArray, List.getElem?_cons_zero]; exact rfl) rfl) rfl (fun w' hS hV K hK => ?_) ?_
        · obtain ⟨q0, q1⟩ := hS.1.two; have q2 := hS.2.2
          go_simp
          exact hK.out _ _ _ rfl rfl rfl (Below.refl _ _)
        simp only [List.setIfInBounds_toArray, List.set_cons_zero, List.set_cons_succ]
        refine obs_step (Eq.trans (by simp only [List.getElem?_toArray, List.getElem?_cons_succ, List.getElem?_cons_zero]; exact rfl) rfl) rfl (fun w' hS hV K hK => ?_) ?_
        · obtain ⟨q0, q1⟩ := hS.1.two; have q2 := hS.2.2
          go_simp
          exact hK.out _ _ _ rfl rfl rfl (Below.refl _ _)
        simp only [List.setIfInBounds_toArray, List.set_cons_zero, List.set_cons_succ]
        refine obs_step (Eq.trans (by simp only [List.getElem?_toArray, List.getElem?_cons_succ, List.getElem?_cons_zero]; exact rfl) rfl) rfl (fun w' hS hV K hK => ?_) ?_
        · simp only [List.mem_cons, List.not_mem_nil, or_false, forall_eq, List.getD_cons_succ, List.getD_cons_zero, VIs, VAny, VBs] at hV
          obtain e1 := hV
          obtain ⟨q0, q1⟩ := hS.1.two; have q2 := hS.2.2
          go_simp
          exact hK.out _ _ _ rfl rfl rfl (Below.refl _ _)
        simp only [List.setIfInBounds_toArray, List.set_cons_zero, List.set_cons_succ]
        refine obs_step (Eq.trans (by simp only [List.getElem?_toArray, List.getElem?_cons_succ, List.getElem?_cons_zero]; exact rfl) rfl) rfl (fun w' hS hV K hK => ?_) ?_
        · obtain ⟨q0, q1⟩ := hS.1.two; have q2 := hS.2.2
          go_simp
          exact hK.out _ _ _ rfl rfl rfl (Below.refl _ _)
        simp only [List.setIfInBounds_toArray, List.set_cons_zero, List.set_cons_succ]
        refine obs_step (Eq.trans (by simp only [List.getElem?_toArray, List.getElem?_cons_succ, List.getElem?_cons_zero]; exact rfl) rfl) rfl (fun w' hS hV K hK => ?_) ?_
        · obtain ⟨q0, q1⟩ := hS.1.two; have q2 := hS.2.2
          go_simp
          exact hK.out _ _ _ rfl rfl rfl (Below.refl _ _)
        simp only [List.setIfInBounds_toArray, List.set_cons_zero, List.set_cons_succ]
        refine obs_step (Eq.trans (by simp only [List.getElem?_toArray, List.getElem?_cons_succ, List.getElem?_cons_zero]; exact rfl) rfl) rfl (fun w' hS hV K hK => ?_) ?_
        · simp only [List.mem_cons, List.not_mem_nil, or_false, forall_eq_or_imp, forall_eq, List.getD_cons_succ, List.getD_cons_zero, VIs, VAny, VBs] at hV
          obtain ⟨e3, e4⟩ := hV
          obtain ⟨q0, q1⟩ := hS.1.two; have q2 := hS.2.2
          go_simp
          exact hK.out _ _ _ rfl rfl rfl (Below.refl _ _)
        simp only [List.setIfInBounds_toArray, List.set_cons_zero, List.set_cons_succ]
        refine obs_step (Eq.trans (by simp only [List.getElem?_toArray, List.getElem?_cons_succ, List.getElem?_cons_zero]; exact rfl) rfl) rfl (fun w' hS hV K hK => ?_) ?_
        · simp only [List.mem_cons, List.not_mem_nil, or_false, forall_eq_or_imp, forall_eq, List.getD_cons_succ, List.getD_cons_zero, VIs, VAny, VBs] at hV
          obtain ⟨e3, e4, e5⟩ := hV
          obtain ⟨q0, q1⟩ := hS.1.two; have q2 := hS.2.2
          go_simp
          exact hK.out _ _ _ rfl rfl rfl (Below.refl _ _)
        simp only [List.setIfInBounds_toArray, List.set_cons_zero, List.set_cons_succ]
        refine obs_step (Eq.trans (by simp only [List.getElem?_toArray, List.getElem?_cons_succ, List.getElem?_cons_zero]; exact rfl) rfl) rfl (fun w' hS hV K hK => ?_) ?_
        · simp only [List.mem_cons, List.not_mem_nil, or_false, forall_eq_or_imp, forall_eq, List.getD_cons_succ, List.getD_cons_zero, VIs, VAny, VBs] at hV
          obtain ⟨e1, e2, e3, e4, e5, e6⟩ := hV
          obtain ⟨q0, q1⟩ := hS.1.two; have q2 := hS.2.2
          go_simp
          exact hK.out _ _ _ rfl rfl rfl (Below.refl _ _)
        simp only [List.setIfInBounds_toArray, List.set_cons_zero, List.set_cons_succ]
        refine obs_step (Eq.trans (by simp only [List.getElem?_toArray, List.getElem?_cons_succ, List.getElem?_cons_zero]; exact rfl) rfl) rfl (fun w' hS hV K hK => ?_) ?_
        · obtain ⟨q0, q1⟩ := hS.1.two; have q2 := hS.2.2
          go_simp
          exact hK.out _ _ _ rfl rfl rfl (Below.refl _ _)
        simp only [List.setIfInBounds_toArray, List.set_cons_zero, List.set_cons_succ]
        refine obs_step (Eq.trans (by simp only [List.getElem?_toArray, List.getElem?_cons_succ, List.getElem?_cons_zero]; exact rfl) rfl) rfl (fun w' hS hV K hK => ?_) ?_
        · simp only [List.mem_cons, List.not_mem_nil, or_false, forall_eq, List.getD_cons_succ, List.getD_cons_zero, VIs, VAny, VBs] at hV
          obtain e8 := hV
          obtain ⟨q0, q1⟩ := hS.1.two; have q2 := hS.2.2
          go_simp
          exact hK.out _ _ _ rfl rfl rfl (Below.refl _ _)
        simp only [List.setIfInBounds_toArray, List.set_cons_zero, List.set_cons_succ]
        refine obs_step (Eq.trans (by simp only [List.getElem?_toArray, List.getElem?_cons_succ, List.getElem?_cons_zero]; exact rfl) rfl) rfl (fun w' hS hV K hK => ?_) ?_
        · simp only [List.mem_cons, List.not_mem_nil, or_false, forall_eq_or_imp, forall_eq, List.getD_cons_succ, List.getD_cons_zero, VIs, VAny, VBs] at hV
          obtain ⟨e1, e2, e3, e4, e5, e6, e7, e8, e9⟩ := hV
          obtain ⟨q0, q1⟩ := hS.1.two; have q2 := hS.2.2
          go_simp
          exact hK.out _ _ _ rfl rfl rfl (Below.refl _ _)
        simp only [List.setIfInBounds_toArray, List.set_cons_zero, List.set_cons_succ]
        refine obs_step (Eq.trans (by simp only [List.getElem?_toArray, List.getElem?_cons_succ, List.getElem?_cons_zero]; exact rfl) rfl) rfl (fun w' hS hV K hK => ?_) ?_
        · simp only [List.mem_cons, List.not_mem_nil, or_false, forall_eq_or_imp, forall_eq, List.getD_cons_succ, List.getD_cons_zero, VIs, VAny, VBs] at hV
          obtain ⟨e1, e2, e3, e4, e5, e6, e7, e8, e9, e10⟩ := hV
          obtain ⟨q0, q1⟩ := hS.1.two; have q2 := hS.2.2
          go_simp
          exact hK.out _ _ _ rfl rfl ⟨_, rfl, Blk.new _ _ _⟩ ((Below.refl _ _).alloc (Nat.le_refl _) _)
        simp only [List.setIfInBounds_toArray, List.set_cons_zero, List.set_cons_succ]
        refine fun w' hS hV => ?_
        have hV := fun i hi => hV i (List.mem_range.1 hi)
        simp only [List.range, List.range.loop, List.mem_cons, List.not_mem_nil, or_false, forall_eq_or_imp, forall_eq, List.getD_cons_succ, List.getD_cons_zero, VIs, VAny, VBs] at hV
        obtain ⟨e0, e1, e2, e3, e4, e5, e6, e7, e8, e9, e10, ⟨b11, e11, h11⟩⟩ := hV
        simp only [e0, e1, e2, e3, e4, e5, e6, e7, e8, e9, e10, e11]
        clear e0 e1 e2 e3 e4 e5 e6 e7 e8 e9 e10 e11
        obtain ⟨s1, s2, s3⟩ := hS
        refine any_plain (j := 12) (by kernel_rfl) (Eq.trans (by simp only [List.getElem?_toArray, List.getElem?_cons_succ, List.getElem?_cons_zero]; exact rfl) rfl) rfl (fun K hK => ?_)
        refine wp_app1 w w' 22 2 _ _ Tryz.underlying22 info_i rfl (by omega) _ _ rfl A' k c' _ _ s2 (by omega) rfl _ h11 (by rfl) (by rfl) ?_
        intro A2 c2 w2 hM2 hgr
        refine hK.out _ _ ?_
        have hne := s2.2.ne_blk s1 (by decide)
        have hk3 := s1.grown hgr hne
        simp only [Act.put, List.setIfInBounds_toArray, List.set_cons_zero, List.set_cons_succ]
        refine any_one (j := 13) (by kernel_rfl) (Eq.trans (by simp only [List.getElem?_toArray, List.getElem?_cons_succ, List.getElem?_cons_zero]; exact rfl) rfl) (fun K hK => ?_)
        go_simp
        refine hK.out _ _ (wpAny_done (by kernel_rfl) ?_ _)
        clear W1 W2 s2 s3 hM
        go_wp2
        go_roundw
        case rel => exact ⟨k + 1, A2, c2, by omega, by go_num, rfl, by rw [HV.out]; simpa [MkI, ints] using hM2, hk3⟩
        case measure => simp [intOf]; omega
    · obtain rfl : k = m := by omega
      go_wp2
      go_ret
      exact ⟨_, _, rfl, by unfold sgnL; rw [HX.out]; exact hM⟩
set_option maxHeartbeats 1600000 in
set_option maxRecDepth 8000 in
theorem l04Signs_inv (P : Int) (A : Option Addr) (n c : Nat) (X : Option Addr) (m cx : Nat) (xs : List Int) (w : World) (hp : 2 ≤ P) (hp2 : P ≤ 13) (hm : m ≤ 64) (hx : Rd w X m (ints xs)) (hxs : NumsL P xs) :
    Calls Tryz.prog 113 #[.agg #[.int .i64 P, .slice A n c], .slice X m cx, .bool false, .bool true] w fun e w' => ∃ A' c', e = .returned (.slice A' m c') ∧ MkI w w' A' m c' (sgnL P oddT xs) := by
  have hxl : xs.length = m := by have := hx.1; rwa [ints_length] at this
  have hB0 : Below w.heap.size w (w.alloc (.cells #[.int .i64 P, .slice A n c] 29)) := (Below.refl _ w).alloc (Nat.le_refl _) _
  have k0 : Blk (w.alloc (.cells #[.int .i64 P, .slice A n c] 29)) w.heap.size 29 #[.int .i64 P, .slice A n c] := Blk.new _ _ _
  have hM0 := Mk.lit (E := 2) hB0 #[] (by simp)
  have hM1 : MkI w ((w.alloc (.cells #[.int .i64 P, .slice A n c] 29)).alloc (.cells #[] 2)) (some ⟨w.heap.size + 1, 0, none⟩) 0 0 [] := by simpa [MkI, ints] using hM0
  have k1 := k0.alloc (.cells #[] 2)
  have HX := Lib.hid hxl; clear hxl
  go_enter Tryz.func113, Tryz.ntmps113
  go_wp2
  clear hM0 hB0 k0
  obtain ⟨w1, hw1⟩ : ∃ W, W = (w.alloc (.cells #[.int .i64 P, .slice A n c] 29)).alloc (.cells #[] 2) := ⟨_, rfl⟩
  rw [← hw1] at hM1 k1 ⊢
  clear hw1
  go_loopw [9, 10, 11, 12] (fun o i _ _ wr => ∃ (k : Nat) (A' : Option Addr) (c' : Nat), k ≤ m ∧ i = .int .i64 k ∧ o = .slice A' k c' ∧ MkI w wr A' k c' (tab k fun i => if oddT (pc i) then (-(xs.getD i 0)) % P else xs.getD i 0) ∧ Blk wr w.heap.size 29 #[.int .i64 P, .slice A n c]) (fun _ i _ _ _ => m - (intOf i).toNat)
  case atStart => exact ⟨0, _, _, by omega, rfl, rfl, by simpa [tab] using hM1, k1⟩
  case round =>
    obtain ⟨k, A', c', hk, rfl, rfl, hM, hk2⟩ := hrel
    clear hM1 k1
    by_cases hlt : k < m
    · obtain ⟨gx, ox, rfl, hxk, hcx⟩ := (hx.below hM.b).int hlt
      obtain ⟨x1, x2⟩ := hxs _ (List.getElem_mem hxk)
      have hpk := pc_le 6 k (by omega)
      have hxd := getD_of_lt 0 hxk
      have HXD := Lib.hid hxd; clear hxd
      have hbT : (((pc k : Nat) : Int) % 2 == 1) = oddT (pc k) := by
        unfold oddT
        rw [Bool.eq_iff_iff]
        simp only [beq_iff_eq]
        omega
      cases ht : oddT (pc k)
      · rw [ht] at hbT
        have HV : Hid ((tab (k + 1) fun i => if oddT (pc i) then (-(xs.getD i 0)) % P else xs.getD i 0) = (tab k fun i => if oddT (pc i) then (-(xs.getD i 0)) % P else xs.getD i 0) ++ [xs[k]]) := Lib.hid (by rw [tab_succ, if_neg (by rw [ht]; decide), HXD.out])
        have HM := Lib.hid hM
        clear hM ht
        go_wp2_with (first
          | (go_at_call 30; refine (l04Grade_any k _ (by omega)).mono ?_; rintro e w' ⟨rfl, rfl⟩)
          | (at_builtin; refine wpList_app1 w _ 22 2 _ _ Tryz.underlying22 info_i rfl (by omega) rfl _ _ rfl A' k c' _ _ HM.out (by omega) rfl rfl rfl ?_; intro A2 c2 w2 hM2 hgr _))
        have hne := HM.out.2.ne_blk hk2 (by decide)
        have hk3 := hk2.grown hgr hne
        go_roundw
        case rel => exact ⟨k + 1, A2, c2, by omega, by go_num, rfl, by rw [HV.out]; simpa [MkI, ints] using hM2, hk3⟩
        case measure => simp [intOf]; omega
      · rw [ht] at hbT
        have HV : Hid ((tab (k + 1) fun i => if oddT (pc i) then (-(xs.getD i 0)) % P else xs.getD i 0) = (tab k fun i => if oddT (pc i) then (-(xs.getD i 0)) % P else xs.getD i 0) ++ [(-xs[k]) % P]) := Lib.hid (by rw [tab_succ, if_pos ht, HXD.out])
        clear ht
        have W1 := i64_fit (P - xs[k]) (by omega) (by omega)
        have W2 : (P - xs[k]).tmod P = (-xs[k]) % P := by rw [Int.tmod_eq_emod_of_nonneg (by omega), show P - xs[k] = -xs[k] + P by omega, Int.add_emod_right]
        have i1 : (0 : Int) ≤ (k : Int) := by omega
        have hP0 : ¬ P = 0 := by omega
        have i2 : (k : Int) < (m : Int) := by omega
        go_wp2_with (go_at_call 30; refine (l04Grade_any k _ (by omega)).mono ?_; rintro e w' ⟨rfl, rfl⟩)
        go_wp2
        refine wp_obs 12 [[], [], [1], [], [], [3, 4], [3, 4, 5], [1, 2, 3, 4, 5, 6], [], [8], [1, 2, 3, 4, 5, 6, 7, 8, 9], [1, 2, 3, 4, 5, 6, 7, 8, 9, 10], [0, 1, 2, 3, 4, 5, 6, 7, 8, 9, 10, 11], [0, 1, 2, 3, 4, 5, 6, 7, 8, 9, 10, 11, 12]] [VIs (.slice A' k c'), VIs (.pointer (some ⟨w.heap.size, 0, none⟩)), VIs (.int .i64 P), VIs (.slice (some ⟨gx, ox, none⟩) m cx), VIs (.int .i64 k), VIs (.pointer (some ⟨gx, ox + k, none⟩)), VIs (.int .i64 xs[k]), VIs (.int .i64 (P - xs[k])), VIs (.pointer (some ⟨w.heap.size, 0, none⟩)), VIs (.int .i64 P), VIs (.int .i64 ((-xs[k]) % P)), VBs 2 #[.int .i64 ((-xs[k]) % P)]] (fun w' => Blk w' w.heap.size 29 #[.int .i64 P, .slice A n c] ∧ MkI w w' A' k c' (tab k fun i => if oddT (pc i) then (-(xs.getD i 0)) % P else xs.getD i 0) ∧ w'.cell? ⟨gx, ox + k, none⟩ = some (.int .i64 xs[k])) (by kernel_rfl) (by kernel_rfl) (fun _ _ h hb => ⟨h.1.below hb h.1.lt, h.2.1.below hb, (hb.cell (World.block_lt_of_cell? _ _ h.2.2)).trans h.2.2⟩) (⟨hk2.drew, hM.drew, hcx⟩) (fun x => ?_)
        refine obs_step (Eq.trans (by simp only [List.getElem?_toArray, List.getElem?_cons_zero]; exact rfl) rfl) rfl (fun w' hS hV K hK => ?_) ?_
        · obtain ⟨q0, q1⟩ := hS.1.two; have q2 := hS.2.2
          go_simp
          exact hK.out _ _ _ rfl rfl rfl (Below.refl _ _)
        simp only [List.setIfInBounds_toArray, List.set_cons_zero, List.set_cons_succ]
        refine obs_step (Eq.trans (by simp only [List.getElem?_toArray, List.getElem?_cons_succ, List.getElem?_cons_zero]; exact rfl) rfl) rfl (fun w' hS hV K hK => ?_) ?_
        · obtain ⟨q0, q1⟩ := hS.1.two; have q2 := hS.2.2
          go_simp
          exact hK.out _ _ _ rfl rfl rfl (Below.refl _ _)
        simp only [List.setIfInBounds_toArray, List.set_cons_zero, List.set_cons_succ]
        refine obs_step (Eq.trans (by simp only [List.getElem?_toArray, List.getElem?_cons_succ, List.getElem?_cons_zero]; exact rfl) rfl) rfl (fun w' hS hV K hK => ?_) ?_
        · simp only [List.mem_cons, List.not_mem_nil, or_false, forall_eq, List.getD_cons_succ, List.getD_cons_zero, VIs, VAny, VBs] at hV
          obtain e1 := hV
          obtain ⟨q0, q1⟩ := hS.1.two; have q2 := hS.2.2
          go_simp
          exact hK.out _ _ _ rfl rfl rfl (Below.refl _ _)
        simp only [List.setIfInBounds_toArray, List.set_cons_zero, List.set_cons_succ]
        refine obs_step (Eq.trans (by simp only [List.getElem?_toArray, List.getElem?_cons_succ, List.getElem?_cons_zero]; exact rfl) rfl) rfl (fun w' hS hV K hK => ?_) ?_
        · obtain ⟨q0, q1⟩ := hS.1.two; have q2 := hS.2.2
          go_simp
          exact hK.out _ _ _ rfl rfl rfl (Below.refl _ _)
        simp only [List.setIfInBounds_toArray, List.set_cons_zero, List.set_cons_succ]
        refine obs_step (Eq.trans (by simp only [List.getElem?_toArray, List.getElem?_cons_succ, List.getElem?_cons_zero]; exact rfl) rfl) rfl (fun w' hS hV K hK => ?_) ?_
        · obtain ⟨q0, q1⟩ := hS.1.two; have q2 := hS.2.2
          go_simp
          exact hK.out _ _ _ rfl rfl rfl (Below.refl _ _)
        simp only [List.setIfInBounds_toArray, List.set_cons_zero, List.set_cons_succ]
        refine obs_step (Eq.trans (by simp only [List.getElem?_toArray, List.getElem?_cons_succ, List.getElem?_cons_zero]; exact rfl) rfl) rfl (fun w' hS hV K hK => ?_) ?_
        · simp only [List.mem_cons, List.not_mem_nil, or_false, forall_eq_or_imp, forall_eq, List.getD_cons_succ, List.getD_cons_zero, VIs, VAny, VBs] at hV
          obtain ⟨e3, e4⟩ := hV
          obtain ⟨q0, q1⟩ := hS.1.two; have q2 := hS.2.2
          go_simp
          exact hK.out _ _ _ rfl rfl rfl (Below.refl _ _)
        simp only [List.setIfInBounds_toArray, List.set_cons_zero, List.set_cons_succ]
        refine obs_step (Eq.trans (by simp only [List.getElem?_toArray, List.getElem?_cons_succ, List.getElem?_cons_zero]; exact rfl) rfl) rfl (fun w' hS hV K hK => ?_) ?_
        · simp only [List.mem_cons, List.not_mem_nil, or_false, forall_eq_or_imp, forall_eq, List.getD_cons_succ, List.getD_cons_zero, VIs, VAny, VBs] at hV
          obtain ⟨e3, e4, e5⟩ := hV
          obtain ⟨q0, q1⟩ := hS.1.two; have q2 := hS.2.2
          go_simp
          exact hK.out _ _ _ rfl rfl rfl (Below.refl _ _)
        simp only [List.setIfInBounds_toArray, List.set_cons_zero, List.set_cons_succ]
        refine obs_step (Eq.trans (by simp only [List.getElem?_toArray, List.getElem?_cons_succ, List.getElem?_cons_zero]; exact rfl) rfl) rfl (fun w' hS hV K hK => ?_) ?_
        · simp only [List.mem_cons, List.not_mem_nil, or_false, forall_eq_or_imp, forall_eq, List.getD_cons_succ, List.getD_cons_zero, VIs, VAny, VBs] at hV
          obtain ⟨e1, e2, e3, e4, e5, e6⟩ := hV
          obtain ⟨q0, q1⟩ := hS.1.two; have q2 := hS.2.2
          go_simp
          exact hK.out _ _ _ rfl rfl rfl (Below.refl _ _)
        simp only [List.setIfInBounds_toArray, List.set_cons_zero, List.set_cons_succ]
        refine obs_step (Eq.trans (by simp only [List.getElem?_toArray, List.getElem?_cons_succ, List.getElem?_cons_zero]; exact rfl) rfl) rfl (fun w' hS hV K hK => ?_) ?_
        · obtain ⟨q0, q1⟩ := hS.1.two; have q2 := hS.2.2
          go_simp
          exact hK.out _ _ _ rfl rfl rfl (Below.refl _ _)
        simp only [List.setIfInBounds_toArray, List.set_cons_zero, List.set_cons_succ]
        refine obs_step (Eq.trans (by simp only [List.getElem?_toArray, List.getElem?_cons_succ, List.getElem?_cons_zero]; exact rfl) rfl) rfl (fun w' hS hV K hK => ?_) ?_
        · simp only [List.mem_cons, List.not_mem_nil, or_false, forall_eq, List.getD_cons_succ, List.getD_cons_zero, VIs, VAny, VBs] at hV
          obtain e8 := hV
          obtain ⟨q0, q1⟩ := hS.1.two; have q2 := hS.2.2
          go_simp
          exact hK.out _ _ _ rfl rfl rfl (Below.refl _ _)
        simp only [List.setIfInBounds_toArray, List.set_cons_zero, List.set_cons_succ]
        refine obs_step (Eq.trans (by simp only [List.getElem?_toArray, List.getElem?_cons_succ, List.getElem?_cons_zero]; exact rfl) rfl) rfl (fun w' hS hV K hK => ?_) ?_
        · simp only [List.mem_cons, List.not_mem_nil, or_false, forall_eq_or_imp, forall_eq, List.getD_cons_succ, List.getD_cons_zero, VIs, VAny, VBs] at hV
          obtain ⟨e1, e2, e3, e4, e5, e6, e7, e8, e9⟩ := hV
          obtain ⟨q0, q1⟩ := hS.1.two; have q2 := hS.2.2
          go_simp
          exact hK.out _ _ _ rfl rfl rfl (Below.refl _ _)
        simp only [List.setIfInBounds_toArray, List.set_cons_zero, List.set_cons_succ]
        refine obs_step (Eq.trans (by simp only [List.getElem?_toArray, List.getElem?_cons_succ, List.getElem?_cons_zero]; exact rfl) rfl) rfl (fun w' hS hV K hK => ?_) ?_
        · simp only [List.mem_cons, List.not_mem_nil, or_false, forall_eq_or_imp, forall_eq, List.getD_cons_succ, List.getD_cons_zero, VIs, VAny, VBs] at hV
          obtain ⟨e1, e2, e3, e4, e5, e6, e7, e8, e9, e10⟩ := hV
          obtain ⟨q0, q1⟩ := hS.1.two; have q2 := hS.2.2
          go_simp
          exact hK.out _ _ _ rfl rfl ⟨_, rfl, Blk.new _ _ _⟩ ((Below.refl _ _).alloc (Nat.le_refl _) _)
        simp only [List.setIfInBounds_toArray, List.set_cons_zero, List.set_cons_succ]
        refine fun w' hS hV => ?_
        have hV := fun i hi => hV i (List.mem_range.1 hi)
        simp only [List.range, List.range.loop, List.mem_cons, List.not_mem_nil, or_false, forall_eq_or_imp, forall_eq, List.getD_cons_succ, List.getD_cons_zero, VIs, VAny, VBs] at hV
        obtain ⟨e0, e1, e2, e3, e4, e5, e6, e7, e8, e9, e10, ⟨b11, e11, h11⟩⟩ := hV
        simp only [e0, e1, e2, e3, e4, e5, e6, e7, e8, e9, e10, e11]
        clear e0 e1 e2 e3 e4 e5 e6 e7 e8 e9 e10 e11
        obtain ⟨s1, s2, s3⟩ := hS
        refine any_plain (j := 12) (by kernel_rfl) (Eq.trans (by simp only [List.getElem?_toArray, List.getElem?_cons_succ, List.getElem?_cons_zero]; exact rfl) rfl) rfl (fun K hK => ?_)
        refine wp_app1 w w' 22 2 _ _ Tryz.underlying22 info_i rfl (by omega) _ _ rfl A' k c' _ _ s2 (by omega) rfl _ h11 (by rfl) (by rfl) ?_
        intro A2 c2 w2 hM2 hgr
        refine hK.out _ _ ?_
        have hne := s2.2.ne_blk s1 (by decide)
        have hk3 := s1.grown hgr hne
        simp only [Act.put, List.setIfInBounds_toArray, List.set_cons_zero, List.set_cons_succ]
        refine any_one (j := 13) (by kernel_rfl) (Eq.trans (by simp only [List.getElem?_toArray, List.getElem?_cons_succ, List.getElem?_cons_zero]; exact rfl) rfl) (fun K hK => ?_)
        go_simp
        refine hK.out _ _ (wpAny_done (by kernel_rfl) ?_ _)
        clear W1 W2 s2 s3 hM
        go_wp2
        go_roundw
        case rel => exact ⟨k + 1, A2, c2, by omega, by go_num, rfl, by rw [HV.out]; simpa [MkI, ints] using hM2, hk3⟩
        case measure => simp [intOf]; omega
    · obtain rfl : k = m := by omega
      go_wp2
      go_ret
      exact ⟨_, _, rfl, by unfold sgnL; rw [HX.out]; exact hM⟩
set_option maxHeartbeats 400000 in
theorem l04Reverse_any (P : Int) (A : Option Addr) (n c : Nat) (X : Option Addr) (m cx : Nat) (xs : List Int) (w : World) (hp : 2 ≤ P) (hp2 : P ≤ 13) (hm : m ≤ 64) (hx : Rd w X m (ints xs)) (hxs : NumsL P xs) :
    Calls Tryz.prog 80 #[.agg #[.int .i64 P, .slice A n c], .slice X m cx] w fun e w' => ∃ A' c', e = .returned (.slice A' m c') ∧ MkI w w' A' m c' (revL P xs) := by
  have hB0 : Below w.heap.size w (w.alloc (.cells #[.int .i64 P, .slice A n c] 29)) := (Below.refl _ w).alloc (Nat.le_refl _) _
  have hcall := l04Signs_rev P A n c X m cx xs _ hp hp2 hm (hx.below hB0) hxs
  go_enter Tryz.func80, Tryz.ntmps80
  go_wp2_with (go_at_call 113; refine hcall.mono ?_; rintro e w1 ⟨A', c', rfl, hM⟩)
  go_ret
  exact ⟨_, _, rfl, hM.after hB0⟩
set_option maxHeartbeats 400000 in
theorem l04Involute_any (P : Int) (A : Option Addr) (n c : Nat) (X : Option Addr) (m cx : Nat) (xs : List Int) (w : World) (hp : 2 ≤ P) (hp2 : P ≤ 13) (hm : m ≤ 64) (hx : Rd w X m (ints xs)) (hxs : NumsL P xs) :
    Calls Tryz.prog 83 #[.agg #[.int .i64 P, .slice A n c], .slice X m cx] w fun e w' => ∃ A' c', e = .returned (.slice A' m c') ∧ MkI w w' A' m c' (invoL P xs) := by
  have hB0 : Below w.heap.size w (w.alloc (.cells #[.int .i64 P, .slice A n c] 29)) := (Below.refl _ w).alloc (Nat.le_refl _) _
  have hcall := l04Signs_inv P A n c X m cx xs _ hp hp2 hm (hx.below hB0) hxs
  go_enter Tryz.func83, Tryz.ntmps83
  go_wp2_with (go_at_call 113; refine hcall.mono ?_; rintro e w1 ⟨A', c', rfl, hM⟩)
  go_ret
  exact ⟨_, _, rfl, hM.after hB0⟩
end Go.Proofs.YtklnkhkfcalndaaGreat
