/-
  LawFnCentralizers: part 6 of the texts that the proof needs. No condition.
-/
import Derived.Test.YtggigolkncckoaaGreatP5
namespace Go.Proofs.YtggigolkncckoaaGreat
open Go.RowKit
def MkO (w0 w : World) (A : Option Addr) (n c : Nat) (xss : List (List Int)) : Prop := ∃ rows, Mk w0 w 24 A n c rows ∧ rows.length = xss.length ∧
  ∀ (k : Nat) (h : k < xss.length), ∃ A' c', rows[k]? = some (.slice A' xss[k].length c') ∧ Own w 0 2 A' xss[k].length c' (ints xss[k])
theorem MkII.o {w0 w : World} {A : Option Addr} {n c : Nat} {xss : List (List Int)} (h : MkII w0 w A n c xss) : MkO w0 w A n c xss := by
  obtain ⟨rows, hm, hn⟩ := h
  exact ⟨rows, hm, hn.len, fun k hk => by obtain ⟨A', c', e, ho⟩ := hn.row k hk; exact ⟨A', c', e, ho.base (Nat.zero_le _)⟩⟩
theorem MkO.rd {w0 w : World} {A : Option Addr} {n c : Nat} {xss : List (List Int)} (h : MkO w0 w A n c xss) : RdII w A n xss := by
  obtain ⟨rows, hm, hl, hk⟩ := h
  exact ⟨rows, hm.rd, hl, fun k hlt => by obtain ⟨A', c', e, ho⟩ := hk k hlt; exact ⟨A', c', e, ho.rd, ho.cap⟩⟩
theorem MkO.b {w0 w : World} {A : Option Addr} {n c : Nat} {xss : List (List Int)} (h : MkO w0 w A n c xss) : Below w0.heap.size w0 w := by
  obtain ⟨_, hm, _⟩ := h; exact hm.1
theorem MkO.below {w0 w w' : World} {A : Option Addr} {n c : Nat} {xss : List (List Int)} (h : MkO w0 w A n c xss) (hb : Below w.heap.size w w') : MkO w0 w' A n c xss := by
  obtain ⟨rows, hm, hl, hk⟩ := h
  exact ⟨rows, hm.below hb, hl, fun k hlt => by obtain ⟨A', c', e, ho⟩ := hk k hlt; exact ⟨A', c', e, ho.below hb⟩⟩
theorem MkO.after {w0 w1 w : World} {A : Option Addr} {n c : Nat} {xss : List (List Int)} (h : MkO w1 w A n c xss) (hb : Below w0.heap.size w0 w1) : MkO w0 w A n c xss := by
  obtain ⟨rows, hm, hl, hk⟩ := h
  exact ⟨rows, hm.after hb, hl, hk⟩
theorem MkO.ne_blk {w0 w : World} {A : Option Addr} {n c g : Nat} {xss : List (List Int)} {t : TypeId} {cs : Array Value} (h : MkO w0 w A n c xss) (hb : Blk w g t cs) (hE : 24 ≠ t) : some g ≠ (Value.slice A n c).ownBlock := by
  obtain ⟨rows, hm, _⟩ := h
  exact hm.2.ne_blk hb hE
/-- A row that lies there is appended. -/
theorem wpList_appRowO {ops : Array Oper} {rest : List Oper} {o : Oper} {a : Act} {Q : Exit → Act → World → Prop} (w0 w1 : World)
    (hgd : o.guard = none) (s x : Operand) (ho : o.op = .call { callee := .builtin .append, args := #[s, x], argTypes := #[44, 44] })
    (A : Option Addr) (n c : Nat) (xss : List (List Int)) (A1 : Option Addr) (m c1 : Nat) (xs : List Int) (hM : MkO w0 w1 A n c xss) (hr : Own w1 0 2 A1 m c1 (ints xs)) (hn : n ≤ 1099511627776)
    (hs : a.eval s = .slice A n c) (hx : a.eval x = .slice (some ⟨w1.heap.size, 0, none⟩) 1 1)
    (h : ∀ A' c' w', MkO w0 w' A' (n + 1) c' (xss ++ [xs]) → w1.grownBy w' (Value.slice A n c).ownBlock → (∃ g, A' = some ⟨g, 0, none⟩ ∧ ((Value.slice A n c).ownBlock = some g ∨ w1.heap.size ≤ g)) → wpList Tryz.prog ops Q rest (a.put o.dst (.slice A' (n + 1) c')) w') :
    wpList Tryz.prog ops Q (o :: rest) a (w1.alloc (.cells #[.slice A1 m c1] 24)) := by
  obtain ⟨rows, hm, hl, hrow⟩ := hM
  have hml : xs.length = m := by have := hr.len; rwa [ints_length] at this
  subst hml
  refine wpList_app1 w0 w1 44 24 (.slice none 0 0) 24 Tryz.underlying44 info_s rfl (by omega) hgd s x ho A n c rows (.slice A1 xs.length c1) hm hn rfl hs hx ?_
  intro A' c' w' hM' hg hat
  refine h A' c' w' ⟨_, hM', by simp [hl], fun k hk => ?_⟩ hg hat
  by_cases hlt : k < xss.length
  · obtain ⟨A2, c2, e, ho2⟩ := hrow k hlt
    simp only [List.getElem_append_left hlt]
    exact ⟨A2, c2, by rw [List.getElem?_append_left (by omega)]; exact e, ho2.grown hg (ho2.ne hm.2 (by decide))⟩
  · have hk' : k = xss.length := by simp at hk; omega
    subst hk'
    simp only [List.getElem_append_right (Nat.le_refl _), Nat.sub_self, List.getElem_cons_zero]
    exact ⟨A1, c1, by rw [List.getElem?_append_right (by omega), hl, Nat.sub_self]; rfl, hr.grown hg (hr.ne hm.2 (by decide))⟩
/-- A row of a list of lists that lies between two sizes, while these blocks are kept. -/
theorem MkII.rowO {w2 w3 wr : World} {A : Option Addr} {n c : Nat} {xss : List (List Int)} (h : MkII w2 w3 A n c xss) (hk : ∀ b, w2.heap.size ≤ b → b < w3.heap.size → wr.heap[b]? = w3.heap[b]?) {k : Nat} (hlt : k < n) :
    ∃ g, A = some ⟨g, 0, none⟩ ∧ ∃ (hx : k < xss.length) (A' : Option Addr) (c' : Nat), wr.cell? ⟨g, k, none⟩ = some (.slice A' xss[k].length c') ∧ Own wr 0 2 A' xss[k].length c' (ints xss[k]) := by
  obtain ⟨g, rfl, hx, A', c', hc, _, ho⟩ := h.at_ hlt
  have hg : w2.heap.size ≤ g ∧ g < w3.heap.size := by
    obtain ⟨rows, hm, _⟩ := h
    exact World.ownsRow.lt hm.2 g rfl
  refine ⟨g, rfl, hx, A', c', (World.cell?_of_block (hk g hg.1 hg.2)).trans hc, ho.1, ?_⟩
  rcases ho.2 with hn | ⟨g', cap, cur, he, hB, hg', r⟩
  · exact .inl hn
  · exact .inr ⟨g', cap, cur, he, Nat.zero_le _, (hk g' hB (Array.getElem?_eq_some_iff.1 hg').1).trans hg', r⟩
/-- CentralizerOf. -/
def cenR (P : Int) (sq : List Int) (xs : List Int) : List (List Int) × Int := if codeB P sq [xs] = 0 then (if sq.length ≤ 4 then (cenL P sq sq.length xs, 0) else ([], 3)) else ([], codeB P sq [xs])
theorem cenR_ok {P : Int} {sq xs : List Int} (h : codeB P sq [xs] = 0) (hn : sq.length ≤ 4) : cenR P sq xs = (cenL P sq sq.length xs, 0) := by unfold cenR; rw [if_pos h, if_pos hn]
theorem cenR_big {P : Int} {sq xs : List Int} (h : codeB P sq [xs] = 0) (hn : ¬ sq.length ≤ 4) : cenR P sq xs = ([], 3) := by unfold cenR; rw [if_pos h, if_neg hn]
theorem cenR_bad {P : Int} {sq xs : List Int} (h : ¬ codeB P sq [xs] = 0) : cenR P sq xs = ([], codeB P sq [xs]) := by unfold cenR; rw [if_neg h]
set_option maxHeartbeats 800000 in
theorem blades_any (P : Int) (A : Option Addr) (n c : Nat) (w : World) (hn : n ≤ 10) :
    Calls Tryz.prog 210 #[.agg #[.int .i64 P, .slice A n c]] w fun e w' => ∃ A' c', e = .returned (.slice A' (pw n) c') ∧ MkII w w' A' (pw n) c' (unitM (pw n)) := by
  have hB0 : Below w.heap.size w (w.alloc (.cells #[.int .i64 P, .slice A n c] 26)) := (Below.refl _ _).alloc (Nat.le_refl _) _
  have k0 : Blk (w.alloc (.cells #[.int .i64 P, .slice A n c] 26)) w.heap.size 26 #[.int .i64 P, .slice A n c] := Blk.new _ _ _
  obtain ⟨q0, q1⟩ := k0.two
  have hp : pw n ≤ 1024 := pw_le hn
  have hun := fun w' => unit_any (pw n) w' (by omega)
  go_enter Tryz.func210, Tryz.ntmps210
  go_wp2_with fail
  refine (dim_any _ _ _ _ _).mono ?_
  rintro e w1 ⟨rfl, hb1⟩
  go_wp2_with fail
  rw [wrap_pw n (by omega)]
  refine (hun _).mono ?_
  rintro e w2 ⟨A2, c2, rfl, hM⟩
  go_wp2
  go_ret
  exact ⟨_, _, rfl, hM.after (hB0.trans (hb1.mono hB0.size))⟩
set_option maxHeartbeats 6400000 in
set_option maxRecDepth 8000 in
theorem CentralizerOf_any (P : Int) (A : Option Addr) (n c : Nat) (sq : List Int) (X : Option Addr) (m cx : Nat) (xs : List Int) (w : World) (hn : n ≤ 1048576) (hm : m ≤ 1048576) (ha : Rd w A n (ints sq)) (hx : Rd w X m (ints xs)) (hcx : m ≤ cx) :
    Calls Tryz.prog 71 #[.agg #[.int .i64 P, .slice A n c], .slice X m cx] w fun e w' => ∃ (A' : Option Addr) (k c' : Nat), e = .returned (.tuple #[.slice A' k c', .int .i64 (cenR P sq xs).2]) ∧ MkII w w' A' k c' (cenR P sq xs).1 := by
  have hB0 : Below w.heap.size w (w.alloc (.cells #[.int .i64 P, .slice A n c] 26)) := (Below.refl _ _).alloc (Nat.le_refl _) _
  have k0 : Blk (w.alloc (.cells #[.int .i64 P, .slice A n c] 26)) w.heap.size 26 #[.int .i64 P, .slice A n c] := Blk.new _ _ _
  have hB1 : Below w.heap.size w ((w.alloc (.cells #[.int .i64 P, .slice A n c] 26)).alloc (.cells #[.slice X m cx] 24)) := hB0.alloc (by simp) _
  have k1 : Blk ((w.alloc (.cells #[.int .i64 P, .slice A n c] 26)).alloc (.cells #[.slice X m cx] 24)) w.heap.size 26 #[.int .i64 P, .slice A n c] := k0.alloc _
  have hreg := checkBivectors_any P A (some ⟨w.heap.size + 1, 0, none⟩) n c 1 1 sq [xs] ((w.alloc (.cells #[.int .i64 P, .slice A n c] 26)).alloc (.cells #[.slice X m cx] 24)) hn (by omega) (ha.below hB1) (rdII_one' (Blk.newAt3 (by simp)) (hx.below hB1) hcx) (all_one (by rw [hx.lenI]; exact hm))
  by_cases hr0 : codeB P sq [xs] = 0
  · rw [hr0] at hreg
    obtain ⟨HP, hp, hp2, hd1, hd2, hs, hms⟩ := codeM_spec3 (codeR_zero2 (codeB_zero hr0))
    have hxl := hx.lenI
    have hsl := ha.lenI
    obtain ⟨hl1, hxs⟩ := hms xs (by simp)
    have hn6 : n ≤ 6 := by omega
    have hn0 : 0 < n := by omega
    have hmn : m = pw n := by rw [← hxl, hl1, hsl]
    subst hmn
    have HSL := Lib.hid hsl
    have HS := Lib.hid hs
    have HXS := Lib.hid hxs
    have HXL := Lib.hid hxl
    clear hxl hsl hms hl1 hd1 hd2 hs hxs
    have HR0 := Lib.hid hr0
    clear hr0
    by_cases h4 : n ≤ 4
    · have HOK : Hid (cenR P sq xs = (cenL P sq n xs, 0)) := Lib.hid (by rw [cenR_ok HR0.out (by rw [HSL.out]; exact h4), HSL.out])
      have d4 : decide (4 < (n : Int)) = false := by simp; omega
      have hpw : pw n ≤ 64 := pw_le hn6
      have hpn := pw_pos n
      have hct := cct_tab (P := P) (sq := sq) (n := n) (xs := xs) hp
      have HCT := Lib.hid hct
      have HCR := Lib.hid (crows_tab (P := P) (sq := sq) (n := n) (xs := xs) hp)
      clear hct
      go_enter Tryz.func71, Tryz.ntmps71
      go_wp2_with fail
      refine hreg.mono ?_
      rintro e w2 ⟨rfl, hb2⟩
      have hB2 := hB1.trans (hb2.mono hB1.size)
      have k2 := k1.below hb2 k1.lt
      obtain ⟨q0, q1⟩ := k2.two
      clear k0 hB0 k1 hB1 hb2
      go_wp2_with fail
      refine (dim_any _ _ _ _ _).mono ?_
      rintro e w3 ⟨rfl, hb3⟩
      have hB3 := hB2.trans (hb3.mono hB2.size)
      have k3 := k2.below hb3 k2.lt
      have hB4 := hB3.alloc hB3.size (.cells #[] 24)
      have k4 := k3.alloc (.cells #[] 24)
      have hM4 : MkII w (w3.alloc (.cells #[] 24)) (some ⟨w3.heap.size, 0, none⟩) 0 0 [] := MkII.empty hB3
      have hz3 : w3.heap.size < (w3.alloc (.cells #[] 24)).heap.size := by simp
      clear q0 q1
      obtain ⟨q0, q1⟩ := k4.two
      have hbl := blades_any P A n c (w3.alloc (.cells #[] 24)) (by omega)
      clear k2 hB2 hb3 k3
      go_wp2_with fail
      obtain ⟨w4, hw4⟩ : ∃ W, W = w3.alloc (.cells #[] 24) := ⟨_, rfl⟩
      rw [← hw4] at hbl hM4 hB4 k4 hz3 q0 q1 ⊢
      refine hbl.mono ?_
      rintro e w5 ⟨U, cU, rfl, hU⟩
      have hM5 := hM4.below hU.b
      have k5 := k4.below hU.b k4.lt
      have hKp : Keeps w4 w5 w5 (.slice (some ⟨w3.heap.size, 0, none⟩) 0 0) := ⟨Nat.le_refl _, fun _ _ _ => rfl, fun gb e => .inl (lt_of_own e hz3)⟩
      clear hbl hM4 hB4 k4 hz3 hw4 q0 q1
      go_wp2
      go_loopw [7, 28] (fun out i wr => ∃ (k : Nat) (A' : Option Addr) (c' : Nat), k ≤ pw n ∧ i = .int .i64 k ∧ out = .slice A' k c' ∧ MkII w wr A' k c' (tab k (ccol P sq n xs)) ∧ Keeps w4 w5 wr (.slice A' k c') ∧ Blk wr w.heap.size 26 #[.int .i64 P, .slice A n c]) (fun _ i _ => pw n - (intOf i).toNat)
      case atStart => exact ⟨0, _, _, by omega, rfl, rfl, by simpa [tab] using hM5, hKp, k5⟩
      case round =>
        obtain ⟨k, A', c', hk, rfl, rfl, hM, hKp', k6⟩ := hrel
        clear hM5 hKp k5
        obtain ⟨q0, q1⟩ := k6.two
        by_cases hlt : k < pw n
        · obtain ⟨gu, ou, rfl, hxk, A1, c1, hcu, hru, hcc⟩ := (hU.keep hKp'.2.1).at_ hlt
          have hrow := unitM_get (pw n) k hxk
          rw [hrow, unitRow_len] at hru hcu hcc
          have hcall := bracket_any P A n c sq A1 c1 (unitRow (pw n) k) X cx xs wr hp hp2 hn6 (ha.below hM.b) HS.out hru (unitRow_nums hp _ k) hcc (hx.below hM.b) HXS.out hcx
          have HM := Lib.hid hM
          have HK := Lib.hid hKp'
          have i1 : (0 : Int) ≤ (k : Int) := by omega
          have i2 : (k : Int) < (pw n : Int) := by omega
          have hk64 : k < 64 := by omega
          clear hM hru hrow hKp'
          go_wp2_with fail
          refine hcall.mono ?_
          rintro e w7 ⟨A7, c7, rfl, hM7⟩
          have k7 := k6.below hM7.b k6.lt
          clear hcall q0 q1
          obtain ⟨q0, q1⟩ := k7.two
          by_cases hpc : pc k = 2
          · have hcc' : Hid (tab (k + 1) (ccol P sq n xs) = tab k (ccol P sq n xs) ++ [brkL P sq n (unitRow (pw n) k) xs]) := Lib.hid (by rw [tab_succ]; unfold ccol; rw [if_pos hpc])
            have hne : (((pc k : Nat) : Int) != 2) = false := by simp; omega
            clear hpc
            go_wp2_with (first
              | (go_at_call 211; refine (gradeOf_any k _ hk64).mono ?_; rintro e w' ⟨rfl, rfl⟩)
              | (at_builtin; refine wpList_appRowG w wr _ rfl _ _ rfl A' k c' _ A7 (pw n) c7 _ HM.out hM7 (by omega) rfl ?_ ?_; (go_simp); intro A8 c8 w8 hM8 hg8 hat8))
            have k8 := k7.grown hg8 ((HM.out.below hM7.b).ne_blk k7 (by decide))
            have hK8 := HK.out.step (n' := k + 1) (c' := c8) hM7.b hg8 hat8
            clear hg8 hat8 k7 k6
            go_roundw
            case rel => exact ⟨k + 1, A8, c8, by omega, by go_num, rfl, by rw [hcc'.out]; exact hM8, hK8, k8⟩
            case measure => simp [intOf]; omega
          · have hcc' : Hid (tab (k + 1) (ccol P sq n xs) = tab k (ccol P sq n xs) ++ [List.replicate (pw n) 0]) := Lib.hid (by rw [tab_succ]; unfold ccol; rw [if_neg hpc])
            have hne : (((pc k : Nat) : Int) != 2) = true := by simp; omega
            clear hpc
            go_wp2_with (first
              | (go_at_call 211; refine (gradeOf_any k _ hk64).mono ?_; rintro e w' ⟨rfl, rfl⟩)
              | fail)
            refine (nothing_any P A n c _ (by omega)).mono ?_
            rintro e w9 ⟨A9, c9, rfl, hM9⟩
            have hM9' := hM9.after hM7.b
            have k9 := k7.below hM9.b k7.lt
            clear k7 q0 q1
            go_wp2_with (at_builtin; refine wpList_appRowG w wr _ rfl _ _ rfl A' k c' _ A9 (pw n) c9 _ HM.out hM9' (by omega) rfl ?_ ?_; (go_simp); intro A8 c8 w8 hM8 hg8 hat8)
            have k8 := k9.grown hg8 ((HM.out.below hM9'.b).ne_blk k9 (by decide))
            have hK8 := HK.out.step (n' := k + 1) (c' := c8) hM9'.b hg8 hat8
            clear hg8 hat8 k9 k6
            go_roundw
            case rel => exact ⟨k + 1, A8, c8, by omega, by go_num, rfl, by rw [hcc'.out]; exact hM8, hK8, k8⟩
            case measure => simp [intOf]; omega
        · obtain rfl : k = pw n := by omega
          have htr := transpose_any P A' (pw n) c' (tab (pw n) (ccol P sq n xs)) (pw n) wr (by omega) (by omega) (by omega) hM.rd HCT.out
          go_wp2_with fail
          refine htr.mono ?_
          rintro e w7 ⟨A7, c7, rfl, hM7⟩
          have hM7' := (hM7.after hM.b).o
          have hB7 := hM7'.b
          have k7 := k6.below hM7.b k6.lt
          have hlt7 : ∀ gb, (Value.slice A7 (pw n) c7).ownBlock = some gb → gb < w7.heap.size := fun gb e => by
            obtain ⟨_, hm, _⟩ := hM7'
            exact (World.ownsRow.lt hm.2 gb e).2
          clear htr hM k6 q0 q1 hKp' hM7
          obtain ⟨q0, q1⟩ := k7.two
          go_wp2_with fail
          refine (blades_any P A n c w7 (by omega)).mono ?_
          rintro e w8 ⟨U2, cU2, rfl, hU2⟩
          have hM8 := hM7'.below hU2.b
          have k8 := k7.below hU2.b k7.lt
          have hKp : Keeps w7 w8 w8 (.slice A7 (pw n) c7) := ⟨Nat.le_refl _, fun _ _ _ => rfl, fun gb e => .inl (hlt7 gb e)⟩
          clear hM7' k7 hlt7 q0 q1 hB7
          go_wp2
          go_loopw [11, 52] (fun out i wr => ∃ (k : Nat) (A' : Option Addr) (c' : Nat), k ≤ pw n ∧ i = .int .i64 k ∧ out = .slice A' (pw n + (nsT k).length) c' ∧ MkO w wr A' (pw n + (nsT k).length) c' (transL (tab (pw n) (ccol P sq n xs)) ++ (nsT k).map (unitRow (pw n))) ∧ Keeps w7 w8 wr (.slice A' (pw n + (nsT k).length) c') ∧ Blk wr w.heap.size 26 #[.int .i64 P, .slice A n c]) (fun _ i _ => pw n - (intOf i).toNat)
          case atStart => exact ⟨0, _, _, by omega, rfl, rfl, by simpa [nsT] using hM8, hKp, k8⟩
          case round =>
            obtain ⟨k, A', c', hk, rfl, rfl, hM, hKp', k9⟩ := hrel
            clear hM8 hKp k8
            obtain ⟨q0, q1⟩ := k9.two
            have hnl := nsT_le k
            by_cases hlt : k < pw n
            · obtain ⟨gu, rfl, hxk, A1, c1, hcu, hru⟩ := hU2.rowO hKp'.2.1 hlt
              have hrow := unitM_get (pw n) k hxk
              rw [hrow, unitRow_len] at hru hcu
              have HM := Lib.hid hM
              have HK := Lib.hid hKp'
              have HRU := Lib.hid hru
              have i1 : (0 : Int) ≤ (k : Int) := by omega
              have i2 : (k : Int) < (pw n : Int) := by omega
              have hk64 : k < 64 := by omega
              have hz0 : (0 : Nat) + k = k := by omega
              clear hM hru hrow hKp' hxk
              by_cases hpc : pc k = 2
              · have hns : Hid (nsT (k + 1) = nsT k) := Lib.hid (by rw [nsT_succ, if_pos hpc])
                have hne : (((pc k : Nat) : Int) != 2) = false := by simp; omega
                clear hpc
                go_wp2_with (go_at_call 211; refine (gradeOf_any k _ hk64).mono ?_; rintro e w' ⟨rfl, rfl⟩)
                go_roundw
                case rel => exact ⟨k + 1, A', c', by omega, by go_num, by rw [hns.out], by rw [hns.out]; exact HM.out, by rw [hns.out]; exact HK.out, k9⟩
                case measure => simp [intOf]; omega
              · have hns : Hid (nsT (k + 1) = nsT k ++ [k]) := Lib.hid (by rw [nsT_succ, if_neg hpc])
                have hne : (((pc k : Nat) : Int) != 2) = true := by simp; omega
                clear hpc
                go_wp2_with (first
                  | (go_at_call 211; refine (gradeOf_any k _ hk64).mono ?_; rintro e w' ⟨rfl, rfl⟩)
                  | (at_builtin; refine wpList_appRowO w _ rfl _ _ rfl A' _ c' _ A1 (pw n) c1 _ HM.out HRU.out (by omega) rfl ?_ ?_; (go_simp); intro A8 c8 w10 hM8 hg8 hat8))
                have k10 := k9.grown hg8 (HM.out.ne_blk k9 (by decide))
                have hK8 := HK.out.step (n' := pw n + (nsT (k + 1)).length) (c' := c8) (Below.refl _ _) hg8 hat8
                clear hg8 hat8 k9
                go_roundw
                case rel =>
                  have hl : pw n + (nsT (k + 1)).length = pw n + (nsT k).length + 1 := by rw [hns.out]; simp; omega
                  refine ⟨k + 1, A8, c8, by omega, by go_num, by rw [hl], ?_, hK8, k10⟩
                  rw [hl, hns.out, List.map_append, ← List.append_assoc]
                  exact hM8
                case measure => simp [intOf]; omega
            · obtain rfl : k = pw n := by omega
              have hrd := hM.rd
              have hbm := hM.b
              have hker := fun w' (hb : Below wr.heap.size wr w') => kernel_any P A' (pw n + (nsT (pw n)).length) c' (crows P sq n xs) (pw n) w' HP (by omega) (by omega) (hrd.below hb) HCR.out
              obtain ⟨R, hR⟩ : ∃ R, R = cenL P sq n xs := ⟨_, rfl⟩
              have hR' : kernL P (crows P sq n xs) (pw n) = R := hR.symm
              rw [← hR] at HOK
              rw [hR'] at hker
              have HKER := Lib.hid hker
              have hshl : IntKind.i64.wrap (2 ^ n) = (pw n : Int) := by rw [IntWalk.i64_left]; exact wrap_pw n (by omega)
              clear hM hrd hKp' hR hR' hker
              go_wp2
              refine wp_obs 9 [[], [0], [], [], [3], [3, 4], [0, 1, 2, 3, 4, 5], [0, 1, 2, 3, 4, 5, 6], []] [VIs (.agg #[.int .i64 P, .slice A n c]), VIs (.int .i64 (P)), VIs (.slice A' (pw n + (nsT (pw n)).length) c'), VIs (.agg #[.int .i64 P, .slice A n c]), VIs (.int .i64 (n)), VIs (.int .i64 (pw n)), VMat wr R.length R, VMat wr R.length R, VIs (.int .i64 0)] (fun w' => Blk w' w.heap.size 26 #[.int .i64 P, .slice A n c] ∧ Below wr.heap.size wr w') (by kernel_rfl) (by kernel_rfl) (fun _ _ h hb => ⟨h.1.below hb h.1.lt, h.2.trans (hb.mono h.2.size)⟩) (⟨k9.drew, (Below.refl _ _).drew⟩) (fun x => ?_)
              refine obs_step (Eq.trans (by simp only [List.getElem?_toArray, List.getElem?_cons_zero]; exact rfl) rfl) rfl (fun w' hS hV K hK => ?_) ?_
              · obtain ⟨q0, q1⟩ := hS.1.two
                go_simp
                exact hK.out _ _ _ rfl rfl rfl (Below.refl _ _)
              simp only [List.setIfInBounds_toArray, List.set_cons_zero, List.set_cons_succ]
              refine obs_step (Eq.trans (by simp only [List.getElem?_toArray, List.getElem?_cons_succ, List.getElem?_cons_zero]; exact rfl) rfl) rfl (fun w' hS hV K hK => ?_) ?_
              · have e0 : x 0 = (.agg #[.int .i64 P, .slice A n c]) := hV 0 (by decide)
                obtain ⟨q0, q1⟩ := hS.1.two
                go_simp
                refine (field_any _ _ _ _ _).mono ?_
                rintro e v1 ⟨rfl, hb⟩
                exact hK.out _ _ _ rfl rfl rfl hb
              simp only [List.setIfInBounds_toArray, List.set_cons_zero, List.set_cons_succ]
              refine obs_step (Eq.trans (by simp only [List.getElem?_toArray, List.getElem?_cons_succ, List.getElem?_cons_zero]; exact rfl) rfl) rfl (fun w' hS hV K hK => ?_) ?_
              · obtain ⟨q0, q1⟩ := hS.1.two
                go_simp
                exact hK.out _ _ _ rfl rfl rfl (Below.refl _ _)
              simp only [List.setIfInBounds_toArray, List.set_cons_zero, List.set_cons_succ]
              refine obs_step (Eq.trans (by simp only [List.getElem?_toArray, List.getElem?_cons_succ, List.getElem?_cons_zero]; exact rfl) rfl) rfl (fun w' hS hV K hK => ?_) ?_
              · obtain ⟨q0, q1⟩ := hS.1.two
                go_simp
                exact hK.out _ _ _ rfl rfl rfl (Below.refl _ _)
              simp only [List.setIfInBounds_toArray, List.set_cons_zero, List.set_cons_succ]
              refine obs_step (Eq.trans (by simp only [List.getElem?_toArray, List.getElem?_cons_succ, List.getElem?_cons_zero]; exact rfl) rfl) rfl (fun w' hS hV K hK => ?_) ?_
              · have e3 : x 3 = (.agg #[.int .i64 P, .slice A n c]) := hV 3 (by decide)
                obtain ⟨q0, q1⟩ := hS.1.two
                go_simp
                refine (dim_any _ _ _ _ _).mono ?_
                rintro e v1 ⟨rfl, hb⟩
                exact hK.out _ _ _ rfl rfl rfl hb
              simp only [List.setIfInBounds_toArray, List.set_cons_zero, List.set_cons_succ]
              refine obs_step (Eq.trans (by simp only [List.getElem?_toArray, List.getElem?_cons_succ, List.getElem?_cons_zero]; exact rfl) rfl) rfl (fun w' hS hV K hK => ?_) ?_
              · have e3 : x 3 = (.agg #[.int .i64 P, .slice A n c]) := hV 3 (by decide)
                have e4 : x 4 = (.int .i64 (n)) := hV 4 (by decide)
                obtain ⟨q0, q1⟩ := hS.1.two
                go_simp
                exact hK.out _ _ _ rfl rfl rfl (Below.refl _ _)
              simp only [List.setIfInBounds_toArray, List.set_cons_zero, List.set_cons_succ]
              refine obs_step (Eq.trans (by simp only [List.getElem?_toArray, List.getElem?_cons_succ, List.getElem?_cons_zero]; exact rfl) rfl) rfl (fun w' hS hV K hK => ?_) ?_
              · have e0 : x 0 = (.agg #[.int .i64 P, .slice A n c]) := hV 0 (by decide)
                have e1 : x 1 = (.int .i64 (P)) := hV 1 (by decide)
                have e2 : x 2 = (.slice A' (pw n + (nsT (pw n)).length) c') := hV 2 (by decide)
                have e3 : x 3 = (.agg #[.int .i64 P, .slice A n c]) := hV 3 (by decide)
                have e4 : x 4 = (.int .i64 (n)) := hV 4 (by decide)
                have e5 : x 5 = (.int .i64 (pw n)) := hV 5 (by decide)
                obtain ⟨q0, q1⟩ := hS.1.two
                go_simp
                refine (HKER.out _ hS.2).mono ?_
                rintro e v1 ⟨A9, c9, rfl, hM⟩
                exact hK.out _ _ _ rfl rfl ⟨_, _, rfl, hM.after hS.2⟩ hM.b
              simp only [List.setIfInBounds_toArray, List.set_cons_zero, List.set_cons_succ]
              refine obs_step (Eq.trans (by simp only [List.getElem?_toArray, List.getElem?_cons_succ, List.getElem?_cons_zero]; exact rfl) rfl) rfl (fun w' hS hV K hK => ?_) ?_
              · have e0 : x 0 = (.agg #[.int .i64 P, .slice A n c]) := hV 0 (by decide)
                have e1 : x 1 = (.int .i64 (P)) := hV 1 (by decide)
                have e2 : x 2 = (.slice A' (pw n + (nsT (pw n)).length) c') := hV 2 (by decide)
                have e3 : x 3 = (.agg #[.int .i64 P, .slice A n c]) := hV 3 (by decide)
                have e4 : x 4 = (.int .i64 (n)) := hV 4 (by decide)
                have e5 : x 5 = (.int .i64 (pw n)) := hV 5 (by decide)
                obtain ⟨A6, c6, e6, h6⟩ := hV 6 (by decide)
                obtain ⟨q0, q1⟩ := hS.1.two
                go_simp
                exact hK.out _ _ _ rfl rfl ⟨_, _, rfl, h6⟩ (Below.refl _ _)
              simp only [List.setIfInBounds_toArray, List.set_cons_zero, List.set_cons_succ]
              refine obs_step (Eq.trans (by simp only [List.getElem?_toArray, List.getElem?_cons_succ, List.getElem?_cons_zero]; exact rfl) rfl) rfl (fun w' hS hV K hK => ?_) ?_
              · obtain ⟨q0, q1⟩ := hS.1.two
                go_simp
                exact hK.out _ _ _ rfl rfl rfl (Below.refl _ _)
              simp only [List.setIfInBounds_toArray, List.set_cons_zero, List.set_cons_succ]
              refine fun w' hS hV => ?_
              have e0 : x 0 = (.agg #[.int .i64 P, .slice A n c]) := hV 0 (by decide)
              have e1 : x 1 = (.int .i64 (P)) := hV 1 (by decide)
              have e2 : x 2 = (.slice A' (pw n + (nsT (pw n)).length) c') := hV 2 (by decide)
              have e3 : x 3 = (.agg #[.int .i64 P, .slice A n c]) := hV 3 (by decide)
              have e4 : x 4 = (.int .i64 (n)) := hV 4 (by decide)
              have e5 : x 5 = (.int .i64 (pw n)) := hV 5 (by decide)
              obtain ⟨A6, c6, e6, h6⟩ := hV 6 (by decide)
              obtain ⟨A7, c7, e7, h7⟩ := hV 7 (by decide)
              have e8 : x 8 = (.int .i64 0) := hV 8 (by decide)
              simp only [e0, e1, e2, e3, e4, e5, e6, e7, e8]
              clear e0 e1 e2 e3 e4 e5 e6 e7 e8
              refine wpAny_done (by kernel_rfl) ?_ _
              go_wp2
              go_ret2
              exact aMat3 HOK.out (h7.after hbm)
    · have HOK : Hid (cenR P sq xs = ([], 3)) := Lib.hid (by rw [cenR_big HR0.out (by rw [HSL.out]; exact h4)])
      have d4 : decide (4 < (n : Int)) = true := by simp; omega
      go_enter Tryz.func71, Tryz.ntmps71
      go_wp2_with fail
      refine hreg.mono ?_
      rintro e w2 ⟨rfl, hb2⟩
      have hB2 := hB1.trans (hb2.mono hB1.size)
      have k2 := k1.below hb2 k1.lt
      obtain ⟨q0, q1⟩ := k2.two
      clear k0 hB0 k1 hB1 hb2
      go_wp2_with fail
      refine (dim_any _ _ _ _ _).mono ?_
      rintro e w3 ⟨rfl, hb3⟩
      go_wp2
      go_ret2
      exact noMat3 HOK.out (hB2.trans (hb3.mono hB2.size))
  · obtain ⟨r, hr⟩ : ∃ r, r = codeB P sq [xs] := ⟨_, rfl⟩
    have HR := Lib.hid hr
    have HR0 := Lib.hid hr0
    have b0 : (r != 0) = true := code_ne (by rw [hr]; exact hr0)
    rw [← hr] at hreg
    clear hr hr0
    go_enter Tryz.func71, Tryz.ntmps71
    go_wp2_with fail
    refine hreg.mono ?_
    rintro e w2 ⟨rfl, hb2⟩
    have hB2 := hB1.trans (hb2.mono hB1.size)
    have k2 := k1.below hb2 k1.lt
    obtain ⟨q0, q1⟩ := k2.two
    clear k0 hB0 k1 hB1 hb2
    go_wp2
    go_ret2
    exact noMat3 (by rw [cenR_bad HR0.out, HR.out]) hB2
end Go.Proofs.YtggigolkncckoaaGreat
namespace Go.Proofs.YtggigolkncckoaaGreat
open Go.RowKit
/-- Two lists of lists, no rows of which lie in one block; the first one is the call's own. -/
def MkII2 (w0 w : World) (A : Option Addr) (n c : Nat) (xss : List (List Int)) (B : Option Addr) (m : Nat) (yss : List (List Int)) : Prop :=
  ∃ rows rows', Mk w0 w 24 A n c rows ∧ Rd w B m rows' ∧ rows.length = xss.length ∧ Nest w w0.heap.size (rows ++ rows') (xss ++ yss)
theorem MkII2.below {w0 w w' : World} {A B : Option Addr} {n c m : Nat} {xss yss : List (List Int)} (h : MkII2 w0 w A n c xss B m yss) (hb : Below w.heap.size w w') : MkII2 w0 w' A n c xss B m yss := by
  obtain ⟨rows, rows', h1, h2, h3, h4⟩ := h
  exact ⟨rows, rows', h1.below hb, h2.below hb, h3, h4.below hb⟩
theorem MkII2.ne_blk {w0 w : World} {A B : Option Addr} {n c m g : Nat} {xss yss : List (List Int)} {t : TypeId} {cs : Array Value} (h : MkII2 w0 w A n c xss B m yss) (hb : Blk w g t cs) (hE : 24 ≠ t) : some g ≠ (Value.slice A n c).ownBlock := by
  obtain ⟨rows, _, hm, _⟩ := h
  exact hm.2.ne_blk hb hE
end Go.Proofs.YtggigolkncckoaaGreat
namespace Go.Proofs.YtggigolkncckoaaGreat
open Go.RowKit
def CK (w w' : World) : Prop := ∀ b i u, w.cell? ⟨b, i, none⟩ = some u → w'.cell? ⟨b, i, none⟩ = some u
theorem CK.refl (w : World) : CK w w := fun _ _ _ h => h
theorem CK.below {w w1 w2 : World} (h : CK w w1) (hb : Below w1.heap.size w1 w2) : CK w w2 := fun b i u hu =>
  (hb.cell (World.block_lt_of_cell? _ _ (h b i u hu))).trans (h b i u hu)
theorem Rd.ck {w w' : World} {A : Option Addr} {n : Nat} {us : List Value} (h : Rd w A n us) (k : CK w w') : Rd w' A n us := ⟨h.1, fun hn => by
  obtain ⟨g, o, e, hc⟩ := h.2 hn
  exact ⟨g, o, e, fun j u hu => k _ _ _ (hc j u hu)⟩⟩
theorem RdII.ck {w w' : World} {A : Option Addr} {n : Nat} {xss : List (List Int)} (h : RdII w A n xss) (k : CK w w') : RdII w' A n xss := by
  obtain ⟨rows, hr, hl, hk⟩ := h
  exact ⟨rows, hr.ck k, hl, fun j hj => by obtain ⟨A', c', e, h1, h2⟩ := hk j hj; exact ⟨A', c', e, h1.ck k, h2⟩⟩
theorem Rd.cut {w : World} {A : Option Addr} {n k : Nat} {us : List Value} (h : Rd w A n us) (hk : k ≤ n) : Rd w A k (us.take k) := ⟨by rw [List.length_take, h.1]; omega, fun hn => by
  obtain ⟨g, o, e, hc⟩ := h.2 (by omega)
  exact ⟨g, o, e, fun j u hu => hc j u (by
    rw [List.getElem?_take] at hu
    split at hu
    · exact hu
    · cases hu)⟩⟩
/-- A row that grows; it began as the empty block g; what lay in w is as it was. -/
def Grows (w wr : World) (g : Nat) (v : Value) : Prop := CK w wr ∧ w.heap.size ≤ wr.heap.size ∧ ∀ gb, v.ownBlock = some gb → gb = g ∨ w.heap.size ≤ gb
theorem Grows.step {w wr v1 w' : World} {g : Nat} {T : TypeId} {A A' : Option Addr} {n c n' c' : Nat} (h : Grows w wr g (.slice A n c)) (he : Blk w g T #[]) (hb : Below wr.heap.size wr v1) (hg : v1.grownBy w' (Value.slice A n c).ownBlock)
    (hat : ∃ g', A' = some ⟨g', 0, none⟩ ∧ ((Value.slice A n c).ownBlock = some g' ∨ v1.heap.size ≤ g')) : Grows w w' g (.slice A' n' c') := by
  obtain ⟨h1, h2, h3⟩ := h
  refine ⟨fun b i u hu => ?_, by have := hb.size; have := hg.size; omega, fun gb hgb => ?_⟩
  · refine hg.cell ((hb.cell (World.block_lt_of_cell? _ _ (h1 b i u hu))).trans (h1 b i u hu)) fun e => ?_
    rcases h3 b e.symm with rfl | hge
    · rw [he.cell] at hu; simp at hu
    · have hlt : b < w.heap.size := World.block_lt_of_cell? _ _ hu
      omega
  · obtain ⟨g', rfl, hor⟩ := hat
    simp only [Value.ownBlock, Option.some.injEq] at hgb
    subst hgb
    rcases hor with hor | hor
    · exact h3 _ hor
    · right; have := hb.size; omega
end Go.Proofs.YtggigolkncckoaaGreat
namespace Go.Proofs.YtggigolkncckoaaGreat
open Go.RowKit
/-- The masks as numbers. -/
def msI (k : Nat) : List Int := (msT k).map fun m : Nat => (m : Int)
theorem msI_len (k : Nat) : (msI k).length = (msT k).length := by unfold msI; rw [List.length_map]
theorem msI_at {k j : Nat} (h : j < (msI k).length) : (msI k)[j] = (((msT k).getD j 0 : Nat) : Int) := by
  have h' : j < (msT k).length := by rw [msI_len] at h; exact h
  rw [getD_of_lt 0 h']
  show ((msT k).map fun m : Nat => (m : Int))[j]'(by rw [List.length_map]; exact h') = _
  rw [List.getElem_map]
theorem semb_take {P : Int} {sq : List Int} {n : Nat} {xs : List Int} {k : Nat} (hk : k < (kernL P (transL (scols P sq n xs)) (msT (pw n)).length).length) :
    (semb P sq n xs).take (k + 1) = (semb P sq n xs).take k ++ [embT (pw n) (kernL P (transL (scols P sq n xs)) (msT (pw n)).length)[k] (msT (pw n)).length] := by
  rw [List.take_succ_eq_append_getElem (by unfold semb; rw [List.length_map]; exact hk)]
  unfold semb
  rw [List.getElem_map]
theorem semb_len {P : Int} {sq : List Int} {n : Nat} {xs : List Int} : (semb P sq n xs).length = (kernL P (transL (scols P sq n xs)) (msT (pw n)).length).length := by unfold semb; rw [List.length_map]
/-- A list of numbers and a list of rows that grow side by side, no two in one block. -/
def Two (w0 w : World) (Am : Option Addr) (nm cm : Nat) (ms : List Int) (A : Option Addr) (n c : Nat) (xss : List (List Int)) : Prop := ∃ rows, Mk w0 w 24 A n c rows ∧ Nest w w0.heap.size rows xss ∧ Own w w0.heap.size 2 Am nm cm (ints ms) ∧
  ∀ (k g : Nat), (rows[k]?).bind Value.ownBlock = some g → (Value.slice Am nm cm).ownBlock ≠ some g
section
variable {w0 w w' : World} {Am : Option Addr} {nm cm : Nat} {ms : List Int} {A : Option Addr} {n c : Nat} {xss : List (List Int)}
theorem Two.b (h : Two w0 w Am nm cm ms A n c xss) : Below w0.heap.size w0 w := by obtain ⟨_, h, _⟩ := h; exact h.1
theorem Two.ii (h : Two w0 w Am nm cm ms A n c xss) : MkII w0 w A n c xss := by obtain ⟨rows, h1, h2, _⟩ := h; exact ⟨rows, h1, h2⟩
theorem Two.i (h : Two w0 w Am nm cm ms A n c xss) : MkI w0 w Am nm cm ms := by obtain ⟨rows, h1, _, h3, _⟩ := h; exact ⟨h1.1, h3⟩
theorem Two.below (h : Two w0 w Am nm cm ms A n c xss) (hb : Below w.heap.size w w') : Two w0 w' Am nm cm ms A n c xss := by
  obtain ⟨rows, h1, h2, h3, h4⟩ := h
  exact ⟨rows, h1.below hb, h2.below hb, h3.below hb, h4⟩
theorem Two.start {g1 g2 : Nat} (hb : Below w0.heap.size w0 w) (k1 : Blk w g1 2 #[]) (k2 : Blk w g2 24 #[]) (h1 : w0.heap.size ≤ g1) (h2 : w0.heap.size ≤ g2) : Two w0 w (some ⟨g1, 0, none⟩) 0 0 [] (some ⟨g2, 0, none⟩) 0 0 [] :=
  ⟨[], ⟨hb, Own.of_cells (cs := #[]) h2 k2 (by simp [maxLen])⟩, Nest.nil _ _, Own.of_cells (cs := #[]) h1 k1 (by simp [maxLen]), fun k g hg => by simp at hg⟩
/-- A number is appended. -/
theorem Two.number {A' : Option Addr} {c' : Nat} {x : Int} (h : Two w0 w Am nm cm ms A n c xss) (hM : Mk w0 w' 2 A' (nm + 1) c' (ints ms ++ [.int .i64 x])) (hg : w.grownBy w' (Value.slice Am nm cm).ownBlock)
    (hat : ∃ g, A' = some ⟨g, 0, none⟩ ∧ ((Value.slice Am nm cm).ownBlock = some g ∨ w.heap.size ≤ g)) : Two w0 w' A' (nm + 1) c' (ms ++ [x]) A n c xss := by
  obtain ⟨rows, h1, h2, h3, h4⟩ := h
  refine ⟨rows, ⟨hM.1, h1.2.grown hg (h1.2.ne h3 (by decide))⟩, ⟨h2.len, fun k hk => ?_, h2.apart⟩, by simpa [ints] using hM.2, fun k g hkg e => ?_⟩
  · obtain ⟨A1, c1, e, ho⟩ := h2.row k hk
    refine ⟨A1, c1, e, ho.grown hg ?_⟩
    cases hb : (Value.slice A1 xss[k].length c1).ownBlock with
    | none => exact .inl rfl
    | some g => exact .inr fun e' => h4 k g (by rw [e]; exact hb) e'.symm
  · obtain ⟨g', rfl, hor⟩ := hat
    have : g' = g := by simpa [Value.ownBlock] using e
    subst this
    rcases hor with hor | hor
    · exact h4 k g' hkg hor
    · have := (h2.block k g' hkg).2; omega
/-- A new row is appended. -/
theorem Two.row {w1 : World} {A1 A' : Option Addr} {m c1 c' : Nat} {xs : List Int} (h : Two w0 w Am nm cm ms A n c xss) (hr : Mk w w1 2 A1 m c1 (ints xs))
    (hM : Mk w0 w' 24 A' (n + 1) c' ((Classical.choose h) ++ [.slice A1 m c1])) (hg : w1.grownBy w' (Value.slice A n c).ownBlock) : Two w0 w' Am nm cm ms A' (n + 1) c' (xss ++ [xs]) := by
  obtain ⟨h1, h2, h3, h4⟩ := Classical.choose_spec h
  refine ⟨_, hM, (h2.snoc hr h1.1.size).grown (h1.2.below hr.1) (by decide) hg, (h3.below hr.1).grown hg ((h3.below hr.1).ne (h1.2.below hr.1) (by decide)), fun k g hkg e => ?_⟩
  by_cases hlt : k < (Classical.choose h).length
  · rw [List.getElem?_append_left hlt] at hkg
    exact h4 k g hkg e
  · rw [List.getElem?_append_right (by omega)] at hkg
    by_cases h0 : k - (Classical.choose h).length = 0
    · rw [h0] at hkg
      have l1 := (World.ownsRow.lt hr.2 g (by simpa using hkg)).1
      have l2 := (World.ownsRow.lt h3 g e).2
      omega
    · rw [List.getElem?_eq_none (by simp; omega)] at hkg; cases hkg
end
theorem wpList_twoRow {ops : Array Oper} {rest : List Oper} {o : Oper} {a : Act} {Q : Exit → Act → World → Prop} (w0 wr w1 : World)
    (hgd : o.guard = none) (s x : Operand) (ho : o.op = .call { callee := .builtin .append, args := #[s, x], argTypes := #[44, 44] })
    (Am : Option Addr) (nm cm : Nat) (ms : List Int) (A : Option Addr) (n c : Nat) (xss : List (List Int)) (A1 : Option Addr) (m c1 : Nat) (xs : List Int) (hM : Two w0 wr Am nm cm ms A n c xss) (hr : Mk wr w1 2 A1 m c1 (ints xs)) (hn : n ≤ 1099511627776)
    (hs : a.eval s = .slice A n c) (hx : a.eval x = .slice (some ⟨w1.heap.size, 0, none⟩) 1 1)
    (h : ∀ A' c' w', Two w0 w' Am nm cm ms A' (n + 1) c' (xss ++ [xs]) → w1.grownBy w' (Value.slice A n c).ownBlock → wpList Tryz.prog ops Q rest (a.put o.dst (.slice A' (n + 1) c')) w') :
    wpList Tryz.prog ops Q (o :: rest) a (w1.alloc (.cells #[.slice A1 m c1] 24)) := by
  have h1 := (Classical.choose_spec hM).1
  refine wpList_app1 w0 w1 44 24 (.slice none 0 0) 24 Tryz.underlying44 info_s rfl (by omega) hgd s x ho A n c _ (.slice A1 m c1) (h1.below hr.1) hn rfl hs hx ?_
  intro A' c' w' hM' hg hat
  exact h A' c' w' (hM.row hr hM' hg) hg
set_option maxHeartbeats 6400000 in
set_option maxRecDepth 8000 in
theorem specCentralizerOf_any (P : Int) (A : Option Addr) (n c : Nat) (sq : List Int) (X : Option Addr) (m cx : Nat) (xs : List Int) (w : World) (hn : n ≤ 1048576) (hm : m ≤ 1048576) (ha : Rd w A n (ints sq)) (hx : Rd w X m (ints xs)) (hcx : m ≤ cx) :
    Calls Tryz.prog 72 #[.agg #[.int .i64 P, .slice A n c], .slice X m cx] w fun e w' => ∃ (A' : Option Addr) (k c' : Nat), e = .returned (.tuple #[.slice A' k c', .int .i64 (cenR P sq xs).2]) ∧ MkII w w' A' k c' (cenR P sq xs).1 := by
  have hB0 : Below w.heap.size w (w.alloc (.cells #[.int .i64 P, .slice A n c] 26)) := (Below.refl _ _).alloc (Nat.le_refl _) _
  have k0 : Blk (w.alloc (.cells #[.int .i64 P, .slice A n c] 26)) w.heap.size 26 #[.int .i64 P, .slice A n c] := Blk.new _ _ _
  have hB1 : Below w.heap.size w ((w.alloc (.cells #[.int .i64 P, .slice A n c] 26)).alloc (.cells #[.slice X m cx] 24)) := hB0.alloc (by simp) _
  have k1 : Blk ((w.alloc (.cells #[.int .i64 P, .slice A n c] 26)).alloc (.cells #[.slice X m cx] 24)) w.heap.size 26 #[.int .i64 P, .slice A n c] := k0.alloc _
  have hreg := l10Code_any P A (some ⟨w.heap.size + 1, 0, none⟩) n c 1 1 sq [xs] ((w.alloc (.cells #[.int .i64 P, .slice A n c] 26)).alloc (.cells #[.slice X m cx] 24)) hn (by omega) (ha.below hB1) (rdII_one' (Blk.newAt3 (by simp)) (hx.below hB1) hcx) (all_one (by rw [hx.lenI]; exact hm))
  by_cases hr0 : codeB P sq [xs] = 0
  · rw [hr0] at hreg
    obtain ⟨HP, hp, hp2, hd1, hd2, hs, hms⟩ := codeM_spec3 (codeR_zero2 (codeB_zero hr0))
    have hxl := hx.lenI
    have hsl := ha.lenI
    obtain ⟨hl1, hxs⟩ := hms xs (by simp)
    have hn6 : n ≤ 6 := by omega
    have hn0 : 0 < n := by omega
    have hmn : m = pw n := by rw [← hxl, hl1, hsl]
    subst hmn
    have HSL := Lib.hid hsl
    have HS := Lib.hid hs
    have HXS := Lib.hid hxs
    have HXL := Lib.hid hxl
    clear hxl hsl hms hl1 hd1 hd2 hs hxs
    have HR0 := Lib.hid hr0
    clear hr0
    by_cases h4 : n ≤ 4
    · have HOK : Hid (cenR P sq xs = (cenL P sq n xs, 0)) := Lib.hid (by rw [cenR_ok HR0.out (by rw [HSL.out]; exact h4), HSL.out])
      have HSAME := Lib.hid (cen_same (sq := sq) (n := n) HP HXL.out HXS.out)
      have d4 : decide (4 < (n : Int)) = false := by simp; omega
      have hpw : pw n ≤ 64 := pw_le hn6
      have hpn := pw_pos n
      go_enter Tryz.func72, Tryz.ntmps72
      go_wp2_with fail
      refine hreg.mono ?_
      rintro e w2 ⟨rfl, hb2⟩
      have hB2 := hB1.trans (hb2.mono hB1.size)
      have k2 := k1.below hb2 k1.lt
      obtain ⟨q0, q1⟩ := k2.two
      clear k0 hB0 k1 hB1 hb2
      have hB3 := (hB2.alloc hB2.size (.cells #[] 2)).alloc (Nat.le_trans hB2.size (by simp)) (.cells #[] 24)
      have k3 := (k2.alloc (.cells #[] 2)).alloc (.cells #[] 24)
      have hT3 : Two w ((w2.alloc (.cells #[] 2)).alloc (.cells #[] 24)) (some ⟨w2.heap.size, 0, none⟩) 0 0 [] (some ⟨w2.heap.size + 1, 0, none⟩) 0 0 [] :=
        Two.start hB3 ((Blk.new _ _ _).alloc _) (Blk.newAt3 (by simp)) hB2.size (Nat.le_trans hB2.size (Nat.le_succ _))
      go_wp2
      obtain ⟨w3, hw3⟩ : ∃ W, W = (w2.alloc (.cells #[] 2)).alloc (.cells #[] 24) := ⟨_, rfl⟩
      rw [← hw3] at hT3 k3 hB3 ⊢
      clear hw3 hB3 q0 q1 k2 hB2
      go_loopw [7, 8, 9] (fun msl col i wr => ∃ (k : Nat) (Am : Option Addr) (cm : Nat) (A' : Option Addr) (c' : Nat), k ≤ pw n ∧ i = .int .i64 k ∧ msl = .slice Am (msT k).length cm ∧ col = .slice A' (msT k).length c' ∧ Two w wr Am (msT k).length cm (msI k) A' (msT k).length c' ((msT k).map fun m => brkL P sq n xs (unitRow (pw n) m)) ∧ Blk wr w.heap.size 26 #[.int .i64 P, .slice A n c]) (fun _ _ i _ => pw n - (intOf i).toNat)
      case atStart => exact ⟨0, _, _, _, _, by omega, rfl, rfl, rfl, by simpa [msT, msI] using hT3, k3⟩
      case round =>
        obtain ⟨k, Am, cm, A', c', hk, rfl, rfl, rfl, hM, k4⟩ := hrel
        clear hT3 k3
        obtain ⟨q0, q1⟩ := k4.two
        have hml := msT_le k
        go_wp2_with fail
        refine (l04Size_any P A n c _ (by omega)).mono ?_
        rintro e w5 ⟨rfl, hb5⟩
        have hM5 := hM.below hb5
        have k5 := k4.below hb5 k4.lt
        clear hM k4 q0 q1 hb5
        obtain ⟨q0, q1⟩ := k5.two
        by_cases hlt : k < pw n
        · have i1 : (0 : Int) ≤ (k : Int) := by omega
          have i2 : (k : Int) < (pw n : Int) := by omega
          have dl : decide ((k : Int) < (pw n : Int)) = true := by simp; omega
          have hk64 : k < 64 := by omega
          by_cases hpc : pc k = 2
          · have HMS : Hid (msT (k + 1) = msT k ++ [k]) := Lib.hid (by rw [msT_succ, if_pos hpc])
            have he2 : (((pc k : Nat) : Int) == 2) = true := by simp; omega
            clear hpc
            go_wp2_with (go_at_call 215; refine (l04Grade_any k _ hk64).mono ?_; rintro e w' ⟨rfl, rfl⟩)
            refine (l04Zero_any P A n c _ (by omega)).mono ?_
            rintro e w6 ⟨A6, c6, rfl, hM6⟩
            rcases hM6.2.form with ⟨rfl, hzz⟩ | ⟨g6, rfl, hg6a, hg6b⟩
            · exact absurd hzz (by omega)
            obtain ⟨hc1, hf1⟩ := mkI_at hM6 hlt
            obtain ⟨hm2, _⟩ := Mk.set hM6 k (.int .i64 1)
            rw [ints_set] at hm2
            have HRU := Lib.hid (show MkI w5 _ (some ⟨g6, 0, none⟩) (pw n) c6 (unitRow (pw n) k) from hm2)
            have k6 := k5.below hm2.b k5.lt
            have hM7 := hM5.below hm2.b
            have hap := Own.apart_of hM5.i.2 HRU.out.2 (Nat.le_refl _)
            have HM7 := Lib.hid hM7
            have i3 : (0 : Int) ≤ (pw n : Int) := by omega
            clear hm2 hM7 hM5 q0 q1
            go_wp2_with (first
              | (at_builtin; refine wpList_app1 w _ 24 2 _ _ Tryz.underlying24 info_i rfl (by omega) rfl _ _ rfl Am _ cm _ _ HM7.out.i (by omega) rfl rfl ?_ ?_; (go_simp); intro A8 c8 w8 hM8 hg8 hat8
                 have hM9 := HM7.out.number hM8 hg8 hat8
                 have k8 := k6.grown hg8 (HM7.out.i.2.ne_blk k6 (by decide))
                 have hru := HRU.out.2.grown hg8 (hap.row)
                 have hcall := l04Bracket_any P A n c sq X cx xs (some ⟨g6, 0, none⟩) c6 (unitRow (pw n) k) w8 hp hp2 hn6 (ha.below hM9.b) HS.out (hx.below hM9.b) HXS.out hru.rd (unitRow_nums hp _ k)
                 obtain ⟨q0, q1⟩ := k8.two
                 have HM9 := Lib.hid hM9
                 clear hM8 hat8 hg8 hru hM9 k6 hc1 hf1 hap)
              | (go_at_call 131; refine hcall.mono ?_; rintro e w10 ⟨A10, c10, rfl, hM10⟩)
              | (at_builtin; refine wpList_twoRow w w8 _ rfl _ _ rfl A8 _ c8 _ A' _ c' _ A10 (pw n) c10 _ HM9.out hM10 (by omega) rfl ?_ ?_; (go_simp); intro A11 c11 w11 hM11 hg11))
            have k10 := k8.below hM10.b k8.lt
            clear hcall k8 q0 q1
            have k11 := k10.grown hg11 ((HM9.out.ii.below hM10.b).ne_blk k10 (by decide))
            clear hg11 k10 hM10
            have hl : (msT (k + 1)).length = (msT k).length + 1 := by rw [HMS.out]; simp
            go_roundw
            case rel =>
              refine ⟨k + 1, A8, c8, A11, c11, by omega, by go_num, by rw [hl], by rw [hl], ?_, k11⟩
              rw [hl]
              have e1 : msI (k + 1) = msI k ++ [(k : Int)] := by unfold msI; rw [HMS.out, List.map_append]; rfl
              rw [e1, HMS.out, List.map_append]
              exact hM11
            case measure => simp [intOf]; omega
          · have HMS : Hid (msT (k + 1) = msT k) := Lib.hid (by rw [msT_succ, if_neg hpc])
            have he2 : (((pc k : Nat) : Int) == 2) = false := by simp; omega
            clear hpc
            go_wp2_with (go_at_call 215; refine (l04Grade_any k _ hk64).mono ?_; rintro e w' ⟨rfl, rfl⟩)
            go_roundw
            case rel => exact ⟨k + 1, Am, cm, A', c', by omega, by go_num, by rw [HMS.out], by rw [HMS.out], by unfold msI at *; rw [HMS.out]; exact hM5, k5⟩
            case measure => simp [intOf]; omega
        · obtain rfl : k = pw n := by omega

          have hMi := hM5.i
          have hMii := hM5.ii
          have hB5 := hM5.b
          have dl : decide (((pw n : Nat) : Int) < ((pw n : Nat) : Int)) = false := by simp
          have hKl : (msI (pw n)).length = (msT (pw n)).length := msI_len _
          by_cases hK0 : (msT (pw n)).length = 0
          · have hnil : cenL P sq n xs = [] := by
              rw [← HSAME.out]; unfold scenL; rw [if_pos hK0]
            rw [hnil] at HOK
            have e0 : (((msT (pw n)).length : Int) == 0) = true := by simp; exact List.eq_nil_of_length_eq_zero hK0
            clear hM5 hnil hMi hMii
            go_wp2
            go_ret2
            exact aMat3 HOK.out (MkII.empty hB5)
          · have e0 : (((msT (pw n)).length : Int) == 0) = false := by simp; intro e; exact hK0 (by rw [e]; rfl)
            obtain ⟨nk, hKe⟩ : ∃ nk, nk = (msT (pw n)).length := ⟨_, rfl⟩
            have HKE := Lib.hid hKe
            have hKle : nk ≤ 64 := by omega
            have hK1 : 0 < nk := by omega
            rw [← hKe] at hMi hMii hKl e0 hK0 ⊢
            obtain ⟨KN, hKN⟩ : ∃ R, R = kernL P (transL (scols P sq n xs)) nk := ⟨_, rfl⟩
            have HKN := Lib.hid hKN
            have HKT : Hid (Tab P nk KN) := Lib.hid (by rw [hKN]; exact kernL_tab hp _ _)
            have hKNl : KN.length ≤ nk := by rw [hKN]; exact kernL_len HP _ _
            have HST := Lib.hid (scols_tab (P := P) (sq := sq) (n := n) (xs := xs) hp)
            have HTT : Hid (Tab P nk (transL (scols P sq n xs))) := Lib.hid (by
              have := transL_tab (p := P) (by omega) (scols_tab (P := P) (sq := sq) (n := n) (xs := xs) hp)
              rwa [scols_len, ← hKe] at this)
            have HTAKE : Hid (∀ k (hk : k < KN.length), (semb P sq n xs).take (k + 1) = (semb P sq n xs).take k ++ [embT (pw n) KN[k] nk]) := Lib.hid (fun k hk => by
              subst hKN; subst hKe; exact semb_take hk)
            have HSL2 : Hid ((semb P sq n xs).length = KN.length) := Lib.hid (by subst hKN; subst hKe; exact semb_len)
            have HSR : Hid (cenL P sq n xs = basisL P (semb P sq n xs)) := Lib.hid (by rw [← HSAME.out]; unfold scenL; rw [if_neg (by rw [← hKe]; exact hK0)])
            have HSO := Lib.hid (semb_tab (P := P) (sq := sq) (n := n) (xs := xs) hp)
            have HPP := Lib.hid HP
            have HCW : Hid (scols P sq n xs = (msT (pw n)).map fun m => brkL P sq n xs (unitRow (pw n) m)) := Lib.hid rfl
            rw [← HCW.out] at hMii
            have HMII := Lib.hid hMii
            have HMI := Lib.hid hMi
            have k6 := k5.alloc (.cells #[] 24)
            have hB6 := hB5.alloc hB5.size (.cells #[] 24)
            have hE6 : Blk (w5.alloc (.cells #[] 24)) w5.heap.size 24 #[] := Blk.new _ _ _
            have hab : Below w5.heap.size w5 (w5.alloc (.cells #[] 24)) := (Below.refl _ _).alloc (Nat.le_refl _) _
            have hl65 : w5.heap.size < (w5.alloc (.cells #[] 24)).heap.size := by simp
            clear hM5 hKN hKe hMii hMi q0 q1
            obtain ⟨q0, q1⟩ := k6.two
            go_wp2
            obtain ⟨w6, hw6⟩ : ∃ W, W = w5.alloc (.cells #[] 24) := ⟨_, rfl⟩
            rw [← hw6] at k6 hB6 hE6 hab q0 q1 hl65 ⊢
            clear hw6

            refine wp_obs 6 [[], [0], [], [2], [0, 1, 2, 3], [0, 1, 2, 3, 4]] [VIs (.pointer (some ⟨w.heap.size, 0, none⟩)), VIs (.int .i64 (P)), VIs (.slice A' nk c'), VMat w6 (pw n) (transL (scols P sq n xs)), VMat w6 KN.length KN, VMat w6 KN.length KN] (fun w' => Blk w' w.heap.size 26 #[.int .i64 P, .slice A n c] ∧ Below w6.heap.size w6 w') (by kernel_rfl) (by kernel_rfl) (fun _ _ h hb => ⟨h.1.below hb h.1.lt, h.2.trans (hb.mono h.2.size)⟩) (⟨k6.drew, (Below.refl _ _).drew⟩) (fun x => ?_)
            refine obs_step (Eq.trans (by simp only [List.getElem?_toArray, List.getElem?_cons_zero]; exact rfl) rfl) rfl (fun w' hS hV K hK => ?_) ?_
            · obtain ⟨q0, q1⟩ := hS.1.two
              go_simp
              exact hK.out _ _ _ rfl rfl rfl (Below.refl _ _)
            simp only [List.setIfInBounds_toArray, List.set_cons_zero, List.set_cons_succ]
            refine obs_step (Eq.trans (by simp only [List.getElem?_toArray, List.getElem?_cons_succ, List.getElem?_cons_zero]; exact rfl) rfl) rfl (fun w' hS hV K hK => ?_) ?_
            · have e0 : x 0 = (.pointer (some ⟨w.heap.size, 0, none⟩)) := hV 0 (by decide)
              obtain ⟨q0, q1⟩ := hS.1.two
              go_simp
              exact hK.out _ _ _ rfl rfl rfl (Below.refl _ _)
            simp only [List.setIfInBounds_toArray, List.set_cons_zero, List.set_cons_succ]
            refine obs_step (Eq.trans (by simp only [List.getElem?_toArray, List.getElem?_cons_succ, List.getElem?_cons_zero]; exact rfl) rfl) rfl (fun w' hS hV K hK => ?_) ?_
            · obtain ⟨q0, q1⟩ := hS.1.two
              go_simp
              exact hK.out _ _ _ rfl rfl rfl (Below.refl _ _)
            simp only [List.setIfInBounds_toArray, List.set_cons_zero, List.set_cons_succ]
            refine obs_step (Eq.trans (by simp only [List.getElem?_toArray, List.getElem?_cons_succ, List.getElem?_cons_zero]; exact rfl) rfl) rfl (fun w' hS hV K hK => ?_) ?_
            · have e2 : x 2 = (.slice A' nk c') := hV 2 (by decide)
              obtain ⟨q0, q1⟩ := hS.1.two
              go_simp
              refine (l02Turn_any P _ _ _ (scols P sq n xs) (pw n) _ hK1 (by omega) (by omega) ((HMII.out.below hab).rd.below hS.2) HST.out).mono ?_
              rintro e v1 ⟨A9, c9, rfl, hM⟩
              exact hK.out _ _ _ rfl rfl ⟨_, _, rfl, hM.after hS.2⟩ hM.b
            simp only [List.setIfInBounds_toArray, List.set_cons_zero, List.set_cons_succ]
            refine obs_step (Eq.trans (by simp only [List.getElem?_toArray, List.getElem?_cons_succ, List.getElem?_cons_zero]; exact rfl) rfl) rfl (fun w' hS hV K hK => ?_) ?_
            · have e0 : x 0 = (.pointer (some ⟨w.heap.size, 0, none⟩)) := hV 0 (by decide)
              have e1 : x 1 = (.int .i64 (P)) := hV 1 (by decide)
              have e2 : x 2 = (.slice A' nk c') := hV 2 (by decide)
              obtain ⟨A3, c3, e3, h3⟩ := hV 3 (by decide)
              obtain ⟨q0, q1⟩ := hS.1.two
              go_simp
              refine (l02Kernel_any P _ _ _ (transL (scols P sq n xs)) nk _ HPP.out (by omega) (by omega) (by omega) h3.rd HTT.out).mono ?_
              rw [← HKN.out]
              rintro e v1 ⟨A9, c9, rfl, hM⟩
              exact hK.out _ _ _ rfl rfl ⟨_, _, rfl, hM.after hS.2⟩ hM.b
            simp only [List.setIfInBounds_toArray, List.set_cons_zero, List.set_cons_succ]
            refine obs_step (Eq.trans (by simp only [List.getElem?_toArray, List.getElem?_cons_succ, List.getElem?_cons_zero]; exact rfl) rfl) rfl (fun w' hS hV K hK => ?_) ?_
            · have e0 : x 0 = (.pointer (some ⟨w.heap.size, 0, none⟩)) := hV 0 (by decide)
              have e1 : x 1 = (.int .i64 (P)) := hV 1 (by decide)
              have e2 : x 2 = (.slice A' nk c') := hV 2 (by decide)
              obtain ⟨A3, c3, e3, h3⟩ := hV 3 (by decide)
              obtain ⟨A4, c4, e4, h4⟩ := hV 4 (by decide)
              obtain ⟨q0, q1⟩ := hS.1.two
              go_simp
              exact hK.out _ _ _ rfl rfl ⟨_, _, rfl, h4⟩ (Below.refl _ _)
            simp only [List.setIfInBounds_toArray, List.set_cons_zero, List.set_cons_succ]
            refine fun w' hS hV => ?_
            have e0 : x 0 = (.pointer (some ⟨w.heap.size, 0, none⟩)) := hV 0 (by decide)
            have e1 : x 1 = (.int .i64 (P)) := hV 1 (by decide)
            have e2 : x 2 = (.slice A' nk c') := hV 2 (by decide)
            obtain ⟨A3, c3, e3, h3⟩ := hV 3 (by decide)
            obtain ⟨A4, c4, e4, h4⟩ := hV 4 (by decide)
            obtain ⟨A5, c5, e5, h5⟩ := hV 5 (by decide)
            simp only [e0, e1, e2, e3, e4, e5]
            clear e0 e1 e2 e3 e4 e5
            refine wpAny_done (by kernel_rfl) ?_ _
            obtain ⟨w7, rfl⟩ : ∃ W, W = w' := ⟨_, rfl⟩
            have k7 := hS.1
            have hB7 := hB6.trans (hS.2.mono hB6.size)
            have hE7 := hE6.below hS.2 hl65
            have hKN7 := h5.rd
            have hMS7 : Rd w7 Am nk (ints (msI (pw n))) := (HMI.out.rd.below hab).below hS.2
            have hO7 : MkII w w7 (some ⟨w5.heap.size, 0, none⟩) 0 0 [] := ⟨[], ⟨hB7, Own.of_cells (cs := #[]) hB5.size hE7 (by simp [maxLen])⟩, Nest.nil _ _⟩
            have hgr0 : Grows w7 w7 w5.heap.size (.slice (some ⟨w5.heap.size, 0, none⟩) 0 0) := ⟨CK.refl _, Nat.le_refl _, fun gb h => .inl (by simpa [Value.ownBlock] using h.symm)⟩
            obtain ⟨g9, hg9⟩ : ∃ g, g = w5.heap.size := ⟨_, rfl⟩
            obtain ⟨A8, hA8⟩ : ∃ g, g = A5 := ⟨_, rfl⟩
            obtain ⟨c8, hc8⟩ : ∃ g, g = c5 := ⟨_, rfl⟩
            rw [← hA8] at hKN7 ⊢
            rw [← hg9] at hE7 hO7 hgr0 ⊢
            rw [← hc8]
            clear hS h5 h3 h4 hA8 hc8 hg9 k6 hB6 hE6 hab q0 q1 HMII HMI hl65 hB5 k5
            go_wp2
            go_loopw [11, 13] (fun out i wr => ∃ (k : Nat) (A1 : Option Addr) (c1 : Nat), k ≤ KN.length ∧ i = .int .i64 k ∧ out = .slice A1 k c1 ∧ MkII w wr A1 k c1 ((semb P sq n xs).take k) ∧ Grows w7 wr g9 (.slice A1 k c1) ∧ Blk wr w.heap.size 26 #[.int .i64 P, .slice A n c]) (fun _ i _ => KN.length - (intOf i).toNat)
            case atStart => exact ⟨0, _, _, by omega, rfl, rfl, by simpa using hO7, hgr0, k7⟩
            case round =>
              obtain ⟨k, A1, c1, hk, rfl, rfl, hM, hgr, k8⟩ := hrel
              clear hO7 hgr0 k7
              obtain ⟨wo, rfl⟩ : ∃ W, W = wr := ⟨_, rfl⟩
              obtain ⟨q0, q1⟩ := k8.two
              by_cases hlt : k < KN.length
              · obtain ⟨gl, ol, rfl, hxk, Ar, cr, hcl, hrr, hcc⟩ := (hKN7.ck hgr.1).at_ hlt
                have hlk : KN[k].length = nk := (HKT.out _ (List.getElem_mem hxk)).1
                have HZN := Lib.hid (HKT.out _ (List.getElem_mem hxk)).2
                rw [hlk] at hcl hrr hcc
                have HAP := Lib.hid (HTAKE.out k hxk)
                obtain ⟨z, hz⟩ : ∃ z, z = KN[k] := ⟨_, rfl⟩
                rw [← hz] at hrr HAP HZN hlk
                have hms8 := hMS7.ck hgr.1
                have HM := Lib.hid hM
                have HGR := Lib.hid hgr
                have i1 : (0 : Int) ≤ (k : Int) := by omega
                have i2 : (k : Int) < (KN.length : Int) := by omega
                clear hM hgr hcc hz hxk
                go_wp2_with fail
                refine (l04Zero_any P A n c _ (by omega)).mono ?_
                rintro e w9 ⟨A9, c9, rfl, hM9⟩
                rcases hM9.2.form with ⟨rfl, hzz⟩ | ⟨g14, rfl, hga, hgb⟩
                · exact absurd hzz (by omega)
                have k9 := k8.below hM9.b k8.lt
                clear q0 q1
                go_wp2
                go_loopw [15] (fun i vi => ∃ (j : Nat), j ≤ nk ∧ i = .int .i64 j ∧ MkI wo vi (some ⟨g14, 0, none⟩) (pw n) c9 (embT (pw n) z j)) (fun i _ => nk - (intOf i).toNat)
                case atStart => exact ⟨0, by omega, rfl, by simpa [embT] using hM9⟩
                case round =>
                  obtain ⟨j, hj, rfl, hY⟩ := hrel
                  clear hM9
                  by_cases hlj : j < nk
                  · obtain ⟨gm, om, rfl, hxm, hcm0⟩ := (hms8.below hY.b).int hlj
                    rw [msI_at hxm] at hcm0
                    obtain ⟨gr, orr, rfl, hzj, hcz⟩ := (hrr.below hY.b).int hlj
                    have hcl2 := (hY.b.cell (World.block_lt_of_cell? _ _ hcl)).trans hcl
                    have hml := (msT_at (show j < (msT (pw n)).length by rw [← HKE.out]; exact hlj)).1
                    have HV : Hid (embT (pw n) z (j + 1) = (embT (pw n) z j).set ((msT (pw n)).getD j 0) z[j]) := Lib.hid (by rw [embT_succ, getD_of_lt 0 hzj])
                    obtain ⟨mj, hmj⟩ : ∃ x, x = (msT (pw n)).getD j 0 := ⟨_, rfl⟩
                    obtain ⟨zj, hzz⟩ : ∃ x, x = z[j] := ⟨_, rfl⟩
                    rw [← hmj] at hcm0 hml HV
                    rw [← hzz] at hcz HV
                    have i3 : (0 : Int) ≤ (j : Int) := by omega
                    have i4 : (j : Int) < (nk : Int) := by omega
                    have i5 : (0 : Int) ≤ (mj : Int) := by omega
                    have i6 : (mj : Int) < ((pw n : Nat) : Int) := by omega
                    have HY := Lib.hid hY
                    clear hmj hzz hzj hxm hrr hcl hms8 hY
                    go_wp2

                    refine wp_obs 13 [[], [], [], [1, 2], [1, 2, 3], [], [], [5, 6], [5, 6, 7], [], [5, 6, 7, 8, 9], [5, 6, 7, 8, 9, 10], [0, 1, 2, 3, 4], [0, 1, 2, 3, 4, 5, 6, 7, 8, 9, 10, 11, 12]] [VIs (.slice (some ⟨g14, 0, none⟩) (pw n) c9), VIs (.slice (some ⟨gm, om, none⟩) nk cm), VIs (.int .i64 (j)), VIs (.pointer (some ⟨gm, om + j, none⟩)), VIs (.int .i64 (mj)), VIs (.slice (some ⟨gl, ol, none⟩) KN.length c8), VIs (.int .i64 (k)), VIs (.pointer (some ⟨gl, ol + k, none⟩)), VIs (.slice (some ⟨gr, orr, none⟩) nk cr), VIs (.int .i64 (j)), VIs (.pointer (some ⟨gr, orr + j, none⟩)), VIs (.int .i64 (zj)), VIs (.pointer (some ⟨g14, mj, none⟩))] (fun w' => w'.cell? ⟨gm, om + j, none⟩ = some (.int .i64 mj) ∧ w'.cell? ⟨gl, ol + k, none⟩ = some (.slice (some ⟨gr, orr, none⟩) nk cr) ∧ w'.cell? ⟨gr, orr + j, none⟩ = some (.int .i64 zj) ∧ MkI wo w' (some ⟨g14, 0, none⟩) (pw n) c9 (embT (pw n) z j)) (by kernel_rfl) (by kernel_rfl) (fun _ _ h hb => ⟨(hb.cell (World.block_lt_of_cell? _ _ h.1)).trans h.1, (hb.cell (World.block_lt_of_cell? _ _ h.2.1)).trans h.2.1, (hb.cell (World.block_lt_of_cell? _ _ h.2.2.1)).trans h.2.2.1, h.2.2.2.below hb⟩) (⟨hcm0, hcl2, hcz, HY.out.below ((Below.refl _ _).drew)⟩) (fun x => ?_)
                    refine obs_step (Eq.trans (by simp only [List.getElem?_toArray, List.getElem?_cons_zero]; exact rfl) rfl) rfl (fun w' hS hV K hK => ?_) ?_
                    · have q2 := hS.1; have q3 := hS.2.1; have q4 := hS.2.2.1
                      go_simp
                      exact hK.out _ _ _ rfl rfl rfl (Below.refl _ _)
                    simp only [List.setIfInBounds_toArray, List.set_cons_zero, List.set_cons_succ]
                    refine obs_step (Eq.trans (by simp only [List.getElem?_toArray, List.getElem?_cons_succ, List.getElem?_cons_zero]; exact rfl) rfl) rfl (fun w' hS hV K hK => ?_) ?_
                    · have q2 := hS.1; have q3 := hS.2.1; have q4 := hS.2.2.1
                      go_simp
                      exact hK.out _ _ _ rfl rfl rfl (Below.refl _ _)
                    simp only [List.setIfInBounds_toArray, List.set_cons_zero, List.set_cons_succ]
                    refine obs_step (Eq.trans (by simp only [List.getElem?_toArray, List.getElem?_cons_succ, List.getElem?_cons_zero]; exact rfl) rfl) rfl (fun w' hS hV K hK => ?_) ?_
                    · have q2 := hS.1; have q3 := hS.2.1; have q4 := hS.2.2.1
                      go_simp
                      exact hK.out _ _ _ rfl rfl rfl (Below.refl _ _)
                    simp only [List.setIfInBounds_toArray, List.set_cons_zero, List.set_cons_succ]
                    refine obs_step (Eq.trans (by simp only [List.getElem?_toArray, List.getElem?_cons_succ, List.getElem?_cons_zero]; exact rfl) rfl) rfl (fun w' hS hV K hK => ?_) ?_
                    · have e1 : x 1 = (.slice (some ⟨gm, om, none⟩) nk cm) := hV 1 (by decide)
                      have e2 : x 2 = (.int .i64 (j)) := hV 2 (by decide)
                      have q2 := hS.1; have q3 := hS.2.1; have q4 := hS.2.2.1
                      go_simp
                      exact hK.out _ _ _ rfl rfl rfl (Below.refl _ _)
                    simp only [List.setIfInBounds_toArray, List.set_cons_zero, List.set_cons_succ]
                    refine obs_step (Eq.trans (by simp only [List.getElem?_toArray, List.getElem?_cons_succ, List.getElem?_cons_zero]; exact rfl) rfl) rfl (fun w' hS hV K hK => ?_) ?_
                    · have e1 : x 1 = (.slice (some ⟨gm, om, none⟩) nk cm) := hV 1 (by decide)
                      have e2 : x 2 = (.int .i64 (j)) := hV 2 (by decide)
                      have e3 : x 3 = (.pointer (some ⟨gm, om + j, none⟩)) := hV 3 (by decide)
                      have q2 := hS.1; have q3 := hS.2.1; have q4 := hS.2.2.1
                      go_simp
                      exact hK.out _ _ _ rfl rfl rfl (Below.refl _ _)
                    simp only [List.setIfInBounds_toArray, List.set_cons_zero, List.set_cons_succ]
                    refine obs_step (Eq.trans (by simp only [List.getElem?_toArray, List.getElem?_cons_succ, List.getElem?_cons_zero]; exact rfl) rfl) rfl (fun w' hS hV K hK => ?_) ?_
                    · have q2 := hS.1; have q3 := hS.2.1; have q4 := hS.2.2.1
                      go_simp
                      exact hK.out _ _ _ rfl rfl rfl (Below.refl _ _)
                    simp only [List.setIfInBounds_toArray, List.set_cons_zero, List.set_cons_succ]
                    refine obs_step (Eq.trans (by simp only [List.getElem?_toArray, List.getElem?_cons_succ, List.getElem?_cons_zero]; exact rfl) rfl) rfl (fun w' hS hV K hK => ?_) ?_
                    · have q2 := hS.1; have q3 := hS.2.1; have q4 := hS.2.2.1
                      go_simp
                      exact hK.out _ _ _ rfl rfl rfl (Below.refl _ _)
                    simp only [List.setIfInBounds_toArray, List.set_cons_zero, List.set_cons_succ]
                    refine obs_step (Eq.trans (by simp only [List.getElem?_toArray, List.getElem?_cons_succ, List.getElem?_cons_zero]; exact rfl) rfl) rfl (fun w' hS hV K hK => ?_) ?_
                    · have e5 : x 5 = (.slice (some ⟨gl, ol, none⟩) KN.length c8) := hV 5 (by decide)
                      have e6 : x 6 = (.int .i64 (k)) := hV 6 (by decide)
                      have q2 := hS.1; have q3 := hS.2.1; have q4 := hS.2.2.1
                      go_simp
                      exact hK.out _ _ _ rfl rfl rfl (Below.refl _ _)
                    simp only [List.setIfInBounds_toArray, List.set_cons_zero, List.set_cons_succ]
                    refine obs_step (Eq.trans (by simp only [List.getElem?_toArray, List.getElem?_cons_succ, List.getElem?_cons_zero]; exact rfl) rfl) rfl (fun w' hS hV K hK => ?_) ?_
                    · have e5 : x 5 = (.slice (some ⟨gl, ol, none⟩) KN.length c8) := hV 5 (by decide)
                      have e6 : x 6 = (.int .i64 (k)) := hV 6 (by decide)
                      have e7 : x 7 = (.pointer (some ⟨gl, ol + k, none⟩)) := hV 7 (by decide)
                      have q2 := hS.1; have q3 := hS.2.1; have q4 := hS.2.2.1
                      go_simp
                      exact hK.out _ _ _ rfl rfl rfl (Below.refl _ _)
                    simp only [List.setIfInBounds_toArray, List.set_cons_zero, List.set_cons_succ]
                    refine obs_step (Eq.trans (by simp only [List.getElem?_toArray, List.getElem?_cons_succ, List.getElem?_cons_zero]; exact rfl) rfl) rfl (fun w' hS hV K hK => ?_) ?_
                    · have q2 := hS.1; have q3 := hS.2.1; have q4 := hS.2.2.1
                      go_simp
                      exact hK.out _ _ _ rfl rfl rfl (Below.refl _ _)
                    simp only [List.setIfInBounds_toArray, List.set_cons_zero, List.set_cons_succ]
                    refine obs_step (Eq.trans (by simp only [List.getElem?_toArray, List.getElem?_cons_succ, List.getElem?_cons_zero]; exact rfl) rfl) rfl (fun w' hS hV K hK => ?_) ?_
                    · have e5 : x 5 = (.slice (some ⟨gl, ol, none⟩) KN.length c8) := hV 5 (by decide)
                      have e6 : x 6 = (.int .i64 (k)) := hV 6 (by decide)
                      have e7 : x 7 = (.pointer (some ⟨gl, ol + k, none⟩)) := hV 7 (by decide)
                      have e8 : x 8 = (.slice (some ⟨gr, orr, none⟩) nk cr) := hV 8 (by decide)
                      have e9 : x 9 = (.int .i64 (j)) := hV 9 (by decide)
                      have q2 := hS.1; have q3 := hS.2.1; have q4 := hS.2.2.1
                      go_simp
                      exact hK.out _ _ _ rfl rfl rfl (Below.refl _ _)
                    simp only [List.setIfInBounds_toArray, List.set_cons_zero, List.set_cons_succ]
                    refine obs_step (Eq.trans (by simp only [List.getElem?_toArray, List.getElem?_cons_succ, List.getElem?_cons_zero]; exact rfl) rfl) rfl (fun w' hS hV K hK => ?_) ?_
                    · have e5 : x 5 = (.slice (some ⟨gl, ol, none⟩) KN.length c8) := hV 5 (by decide)
                      have e6 : x 6 = (.int .i64 (k)) := hV 6 (by decide)
                      have e7 : x 7 = (.pointer (some ⟨gl, ol + k, none⟩)) := hV 7 (by decide)
                      have e8 : x 8 = (.slice (some ⟨gr, orr, none⟩) nk cr) := hV 8 (by decide)
                      have e9 : x 9 = (.int .i64 (j)) := hV 9 (by decide)
                      have e10 : x 10 = (.pointer (some ⟨gr, orr + j, none⟩)) := hV 10 (by decide)
                      have q2 := hS.1; have q3 := hS.2.1; have q4 := hS.2.2.1
                      go_simp
                      exact hK.out _ _ _ rfl rfl rfl (Below.refl _ _)
                    simp only [List.setIfInBounds_toArray, List.set_cons_zero, List.set_cons_succ]
                    refine obs_step (Eq.trans (by simp only [List.getElem?_toArray, List.getElem?_cons_succ, List.getElem?_cons_zero]; exact rfl) rfl) rfl (fun w' hS hV K hK => ?_) ?_
                    · have e0 : x 0 = (.slice (some ⟨g14, 0, none⟩) (pw n) c9) := hV 0 (by decide)
                      have e1 : x 1 = (.slice (some ⟨gm, om, none⟩) nk cm) := hV 1 (by decide)
                      have e2 : x 2 = (.int .i64 (j)) := hV 2 (by decide)
                      have e3 : x 3 = (.pointer (some ⟨gm, om + j, none⟩)) := hV 3 (by decide)
                      have e4 : x 4 = (.int .i64 (mj)) := hV 4 (by decide)
                      have q2 := hS.1; have q3 := hS.2.1; have q4 := hS.2.2.1
                      go_simp
                      exact hK.out _ _ _ rfl rfl rfl (Below.refl _ _)
                    simp only [List.setIfInBounds_toArray, List.set_cons_zero, List.set_cons_succ]
                    refine fun w' hS hV => ?_
                    have e0 : x 0 = (.slice (some ⟨g14, 0, none⟩) (pw n) c9) := hV 0 (by decide)
                    have e1 : x 1 = (.slice (some ⟨gm, om, none⟩) nk cm) := hV 1 (by decide)
                    have e2 : x 2 = (.int .i64 (j)) := hV 2 (by decide)
                    have e3 : x 3 = (.pointer (some ⟨gm, om + j, none⟩)) := hV 3 (by decide)
                    have e4 : x 4 = (.int .i64 (mj)) := hV 4 (by decide)
                    have e5 : x 5 = (.slice (some ⟨gl, ol, none⟩) KN.length c8) := hV 5 (by decide)
                    have e6 : x 6 = (.int .i64 (k)) := hV 6 (by decide)
                    have e7 : x 7 = (.pointer (some ⟨gl, ol + k, none⟩)) := hV 7 (by decide)
                    have e8 : x 8 = (.slice (some ⟨gr, orr, none⟩) nk cr) := hV 8 (by decide)
                    have e9 : x 9 = (.int .i64 (j)) := hV 9 (by decide)
                    have e10 : x 10 = (.pointer (some ⟨gr, orr + j, none⟩)) := hV 10 (by decide)
                    have e11 : x 11 = (.int .i64 (zj)) := hV 11 (by decide)
                    have e12 : x 12 = (.pointer (some ⟨g14, mj, none⟩)) := hV 12 (by decide)
                    simp only [e0, e1, e2, e3, e4, e5, e6, e7, e8, e9, e10, e11, e12]
                    clear e0 e1 e2 e3 e4 e5 e6 e7 e8 e9 e10 e11 e12
                    obtain ⟨q2, q3, q4, hY2⟩ := hS
                    obtain ⟨hoc, hof⟩ := mkI_at hY2 hml
                    refine any_one (j := 13) (by kernel_rfl) (Eq.trans (by simp only [List.getElem?_toArray, List.getElem?_cons_succ, List.getElem?_cons_zero]; exact rfl) rfl) (fun K hK => ?_)
                    go_simp
                    refine hK.out _ _ (wpAny_done (by kernel_rfl) ?_ _)
                    have hY3 := (Mk.set hY2 mj (.int .i64 zj)).1
                    rw [ints_set, ← HV.out] at hY3
                    clear q2 q3 q4 hoc hof
                    go_wp2
                    go_roundw
                    case rel => exact ⟨j + 1, by omega, by go_num, hY3⟩
                    case measure => simp [intOf]; omega
                  · obtain rfl : j = nk := by omega
                    have HY := Lib.hid hY
                    have k10 := k8.below hY.b k8.lt
                    clear hY
                    go_wp2_with (at_builtin; refine wpList_appRowG w wo _ rfl _ _ rfl A1 k c1 _ (some ⟨g14, 0, none⟩) (pw n) c9 _ HM.out HY.out (by omega) rfl ?_ ?_; (go_simp); intro A20 c20 w20 hM20 hg20 hat20)
                    have k11 := k10.grown hg20 ((HM.out.below HY.out.b).ne_blk k10 (by decide))
                    have hgr7 := HGR.out.step (n' := k + 1) (c' := c20) hE7 HY.out.b hg20 hat20
                    clear k10 hg20 hat20
                    go_roundw
                    case rel => exact ⟨k + 1, A20, c20, by omega, by go_num, rfl, by rw [HAP.out]; exact hM20, hgr7, k11⟩
                    case measure => simp [intOf]; omega
              · obtain rfl : k = KN.length := by omega
                rw [List.take_of_length_le (by rw [HSL2.out]; exact Nat.le_refl _)] at hM
                have hcall := l02Basis_any P A1 KN.length c1 (semb P sq n xs) (pw n) wo HPP.out (by omega) (by omega) hM.rd HSO.out
                have hRl : (basisL P (semb P sq n xs)).length ≤ pw n := (basisL_red HPP.out _ HSO.out).len
                have hRT := basisL_tab (p := P) (by omega) _ HSO.out
                rw [HSR.out] at HOK
                obtain ⟨R, hR⟩ : ∃ R, R = basisL P (semb P sq n xs) := ⟨_, rfl⟩
                rw [← hR] at hcall hRl hRT HOK
                have HRT := Lib.hid hRT
                clear hR hRT
                go_wp2_with fail
                refine hcall.mono ?_
                rintro e w10 ⟨A10, c10, rfl, hM10⟩
                have hown := l01Own2_any P A10 R.length c10 R (pw n) w10 (by omega) (by omega) hM10.rd HRT.out
                go_wp2_with fail
                refine hown.mono ?_
                rintro e w11 ⟨A11, c11, rfl, hM11⟩
                go_wp2
                go_ret2
                exact aMat3 HOK.out (hM11.after (hM.b.trans (hM10.b.mono hM.b.size)))
    · have HOK : Hid (cenR P sq xs = ([], 3)) := Lib.hid (by rw [cenR_big HR0.out (by rw [HSL.out]; exact h4)])
      have d4 : decide (4 < (n : Int)) = true := by simp; omega
      go_enter Tryz.func72, Tryz.ntmps72
      go_wp2_with fail
      refine hreg.mono ?_
      rintro e w2 ⟨rfl, hb2⟩
      have hB2 := hB1.trans (hb2.mono hB1.size)
      have k2 := k1.below hb2 k1.lt
      obtain ⟨q0, q1⟩ := k2.two
      clear k0 hB0 k1 hB1 hb2
      go_wp2
      go_ret2
      exact noMat3 HOK.out hB2
  · obtain ⟨r, hr⟩ : ∃ r, r = codeB P sq [xs] := ⟨_, rfl⟩
    have HR := Lib.hid hr
    have HR0 := Lib.hid hr0
    have b0 : (r != 0) = true := code_ne (by rw [hr]; exact hr0)
    have b1 : (r == 0) = false := by simpa [hr] using hr0
    rw [← hr] at hreg
    clear hr hr0
    go_enter Tryz.func72, Tryz.ntmps72
    go_wp2_with fail
    refine hreg.mono ?_
    rintro e w2 ⟨rfl, hb2⟩
    have hB2 := hB1.trans (hb2.mono hB1.size)
    have k2 := k1.below hb2 k1.lt
    obtain ⟨q0, q1⟩ := k2.two
    clear k0 hB0 k1 hB1 hb2
    go_wp2
    go_ret2
    exact noMat3 (by rw [cenR_bad HR0.out, HR.out]) hB2
end Go.Proofs.YtggigolkncckoaaGreat
namespace Go.Proofs.YtggigolkncckoaaGreat
open Go.RowKit
set_option maxHeartbeats 1600000 in
theorem isTable_ok (p : Int) (A : Option Addr) (n c : Nat) (M : List (List Int)) (m : Nat) (w : World) (hp0 : 0 < p) (hp1 : p ≤ 13) (hn : n ≤ 16) (hm1 : 1 ≤ m) (hm : m ≤ 16) (ha : RdII w A n M) (hT : Tab p m M) :
    Calls Tryz.prog 222 #[.int .i64 p, .slice A n c] w fun e w' => e = .returned (.bool true) ∧ w = w' := by
  have HT := Lib.hid hT
  have t1 : decide ((16 : Int) < (n : Int)) = false := by simp; omega
  have t2 : decide ((m : Int) < 1) = false := by simp; omega
  have t3 : decide ((16 : Int) < (m : Int)) = false := by simp; omega
  have t4 : ((m : Int) != (m : Int)) = false := by simp
  clear hT
  go_enter Tryz.func222, Tryz.ntmps222
  go_wp2
  go_loopw [12] (fun i wr => ∃ k : Nat, k ≤ n ∧ i = .int .i64 k ∧ wr = w) (fun i _ => n - (intOf i).toNat)
  case atStart => exact ⟨0, by omega, rfl, rfl⟩
  case round =>
    obtain ⟨k, hk, rfl, rfl⟩ := hrel
    by_cases hlt : k < n
    · obtain ⟨g, o, rfl, hxk, A1, c1, hc1, hr1, -⟩ := ha.at_ hlt
      obtain ⟨g0, o0, e0, hx0, A0, c0, hc0, hr0, -⟩ := ha.at_ (show 0 < n by omega)
      cases e0
      obtain ⟨l1, n1⟩ := HT.out M[k] (List.getElem_mem hxk)
      obtain ⟨l0, -⟩ := HT.out M[0] (List.getElem_mem hx0)
      rw [l1] at hc1 hr1
      rw [l0] at hc0
      rw [Nat.add_zero] at hc0
      have his := is_b p A1 m c1 M[k] wr (by omega) (by omega) (by omega) hr1 (List.all_eq_true.2 fun x hx => by have := n1 x hx; simp [inR]; omega)
      clear hr1 hr0 l1 n1 l0 ha
      go_wp2_with fail
      refine his.mono ?_
      rintro e w1 ⟨rfl, rfl⟩
      go_wp2
      go_roundw
      case rel => exact ⟨k + 1, by omega, by go_num, by first | rfl | trivial⟩
      case measure => simp [intOf]; omega
    · go_wp2
      go_ret
      exact ⟨rfl, rfl⟩
/-- A block of matrices. -/
def RdM (w : World) (g n : Nat) (p : Int) : Prop := ∀ k, k < n → ∃ (A : Option Addr) (r c m : Nat) (M : List (List Int)), w.cell? ⟨g, k, none⟩ = some (.slice A r c) ∧ RdII w A r M ∧ Tab p m M ∧ 0 < r ∧ r ≤ 16 ∧ 1 ≤ m ∧ m ≤ 16
theorem RdM.below {w w' : World} {g n : Nat} {p : Int} (h : RdM w g n p) (hb : Below w.heap.size w w') : RdM w' g n p := fun k hk => by
  obtain ⟨A, r, c, m, M, h1, h2, h3⟩ := h k hk
  exact ⟨A, r, c, m, M, (hb.cell (World.block_lt_of_cell? _ _ h1)).trans h1, h2.below hb, h3⟩
end Go.Proofs.YtggigolkncckoaaGreat
namespace Go.Proofs.YtggigolkncckoaaGreat
open Go.RowKit
set_option maxHeartbeats 1600000 in
set_option maxRecDepth 8000 in
theorem spans_ok (p : Int) (A : Option Addr) (n c : Nat) (L : List (List Int)) (X : Option Addr) (m cx : Nat) (v : List Int) (w : World) (HP : isP p = true) (hn0 : 0 < n) (hn : n ≤ 16) (hm1 : 1 ≤ m) (hm : m ≤ 16) (ha : RdII w A n L) (hL : Tab p m L) (hx : Own w 0 2 X m cx (ints v)) (hv : NumsL p v) (hs : Sp p m L (fun q => v.getD q 0)) :
    Calls Tryz.prog 224 #[.int .i64 p, .slice A n c, .slice X m cx] w fun e w' => e = .returned (.bool true) ∧ Below w.heap.size w w' := by
  have hvl : v.length = m := hx.rd.lenI
  have hlen := span_len HP hL ⟨hvl, hv⟩ hs
  have hcl := cloneRows_any p A n c L m w (by omega) (by omega) ha hL
  have hb1 := Lib.hid fun (w' : World) (A' : Option Addr) (c' : Nat) (h : RdII w' A' (n + 1) (L ++ [v])) => basis_any p A' (n + 1) c' (L ++ [v]) m w' HP (by omega) (by omega) h (hL.snoc ⟨hvl, hv⟩)
  have hb2 := Lib.hid fun (w' : World) (h : Below w.heap.size w w') => basis_any p A n c L m w' HP (by omega) (by omega) (ha.below h) hL
  have HLEN := Lib.hid hlen
  have HX := Lib.hid hx
  clear hvl hlen hs hv hL ha hx HP
  go_enter Tryz.func224, Tryz.ntmps224
  go_wp2_with fail
  refine hcl.mono ?_
  rintro e w1 ⟨A1, c1, rfl, hM1⟩
  have HM1 := Lib.hid hM1
  clear hcl hM1
  go_wp2_with (at_builtin; (refine wpList_appRowO w w1 rfl _ _ rfl A1 n c1 L X m cx v HM1.out.o (HX.out.below HM1.out.b) (by omega) rfl rfl ?_; intro A2 c2 w2 hM2 hg2 hat2))
  have hcall := hb1.out w2 A2 c2 hM2.rd
  rw [HLEN.out] at hcall
  obtain ⟨k, hk⟩ : ∃ k, k = (basisL p L).length := ⟨_, rfl⟩
  rw [← hk] at hcall
  have hB2 := hM2.b
  clear hM2 hg2 hat2
  go_wp2_with fail
  refine hcall.mono ?_
  rintro e w3 ⟨A3, c3, rfl, hM3⟩
  have hB3 := hB2.trans (hM3.b.mono hB2.size)
  have hcal2 := hb2.out w3 hB3
  rw [← hk] at hcal2
  have e1 : ((k : Int) == (k : Int)) = true := by simp
  clear hcall hM3 hB2
  go_wp2_with fail
  refine hcal2.mono ?_
  rintro e w4 ⟨A4, c4, rfl, hM4⟩
  have hB4 := hB3.trans (hM4.b.mono hB3.size)
  clear hcal2 hM4
  go_wp2
  go_ret
  exact ⟨rfl, hB4⟩
set_option maxHeartbeats 1600000 in
set_option maxRecDepth 8000 in
theorem InSpan_ok (p : Int) (A : Option Addr) (n c : Nat) (L : List (List Int)) (X : Option Addr) (m cx : Nat) (v : List Int) (w : World) (HP : isP p = true) (hn0 : 0 < n) (hn : n ≤ 16) (hm1 : 1 ≤ m) (hm : m ≤ 16) (ha : RdII w A n L) (hL : Tab p m L) (hx : Own w 0 2 X m cx (ints v)) (hv : NumsL p v) (hs : Sp p m L (fun q => v.getD q 0)) :
    Calls Tryz.prog 74 #[.int .i64 p, .slice A n c, .slice X m cx] w fun e w' => e = .returned (.tuple #[.bool true, .int .i64 0]) ∧ Below w.heap.size w w' := by
  obtain ⟨hp3, hp2⟩ := isP_ge HP
  have hip := IsPrime_b p w HP
  have hit := isTable_ok p A n c L m w (by omega) hp2 hn hm1 hm ha hL
  have his := is_b p X m cx v w (by omega) (by omega) (by omega) hx.rd (List.all_eq_true.2 fun x hx => by have := hv x hx; simp [inR]; omega)
  have hsp := spans_ok p A n c L X m cx v w HP hn0 hn hm1 hm ha hL hx hv hs
  obtain ⟨g, o, rfl, hx0, A0, c0, hc0, -, -⟩ := ha.at_ hn0
  rw [(hL L[0] (List.getElem_mem hx0)).1, Nat.add_zero] at hc0
  have t1 : ((n : Int) == 0) = false := by simp; omega
  have t4 : ((m : Int) != (m : Int)) = false := by simp
  clear hL ha hx hv hs HP
  go_enter Tryz.func74, Tryz.ntmps74
  go_wp2_with fail
  refine hip.mono ?_
  rintro e w1 ⟨rfl, rfl⟩
  go_wp2_with fail
  refine hit.mono ?_
  rintro e w1 ⟨rfl, rfl⟩
  go_wp2_with fail
  refine his.mono ?_
  rintro e w1 ⟨rfl, rfl⟩
  go_wp2_with fail
  refine hsp.mono ?_
  rintro e w1 ⟨rfl, hb⟩
  go_wp2
  go_ret2
  exact ⟨rfl, hb⟩
end Go.Proofs.YtggigolkncckoaaGreat
namespace Go.Proofs.YtggigolkncckoaaGreat
open Go.RowKit
set_option maxHeartbeats 400000 in
theorem likeInts_any (A B : Option Addr) (n m c d : Nat) (xs ys : List Int) (w : World) (hn : n ≤ 1099511627776) (hm : m ≤ 1099511627776)
    (ha : Rd w A n (ints xs)) (hb : Rd w B m (ints ys)) :
    Calls Tryz.prog 19 #[.slice A n c, .slice B m d] w fun e w' => e = .returned (.bool (decide (xs = ys))) ∧ ∃ j, w' = w.drewN j := by
  have hxl : xs.length = n := by have := ha.1; rwa [ints_length] at this
  have hyl : ys.length = m := by have := hb.1; rwa [ints_length] at this
  by_cases hnm : n = m
  · subst hnm
    have Hx := Lib.hid hxl; clear hxl
    have Hy := Lib.hid hyl; clear hyl
    go_enter Tryz.func19, Tryz.ntmps19
    go_wp2
    go_loopw [5] (fun i wr => ∃ k j : Nat, k ≤ n ∧ i = .int .i64 k ∧ xs.take k = ys.take k ∧ wr = w.drewN j) (fun i _ => n - (intOf i).toNat)
    case atStart => exact ⟨0, 0, by omega, rfl, by simp, rfl⟩
    case round =>
      obtain ⟨k, j, hk, rfl, hxy, rfl⟩ := hrel
      have H := Lib.hid hxy; clear hxy
      by_cases hlt : k < n
      · obtain ⟨g, o, rfl, hx, hcx⟩ := ha.int hlt
        obtain ⟨g', o', rfl, hy, hcy⟩ := hb.int hlt
        clear ha hb
        go_wp2
        go_quiet (fail)
        go_wp2
        · go_ret
          exact ⟨ret_bool (ne_of_get xs ys k hx hy (by assumption)).symm, _, World.drewN_drewN _ _ _⟩
        · go_roundw
          case rel => exact ⟨k + 1, _, by omega, by go_num, take_succ_eq xs ys k hx hy H.out (by simpa using (by assumption : (xs[k] != ys[k]) = false)), rfl⟩
          case measure => simp [intOf]; omega
      · go_wp2
        go_ret
        refine ⟨ret_bool ?_, _, rfl⟩
        have := H.out
        rw [List.take_of_length_le (by rw [Hx.out]; omega), List.take_of_length_le (by rw [Hy.out]; omega)] at this
        rw [this]; simp
  · have hne : decide (xs = ys) = false := by
      rw [decide_eq_false_iff_not]; rintro rfl; omega
    have Hne := Lib.hid hne; clear hne hxl hyl
    have hb0 : ((n : Int) != (m : Int)) = true := by rw [bne_iff_ne]; omega
    go_enter Tryz.func19, Tryz.ntmps19
    go_wp2
    go_ret
    exact ⟨ret_bool Hne.out.symm, 0, rfl⟩
set_option maxHeartbeats 800000 in
theorem zero5_any (A : Option Addr) (n c : Nat) (xs : List Int) (w : World) (hn : n ≤ 1099511627776) (ha : Rd w A n (ints xs)) :
    Calls Tryz.prog 29 #[.slice A n c] w fun e w' => e = .returned (.bool (decide (∀ y ∈ xs, y = 0))) ∧ w' = w := by
  have hxl : xs.length = n := by have := ha.1; rwa [ints_length] at this
  have Hx := Lib.hid hxl; clear hxl
  go_enter Tryz.func29, Tryz.ntmps29
  go_wp2
  go_loopw [3] (fun i wr => ∃ k : Nat, k ≤ n ∧ i = .int .i64 k ∧ (∀ y ∈ xs.take k, y = 0) ∧ wr = w) (fun i _ => n - (intOf i).toNat)
  case atStart => exact ⟨0, by omega, rfl, by simp, rfl⟩
  case round =>
    obtain ⟨k, hk, rfl, hxy, rfl⟩ := hrel
    have H := Lib.hid hxy; clear hxy
    by_cases hlt : k < n
    · obtain ⟨g, o, rfl, hx, hcx⟩ := ha.int hlt
      have HM : Hid (xs[k] ∈ xs) := Lib.hid (List.getElem_mem hx)
      have HT : Hid (xs.take (k + 1) = xs.take k ++ [xs[k]]) := Lib.hid (List.take_succ_eq_append_getElem hx)
      obtain ⟨u, hu⟩ : ∃ u, u = xs[k] := ⟨_, rfl⟩
      rw [← hu] at hcx HM HT
      clear hu
      by_cases hz : u = 0
      · have b0 : (u != 0) = false := by simp [hz]
        go_wp2
        go_roundw
        case rel => exact ⟨k + 1, by omega, by go_num, fun y hy => by
          rw [HT.out] at hy
          rcases List.mem_append.1 hy with hy | hy
          · exact H.out y hy
          · rw [List.mem_singleton.1 hy]; exact hz, by trivial⟩
        case measure => simp [intOf]; omega
      · have b0 : (u != 0) = true := by simp [hz]
        go_wp2
        go_ret
        exact ⟨ret_bool (by rw [eq_comm, decide_eq_false_iff_not]; exact fun h => hz (h u HM.out)), rfl⟩
    · go_wp2
      go_ret
      have := H.out
      rw [List.take_of_length_le (by rw [Hx.out]; omega)] at this
      refine ⟨ret_bool ?_, rfl⟩
      rw [eq_comm, decide_eq_true_eq]; exact this
end Go.Proofs.YtggigolkncckoaaGreat
namespace Go.Proofs.YtggigolkncckoaaGreat
open Go.RowKit
theorem codeR_mk {P : Int} {sq : List Int} {ms : List (List Int)} (h1 : isSp P sq = true) (hr : regB sq = true) (h : ∀ ys ∈ ms, ys.length = pw sq.length ∧ NumsL P ys) : codeR P sq ms = 0 := by
  unfold codeR
  rw [if_pos (codeM_mk h1 h), hr]; rfl
set_option maxHeartbeats 1600000 in
set_option maxRecDepth 8000 in
theorem likeRows5_same (A B : Option Addr) (n c d : Nat) (M : List (List Int)) (w : World) (hn : n ≤ 1000) (ha : RdII w A n M) (hb : RdII w B n M) (hM : ∀ v ∈ M, v.length ≤ 1000000) :
    Calls Tryz.prog 73 #[.slice A n c, .slice B n d] w fun e w' => e = .returned (.bool true) ∧ Below w.heap.size w w' := by
  have t4 : ((n : Int) != (n : Int)) = false := by simp
  have HM := Lib.hid hM
  clear hM
  go_enter Tryz.func73, Tryz.ntmps73
  go_wp2
  go_loopw [5] (fun i wr => ∃ k : Nat, k ≤ n ∧ i = .int .i64 k ∧ Below w.heap.size w wr) (fun i _ => n - (intOf i).toNat)
  case atStart => exact ⟨0, by omega, rfl, Below.refl _ _⟩
  case round =>
    obtain ⟨k, hk, rfl, hB⟩ := hrel
    by_cases hlt : k < n
    · obtain ⟨g, o, rfl, hx1, A1, c1, hc1, hr1, -⟩ := (ha.below hB).at_ hlt
      obtain ⟨g2, o2, rfl, hx2, A2, c2, hc2, hr2, -⟩ := (hb.below hB).at_ hlt
      have hml := HM.out M[k] (List.getElem_mem hx1)
      obtain ⟨v, hv⟩ : ∃ v, v = M[k] := ⟨_, rfl⟩
      rw [← hv] at hc1 hc2 hr1 hr2 hml
      obtain ⟨q, hq⟩ : ∃ q, q = v.length := ⟨_, rfl⟩
      rw [← hq] at hc1 hc2 hr1 hr2 hml
      have hr3 : ∀ w', Below w.heap.size w w' → Rd w' A1 q (ints v) ∧ Rd w' A2 q (ints v) := fun w' h => by
        obtain ⟨_, _, e1, hx3, A3, c3, hc3, hr3, -⟩ := ha.at_ hlt
        obtain ⟨_, _, e2, hx4, A4, c4, hc4, hr4, -⟩ := hb.at_ hlt
        cases e1
        cases e2
        rw [(hB.cell (World.block_lt_of_cell? _ _ hc3)), hc3] at hc1
        rw [(hB.cell (World.block_lt_of_cell? _ _ hc4)), hc4] at hc2
        rw [← hv] at hc1 hc2 hr3 hr4
        rw [← hq] at hc1 hc2 hr3 hr4
        cases hc1
        cases hc2
        exact ⟨hr3.below h, hr4.below h⟩
      have hl := fun (w' : World) (h : Below w.heap.size w w') => likeInts_any A1 A2 q q c1 c2 v v w' (by omega) (by omega) (hr3 w' h).1 (hr3 w' h).2
      rw [decide_eq_true rfl] at hl
      clear hv hq ha hb hr1 hr2 hx1 hx2 hr3
      go_wp2
      refine wp_obs 10 [[], [], [0, 1], [0, 1, 2], [], [], [4, 5], [4, 5, 6], [0, 1, 2, 3, 4, 5, 6, 7], [0, 1, 2, 3, 4, 5, 6, 7, 8]] [VIs (.slice (some ⟨g, o, none⟩) n c), VIs (.int .i64 (k)), VIs (.pointer (some ⟨g, o + k, none⟩)), VIs (.slice A1 q c1), VIs (.slice (some ⟨g2, o2, none⟩) n d), VIs (.int .i64 (k)), VIs (.pointer (some ⟨g2, o2 + k, none⟩)), VIs (.slice A2 q c2), VIs (.bool true), VIs (.bool false)] (fun w' => w'.cell? ⟨g, o + k, none⟩ = some (.slice A1 q c1) ∧ w'.cell? ⟨g2, o2 + k, none⟩ = some (.slice A2 q c2) ∧ Below w.heap.size w w') (by kernel_rfl) (by kernel_rfl) (fun _ _ h hb => ⟨(hb.cell (World.block_lt_of_cell? _ _ h.1)).trans h.1, (hb.cell (World.block_lt_of_cell? _ _ h.2.1)).trans h.2.1, h.2.2.trans (hb.mono h.2.2.size)⟩) (⟨hc1, hc2, hB.drew⟩) (fun x => ?_)
      refine obs_step (Eq.trans (by simp only [List.getElem?_toArray, List.getElem?_cons_zero]; exact rfl) rfl) rfl (fun w' hS hV K hK => ?_) ?_
      · have q0 := hS.1; have q1 := hS.2.1
        go_simp
        exact hK.out _ _ _ rfl rfl rfl (Below.refl _ _)
      simp only [List.setIfInBounds_toArray, List.set_cons_zero, List.set_cons_succ]
      refine obs_step (Eq.trans (by simp only [List.getElem?_toArray, List.getElem?_cons_succ, List.getElem?_cons_zero]; exact rfl) rfl) rfl (fun w' hS hV K hK => ?_) ?_
      · have q0 := hS.1; have q1 := hS.2.1
        go_simp
        exact hK.out _ _ _ rfl rfl rfl (Below.refl _ _)
      simp only [List.setIfInBounds_toArray, List.set_cons_zero, List.set_cons_succ]
      refine obs_step (Eq.trans (by simp only [List.getElem?_toArray, List.getElem?_cons_succ, List.getElem?_cons_zero]; exact rfl) rfl) rfl (fun w' hS hV K hK => ?_) ?_
      · have e0 : x 0 = (.slice (some ⟨g, o, none⟩) n c) := hV 0 (by decide)
        have e1 : x 1 = (.int .i64 (k)) := hV 1 (by decide)
        have q0 := hS.1; have q1 := hS.2.1
        go_simp
        exact hK.out _ _ _ rfl rfl rfl (Below.refl _ _)
      simp only [List.setIfInBounds_toArray, List.set_cons_zero, List.set_cons_succ]
      refine obs_step (Eq.trans (by simp only [List.getElem?_toArray, List.getElem?_cons_succ, List.getElem?_cons_zero]; exact rfl) rfl) rfl (fun w' hS hV K hK => ?_) ?_
      · have e0 : x 0 = (.slice (some ⟨g, o, none⟩) n c) := hV 0 (by decide)
        have e1 : x 1 = (.int .i64 (k)) := hV 1 (by decide)
        have e2 : x 2 = (.pointer (some ⟨g, o + k, none⟩)) := hV 2 (by decide)
        have q0 := hS.1; have q1 := hS.2.1
        go_simp
        exact hK.out _ _ _ rfl rfl rfl (Below.refl _ _)
      simp only [List.setIfInBounds_toArray, List.set_cons_zero, List.set_cons_succ]
      refine obs_step (Eq.trans (by simp only [List.getElem?_toArray, List.getElem?_cons_succ, List.getElem?_cons_zero]; exact rfl) rfl) rfl (fun w' hS hV K hK => ?_) ?_
      · have q0 := hS.1; have q1 := hS.2.1
        go_simp
        exact hK.out _ _ _ rfl rfl rfl (Below.refl _ _)
      simp only [List.setIfInBounds_toArray, List.set_cons_zero, List.set_cons_succ]
      refine obs_step (Eq.trans (by simp only [List.getElem?_toArray, List.getElem?_cons_succ, List.getElem?_cons_zero]; exact rfl) rfl) rfl (fun w' hS hV K hK => ?_) ?_
      · have q0 := hS.1; have q1 := hS.2.1
        go_simp
        exact hK.out _ _ _ rfl rfl rfl (Below.refl _ _)
      simp only [List.setIfInBounds_toArray, List.set_cons_zero, List.set_cons_succ]
      refine obs_step (Eq.trans (by simp only [List.getElem?_toArray, List.getElem?_cons_succ, List.getElem?_cons_zero]; exact rfl) rfl) rfl (fun w' hS hV K hK => ?_) ?_
      · have e4 : x 4 = (.slice (some ⟨g2, o2, none⟩) n d) := hV 4 (by decide)
        have e5 : x 5 = (.int .i64 (k)) := hV 5 (by decide)
        have q0 := hS.1; have q1 := hS.2.1
        go_simp
        exact hK.out _ _ _ rfl rfl rfl (Below.refl _ _)
      simp only [List.setIfInBounds_toArray, List.set_cons_zero, List.set_cons_succ]
      refine obs_step (Eq.trans (by simp only [List.getElem?_toArray, List.getElem?_cons_succ, List.getElem?_cons_zero]; exact rfl) rfl) rfl (fun w' hS hV K hK => ?_) ?_
      · have e4 : x 4 = (.slice (some ⟨g2, o2, none⟩) n d) := hV 4 (by decide)
        have e5 : x 5 = (.int .i64 (k)) := hV 5 (by decide)
        have e6 : x 6 = (.pointer (some ⟨g2, o2 + k, none⟩)) := hV 6 (by decide)
        have q0 := hS.1; have q1 := hS.2.1
        go_simp
        exact hK.out _ _ _ rfl rfl rfl (Below.refl _ _)
      simp only [List.setIfInBounds_toArray, List.set_cons_zero, List.set_cons_succ]
      refine obs_step (Eq.trans (by simp only [List.getElem?_toArray, List.getElem?_cons_succ, List.getElem?_cons_zero]; exact rfl) rfl) rfl (fun w' hS hV K hK => ?_) ?_
      · have e0 : x 0 = (.slice (some ⟨g, o, none⟩) n c) := hV 0 (by decide)
        have e1 : x 1 = (.int .i64 (k)) := hV 1 (by decide)
        have e2 : x 2 = (.pointer (some ⟨g, o + k, none⟩)) := hV 2 (by decide)
        have e3 : x 3 = (.slice A1 q c1) := hV 3 (by decide)
        have e4 : x 4 = (.slice (some ⟨g2, o2, none⟩) n d) := hV 4 (by decide)
        have e5 : x 5 = (.int .i64 (k)) := hV 5 (by decide)
        have e6 : x 6 = (.pointer (some ⟨g2, o2 + k, none⟩)) := hV 6 (by decide)
        have e7 : x 7 = (.slice A2 q c2) := hV 7 (by decide)
        have q0 := hS.1; have q1 := hS.2.1
        go_simp
        refine (hl _ hS.2.2).mono ?_
        rintro e v1 ⟨rfl, j1, rfl⟩
        exact hK.out _ _ _ rfl rfl rfl (below_drewN (Below.refl _ _) j1)
      simp only [List.setIfInBounds_toArray, List.set_cons_zero, List.set_cons_succ]
      refine obs_step (Eq.trans (by simp only [List.getElem?_toArray, List.getElem?_cons_succ, List.getElem?_cons_zero]; exact rfl) rfl) rfl (fun w' hS hV K hK => ?_) ?_
      · have e0 : x 0 = (.slice (some ⟨g, o, none⟩) n c) := hV 0 (by decide)
        have e1 : x 1 = (.int .i64 (k)) := hV 1 (by decide)
        have e2 : x 2 = (.pointer (some ⟨g, o + k, none⟩)) := hV 2 (by decide)
        have e3 : x 3 = (.slice A1 q c1) := hV 3 (by decide)
        have e4 : x 4 = (.slice (some ⟨g2, o2, none⟩) n d) := hV 4 (by decide)
        have e5 : x 5 = (.int .i64 (k)) := hV 5 (by decide)
        have e6 : x 6 = (.pointer (some ⟨g2, o2 + k, none⟩)) := hV 6 (by decide)
        have e7 : x 7 = (.slice A2 q c2) := hV 7 (by decide)
        have e8 : x 8 = (.bool true) := hV 8 (by decide)
        have q0 := hS.1; have q1 := hS.2.1
        go_simp
        exact hK.out _ _ _ rfl rfl rfl (Below.refl _ _)
      simp only [List.setIfInBounds_toArray, List.set_cons_zero, List.set_cons_succ]
      refine fun w' hS hV => ?_
      have e0 : x 0 = (.slice (some ⟨g, o, none⟩) n c) := hV 0 (by decide)
      have e1 : x 1 = (.int .i64 (k)) := hV 1 (by decide)
      have e2 : x 2 = (.pointer (some ⟨g, o + k, none⟩)) := hV 2 (by decide)
      have e3 : x 3 = (.slice A1 q c1) := hV 3 (by decide)
      have e4 : x 4 = (.slice (some ⟨g2, o2, none⟩) n d) := hV 4 (by decide)
      have e5 : x 5 = (.int .i64 (k)) := hV 5 (by decide)
      have e6 : x 6 = (.pointer (some ⟨g2, o2 + k, none⟩)) := hV 6 (by decide)
      have e7 : x 7 = (.slice A2 q c2) := hV 7 (by decide)
      have e8 : x 8 = (.bool true) := hV 8 (by decide)
      have e9 : x 9 = (.bool false) := hV 9 (by decide)
      simp only [e0, e1, e2, e3, e4, e5, e6, e7, e8, e9]
      clear e0 e1 e2 e3 e4 e5 e6 e7 e8 e9
      refine wpAny_done (by kernel_rfl) ?_ _
      have hB8 := hS.2.2
      go_wp2
      go_roundw
      case rel => exact ⟨k + 1, by omega, by go_num, hB8⟩
      case measure => simp [intOf]; omega
    · go_wp2
      go_ret
      exact ⟨rfl, hB⟩
theorem min5_any (a b : Int) (w : World) :
    Calls Tryz.prog 75 #[.int .i64 a, .int .i64 b] w fun e w' => e = .returned (.int .i64 (if a < b then a else b)) ∧ w = w' := by
  by_cases h : a < b
  · have t : decide (a < b) = true := by simp [h]
    rw [if_pos h]
    clear h
    go_enter Tryz.func75, Tryz.ntmps75
    go_wp2
    go_ret
    exact ⟨rfl, rfl⟩
  · have t : decide (a < b) = false := by simp; omega
    rw [if_neg h]
    clear h
    go_enter Tryz.func75, Tryz.ntmps75
    go_wp2
    go_ret
    exact ⟨rfl, rfl⟩
end Go.Proofs.YtggigolkncckoaaGreat
namespace Go.Proofs.YtggigolkncckoaaGreat
open Go.RowKit
section
variable {P : Program} {ops : Array Oper} {Q : Exit → Act → World → Prop}
/-- Those whose values are good still when operation j is done (C: what each uses up). -/
def availR (R C : List (List Nat)) (m j : Nat) : List Nat := (R.getD j []).filter fun i => (List.range m).all fun k => !((C.getD k []).contains i) || k == j || (R.getD k []).contains j
/-- .. and at the end of the first m. -/
def endR (C : List (List Nat)) (m : Nat) : List Nat := (List.range m).filter fun i => (List.range m).all fun k => !((C.getD k []).contains i)
/-- What operation j may do to the world: add to it, or, where C has something at j, what Rel allows. -/
def StepR (C : List (List Nat)) (Rel : World → World → Prop) (j : Nat) (w w' : World) : Prop := if (C.getD j []).isEmpty then Below w.heap.size w w' else Rel w w'
theorem StepR.plain {C : List (List Nat)} {Rel : World → World → Prop} {j : Nat} {w w' : World} (h : (C.getD j []).isEmpty = true) (hb : Below w.heap.size w w') : StepR C Rel j w w' := by unfold StepR; rw [h]; exact hb
theorem StepR.rel {C : List (List Nat)} {Rel : World → World → Prop} {j : Nat} {w w' : World} (h : (C.getD j []).isEmpty = false) (hb : Rel w w') : StepR C Rel j w w' := by unfold StepR; rw [h]; exact hb
theorem StepR.either {C : List (List Nat)} {Rel : World → World → Prop} {j : Nat} {w w' : World} {q : Prop} (h : StepR C Rel j w w') (h1 : Below w.heap.size w w' → q) (h2 : Rel w w' → q) : q := by
  unfold StepR at h
  split at h
  · exact h1 h
  · exact h2 h
theorem not_containsR {L : List Nat} {i : Nat} : (!(L.contains i)) = true ↔ i ∉ L := by
  rw [Bool.not_eq_true', ← Bool.not_eq_true, List.contains_iff_mem]
theorem availR_spec {R C : List (List Nat)} {m j i : Nat} : i ∈ availR R C m j ↔ i ∈ R.getD j [] ∧ ∀ k, k < m → i ∈ C.getD k [] → k = j ∨ j ∈ R.getD k [] := by
  unfold availR
  rw [List.mem_filter, List.all_eq_true]
  refine and_congr_right fun _ => ⟨fun h k hk hi => ?_, fun h k hk => ?_⟩
  · have h1 := h k (List.mem_range.2 hk)
    rw [Bool.or_eq_true, Bool.or_eq_true, not_containsR, beq_iff_eq, List.contains_iff_mem] at h1
    rcases h1 with (h1 | h1) | h1
    · exact absurd hi h1
    · exact .inl h1
    · exact .inr h1
  · rw [Bool.or_eq_true, Bool.or_eq_true, not_containsR, beq_iff_eq, List.contains_iff_mem]
    by_cases hi : i ∈ C.getD k []
    · rcases h k (List.mem_range.1 hk) hi with h1 | h1
      · exact .inl (.inr h1)
      · exact .inr h1
    · exact .inl (.inl hi)
theorem endR_spec {C : List (List Nat)} {m i : Nat} : i ∈ endR C m ↔ i < m ∧ ∀ k, k < m → i ∉ C.getD k [] := by
  unfold endR
  rw [List.mem_filter, List.all_eq_true, List.mem_range]
  exact and_congr_right fun _ => ⟨fun h k hk => not_containsR.1 (h k (List.mem_range.2 hk)), fun h k hk => not_containsR.2 (h k (List.mem_range.1 hk))⟩
/-- What is to be shown of operation j. -/
def ObR (P : Program) (ops : Array Oper) (S : World → Prop) (R C : List (List Nat)) (Rel : World → World → Prop) (m : Nat) (V : (Nat → Value) → List VP) (x : Nat → Value) (a0 : Act) (j : Nat) : Prop :=
  ∀ w, S w → (∀ i ∈ availR R C m j, ((V x).getD i VAny).p (x i) w) →
    wpOp P ops NoWay j (fun a' w' => ∃ v, (∀ d, dstOf ops j = some d → a'.tmps[d]? = some v) ∧ a'.defers = a0.defers ∧ ((V x).getD j VAny).p v w' ∧ StepR C Rel j w w') (putS ops x a0 j) w
theorem tasks_goR {m : Nat} {Rel : World → World → Prop} {R C : List (List Nat)} {V : (Nat → Value) → List VP} {S : World → Prop} {a0 : Act} (hok : tasksOk ops m a0.tmps.size R = true)
    (hdep : ∀ x x' j, (∀ i ∈ R.getD j [], x i = x' i) → (V x).getD j VAny = (V x').getD j VAny) (hweak : ∀ i, i < m → (C.getD i []).isEmpty = false → ∀ k, k < m → k ≠ i → i ∉ R.getD k [] → k ∉ C.getD i [] → ∀ x v w w', ((V x).getD k VAny).p v w → Rel w w' → ((V x).getD k VAny).p v w') (hSt : ∀ j w w', S w → StepR C Rel j w w' → S w') (hob : ∀ x j, j < m → ObR P ops S R C Rel m V x a0 j)
    (hend : ∀ x w', S w' → (∀ i ∈ endR C m, ((V x).getD i VAny).p (x i) w') → wpAny P .any ops Q (ops.size - m) (listedTo ops.size m) (putS ops x a0 m) w') :
    ∀ (c : Nat) (U : List Nat) (listed : Array Bool) (w : World) (x : Nat → Value), U.length = c → U.Nodup → (∀ i, i ∈ U ↔ i < m ∧ listed.getD i false = false) → listed.size = ops.size →
      (∀ i, m ≤ i → i < ops.size → listed.getD i false = false) → (∀ (j : Nat) (o : Oper), ops[j]? = some o → listed.getD j false = true → ∀ e ∈ o.after, Region.binds .any e = true → listed.getD e.on false = true) →
      S w → (∀ i, i < m → listed.getD i false = true → (∀ j, j < m → i ∈ C.getD j [] → listed.getD j false = false) → ((V x).getD i VAny).p (x i) w) → wpAny P .any ops Q (ops.size - m + c) listed (putD ops (fun i => listed.getD i false) x a0 m) w := by
  obtain ⟨hmn, hspec, htail⟩ := tasks_spec hok
  have hsel : Region.noSelect ops = true := by unfold tasksOk at hok; simp only [Bool.and_eq_true] at hok; exact hok.1.1
  intro c
  induction c with
  | zero =>
    intro U listed w x hU hnd hmem hsz hun hcl hS hV
    obtain rfl : U = [] := List.eq_nil_of_length_eq_zero hU
    have hall : ∀ i, i < m → listed.getD i false = true := fun i hi => by
      cases h : listed.getD i false
      · exact absurd ((hmem i).2 ⟨hi, h⟩) (by simp)
      · rfl
    have hl : listed = listedTo ops.size m := by
      apply Array.ext
      · simp [listedTo, hsz]
      · intro i h1 h2
        have e : listed.getD i false = listed[i] := by simp [Array.getD, h1]
        by_cases hi : i < m
        · have := hall i hi
          rw [e] at this
          simp [listedTo, this, hi]
        · have := hun i (by omega) (by omega)
          rw [e] at this
          simp [listedTo, this, hi]
    rw [Nat.add_zero, putD_congr (ops := ops) _ (fun _ => true) x x a0 m (fun i hi => ⟨hall i hi, fun _ => rfl⟩), hl]
    exact hend x w hS (fun i hi => hV i (endR_spec.1 hi).1 (hall i (endR_spec.1 hi).1) (fun j hj hc => absurd hc ((endR_spec.1 hi).2 j hj)))
  | succ c ih =>
    intro U listed w x hU hnd hmem hsz hun hcl hS hV
    have hne : U ≠ [] := fun e => by rw [e] at hU; simp at hU
    show (_ → _) ∧ _
    refine ⟨fun hr => ?_, fun i hi => ?_⟩
    · exfalso
      obtain ⟨i, hiU, hmin⟩ := min_mem U hne
      obtain ⟨him, hil⟩ := (hmem i).1 hiU
      have hlt : i < ops.size := by omega
      have : i ∈ Region.ready .any ops listed := mem_ready.2 ⟨by simpa [Array.getD, hsz, hlt] using hil, _, Array.getElem?_eq_getElem hlt, fun e he hb => by
        have hlti := (hspec i _ (Array.getElem?_eq_getElem hlt) him).1 e he hb
        cases h : listed.getD e.on false
        · have := hmin e.on ((hmem _).2 ⟨by omega, h⟩); omega
        · rfl⟩
      rw [hr] at this
      cases this
    · obtain ⟨hil, o, ho, hdeps⟩ := mem_ready.1 hi
      have hlt : i < ops.size := (Array.getElem?_eq_some_iff.1 ho).1
      have hil' : listed.getD i false = false := by simpa [Array.getD, hsz, hlt] using hil
      have hreach := listed_reach hok (fun i => listed.getD i false) hcl i o ho hdeps
      have him : i < m := by
        rcases Nat.lt_or_ge i m with h | h
        · exact h
        · exfalso
          obtain ⟨k, hk⟩ := List.exists_mem_of_ne_nil U hne
          obtain ⟨hkm, hkl⟩ := (hmem k).1 hk
          have := hreach k (htail i hlt h k hkm)
          rw [hkl] at this; cases this
      obtain ⟨_, ⟨d, hd, hdsz, hduniq⟩, hlook⟩ := hspec i o ho him
      have hdst : dstOf ops i = some d := by simp [dstOf, ho, hd]
      have hso : ∀ cs b, o.op ≠ .select cs b := fun cs b => Region.noSelect_spec hsel i o cs b ho
      -- the two frames agree on what o looks at
      have hagree : ∀ t ∈ o.looksAt ops, (putD ops (fun i => listed.getD i false) x a0 m).tmps[t]? = (putS ops x a0 i).tmps[t]? := fun t ht => by
        by_cases hex : ∃ k, k < m ∧ dstOf ops k = some t
        · obtain ⟨k, hkm, hkd⟩ := hex
          have hkR := hlook t ht k hkm hkd
          have hki := reach_lt hok i hlt k hkR
          have hkl := hreach k hkR
          have hks : k < ops.size := by omega
          obtain ⟨_, ⟨d', hd', hdsz', hu'⟩, _⟩ := hspec k _ (Array.getElem?_eq_getElem hks) hkm
          have htd : d' = t := by
            have : dstOf ops k = some d' := by simp [dstOf, Array.getElem?_eq_getElem hks, hd']
            rw [hkd] at this; injection this with this; exact this.symm
          rw [putD_at _ _ _ _ k hkd hkl (htd ▸ hdsz') m hkm (fun l hl hlk => htd ▸ hu' l hl hlk)]
          unfold putS
          rw [putD_at _ _ _ _ k hkd rfl (htd ▸ hdsz') i hki (fun l hl hlk => htd ▸ hu' l (by omega) hlk)]
        · rw [putD_other _ _ _ _ m (fun k hk hkd => absurd ⟨k, hk, hkd⟩ hex)]
          unfold putS
          rw [putD_other _ _ _ _ i (fun k hk hkd => absurd ⟨k, by omega, hkd⟩ hex)]
      have hob' := hob x i him w hS (fun k hk => by
        obtain ⟨hkR, hkC⟩ := availR_spec.1 hk
        refine hV k (by have := reach_lt hok i hlt k hkR; omega) (hreach k hkR) (fun j hj hc => ?_)
        rcases hkC j hj hc with rfl | hij
        · exact hil'
        · cases hjl : listed.getD j false
          · rfl
          · have hjs : j < ops.size := by omega
            have := listed_reach hok (fun i => listed.getD i false) hcl j _ (Array.getElem?_eq_getElem hjs) (hcl j _ (Array.getElem?_eq_getElem hjs) hjl) i hij
            rw [hil'] at this; cases this)
      have hsz1 := putD_size (ops := ops) (fun _ => true) x a0 i
      -- what comes behind
      have next : ∀ v w', ((V x).getD i VAny).p v w' → StepR C Rel i w w' → wpAny P .any ops Q (ops.size - m + c) (listed.setIfInBounds i true) ((putD ops (fun i => listed.getD i false) x a0 m).put (some d) v) w' := fun v w' hv hb => by
        have hput := putD_put (ops := ops) (fun k => listed.getD k false) (fun k => (listed.setIfInBounds i true).getD k false) x (fun k => if k = i then v else x k) a0 i hil'
          (by simp [hsz, hlt]) (fun k hk => ⟨by rw [getD_set_ne _ (Ne.symm hk)], by simp [hk]⟩) m him
          (fun d' k hk hki hd' => by rw [hdst] at hd'; injection hd' with hd'; exact hd' ▸ hduniq k hk hki)
        simp only [if_true] at hput
        rw [← hdst, hput]
        refine ih (U.erase i) _ _ _ ?_ (hnd.erase _) (fun k => ?_) (by simpa using hsz) (fun k h1 h2 => ?_) (fun j oj hoj hj e he hb' => ?_) (hSt i _ _ hS hb) (fun k hk hkl hcons => ?_)
        · rw [List.length_erase_of_mem ((hmem i).2 ⟨him, hil'⟩), hU]; rfl
        · rw [hnd.mem_erase_iff, hmem]
          by_cases hk : k = i
          · subst hk; simp [hsz, hlt]
          · rw [getD_set_ne _ (Ne.symm hk)]; simp [hk]
        · rw [getD_set_ne _ (by omega)]; exact hun k h1 h2
        · by_cases hji : j = i
          · subst hji
            rw [ho] at hoj; injection hoj with hoj; subst hoj
            exact getD_set_true (hdeps e he hb')
          · rw [getD_set_ne _ (Ne.symm hji)] at hj
            exact getD_set_true (hcl j oj hoj hj e he hb')
        · by_cases hki : k = i
          · subst hki
            rw [hdep _ x k (fun l hl => by have := reach_lt hok k hlt l hl; simp only [show l ≠ k by omega, if_false])]
            simpa using hv
          · rw [getD_set_ne _ (Ne.symm hki)] at hkl
            have hks : k < ops.size := by omega
            have hdk : (V fun l => if l = i then v else x l).getD k VAny = (V x).getD k VAny := hdep _ x k (fun l hl => by
              have hll := listed_reach hok (fun i => listed.getD i false) hcl k _ (Array.getElem?_eq_getElem hks) (hcl k _ (Array.getElem?_eq_getElem hks) hkl) l hl
              have hne : l ≠ i := fun e => by rw [e] at hll; rw [hil'] at hll; cases hll
              simp only [hne, if_false])
            simp only [hki, if_false]
            rw [hdk]
            have hb0 : ∀ j, j < m → k ∈ C.getD j [] → listed.getD j false = false := fun j hj hc => by
              have h1 := hcons j hj hc
              by_cases hji : j = i
              · rw [hji]; exact hil'
              · rwa [getD_set_ne _ (Ne.symm hji)] at h1
            have hkC : k ∉ C.getD i [] := fun hc => by
              have h1 := hcons i him hc
              simp [hsz, hlt] at h1
            have hiR : i ∉ R.getD k [] := fun hik => by
              have := listed_reach hok (fun i => listed.getD i false) hcl k _ (Array.getElem?_eq_getElem hks) (hcl k _ (Array.getElem?_eq_getElem hks) hkl) i hik
              rw [hil'] at this; cases this
            cases he : (C.getD i []).isEmpty
            · replace hb : Rel w w' := by unfold StepR at hb; rw [he] at hb; exact hb
              exact hweak i him he k hk hki hiR hkC x _ _ _ (hV k hk hkl hb0) hb
            · replace hb : Below w.heap.size w w' := by unfold StepR at hb; rw [he] at hb; exact hb
              exact ((V x).getD k VAny).st _ _ _ (hV k hk hkl hb0) hb
      unfold wpOp at hob' ⊢
      simp only [ho] at hob' ⊢
      rw [wanted_same hagree]
      split
      · rename_i hw
        rw [if_pos hw] at hob'
        rcases hob' with h | ⟨_, h⟩
        case inr => exact absurd h NoWay.lets
        refine .inl (Oper.wp_mono ?_ (wp_move (Q := Q) (d := d) (R := fun v w' => ((V x).getD i VAny).p v w' ∧ StepR C Rel i w w') (exec_same hso hagree) hd (by unfold putS; rw [hsz1.1]; exact hdsz)
          (Oper.wp_mono (fun a' w' ⟨v, h1, h2, h3, h4⟩ => ⟨v, h1 d hdst, by unfold putS; rw [hsz1.2]; exact h2, h3, h4⟩) h)))
        rintro a' w' ⟨v, rfl, hv, hb⟩
        exact next v w' hv hb
      · rename_i hw
        rw [if_neg hw] at hob'
        obtain ⟨v, h1, _, h3, h4⟩ := hob'
        have hvu : v = undef := by
          have := h1 d hdst
          rw [hd] at this
          simp [Act.put, putS, hsz1.1, hdsz] at this
          exact this.symm
        rw [hd]
        exact next undef w (hvu ▸ h3) h4
/-- **A region that draws its order**: each of its first m operations is shown once; what is left behind them goes on. -/
theorem wp_tasksR {id m : Nat} {Rel : World → World → Prop} (R C : List (List Nat)) (V : (Nat → Value) → List VP) (S : World → Prop) {a0 : Act} {w : World} (hm : P.follows .mixedOrders = true) (hok : tasksOk ops m a0.tmps.size R = true)
    (hdep : ∀ x x' j, (∀ i ∈ R.getD j [], x i = x' i) → (V x).getD j VAny = (V x').getD j VAny) (hweak : ∀ i, i < m → (C.getD i []).isEmpty = false → ∀ k, k < m → k ≠ i → i ∉ R.getD k [] → k ∉ C.getD i [] → ∀ x v w w', ((V x).getD k VAny).p v w → Rel w w' → ((V x).getD k VAny).p v w') (hS0 : S w.drew) (hSt : ∀ j w w', S w → StepR C Rel j w w' → S w') (hob : ∀ x j, j < m → ObR P ops S R C Rel m V x a0 j)
    (hend : ∀ x w', S w' → (∀ i ∈ endR C m, ((V x).getD i VAny).p (x i) w') → wpAny P .any ops Q (ops.size - m) (listedTo ops.size m) (putS ops x a0 m) w') : (Code.region id ops true).wp P Q a0 w := by
  have hmn := (tasks_spec hok).1
  have hf : ∀ i, (Array.replicate ops.size false).getD i false = false := fun i => by simp [Array.getD]
  have h := tasks_goR (Q := Q) hok hdep hweak hSt hob hend m (List.range m) (Array.replicate ops.size false) w.drew (fun _ => undef) (by simp) List.nodup_range (fun i => by rw [hf]; simp) (by simp) (fun i _ _ => hf i) (fun j o _ hj => by rw [hf] at hj; cases hj) hS0
    (fun i _ hi => by rw [hf] at hi; cases hi)
  refine wp_region_any hm ?_
  rw [show ops.size - m + m = ops.size by omega, putD_congr (ops := ops) _ (fun _ => false) _ (fun _ => undef) a0 m (fun i _ => ⟨hf i, fun _ => rfl⟩)] at h
  have e : ∀ n, putD ops (fun _ => false) (fun _ => undef) a0 n = a0 := fun n => by
    induction n with
    | zero => rfl
    | succ n ih => unfold putD; simpa using ih
  rw [e] at h
  exact h
/-- What is to be shown, operation by operation, in the text's order; the frame goes along. -/
def ObsR (P : Program) (ops : Array Oper) (Q : Exit → Act → World → Prop) (S : World → Prop) (R C : List (List Nat)) (Rel : World → World → Prop) (m : Nat) (V : (Nat → Value) → List VP) (x : Nat → Value) : Nat → Nat → Act → Prop
  | 0, j, a => ∀ w, S w → (∀ i ∈ endR C m, ((V x).getD i VAny).p (x i) w) → wpAny P .any ops Q (ops.size - j) (listedTo ops.size j) a w
  | r + 1, j, a => (∀ w, S w → (∀ i ∈ availR R C m j, ((V x).getD i VAny).p (x i) w) →
      wpOp P ops NoWay j (fun a' w' => ∃ v, (∀ d, dstOf ops j = some d → a'.tmps[d]? = some v) ∧ a'.defers = a.defers ∧ ((V x).getD j VAny).p v w' ∧ StepR C Rel j w w') a w) ∧
    ObsR P ops Q S R C Rel m V x r (j + 1) (a.put (dstOf ops j) (x j))
theorem obs_allR {S : World → Prop} {R C : List (List Nat)} {Rel : World → World → Prop} {m : Nat} {V : (Nat → Value) → List VP} {x : Nat → Value} {a0 : Act} : ∀ (r j : Nat), ObsR P ops Q S R C Rel m V x r j (putS ops x a0 j) →
    (∀ k, j ≤ k → k < j + r → ObR P ops S R C Rel m V x a0 k) ∧ ∀ w, S w → (∀ i ∈ endR C m, ((V x).getD i VAny).p (x i) w) → wpAny P .any ops Q (ops.size - (j + r)) (listedTo ops.size (j + r)) (putS ops x a0 (j + r)) w := by
  intro r
  induction r with
  | zero => intro j h; exact ⟨fun k h1 h2 => by omega, h⟩
  | succ r ih =>
    intro j h
    obtain ⟨h1, h2⟩ := h
    have h2' : ObsR P ops Q S R C Rel m V x r (j + 1) (putS ops x a0 (j + 1)) := h2
    obtain ⟨h3, h4⟩ := ih (j + 1) h2'
    refine ⟨fun k hk1 hk2 => ?_, by rw [show j + (r + 1) = j + 1 + r by omega]; exact h4⟩
    by_cases hk : k = j
    · subst hk
      intro w hS hV
      have h := h1 w hS hV
      rw [show (putS ops x a0 k).defers = a0.defers from (putD_size _ _ _ _).2] at h
      exact h
    · exact h3 k (by omega) (by omega)
theorem wp_obsR {id : Nat} (m : Nat) (Rel : World → World → Prop) (R C : List (List Nat)) (V : (Nat → Value) → List VP) (S : World → Prop) {a0 : Act} {w : World} (hm : P.follows .mixedOrders = true) (hok : tasksOk ops m a0.tmps.size R = true)
    (hdep : ∀ x x' j, (∀ i ∈ R.getD j [], x i = x' i) → (V x).getD j VAny = (V x').getD j VAny) (hweak : ∀ i, i < m → (C.getD i []).isEmpty = false → ∀ k, k < m → k ≠ i → i ∉ R.getD k [] → k ∉ C.getD i [] → ∀ x v w w', ((V x).getD k VAny).p v w → Rel w w' → ((V x).getD k VAny).p v w') (hSt : ∀ j w w', S w → StepR C Rel j w w' → S w') (hS0 : S w.drew) (h : ∀ x, ObsR P ops Q S R C Rel m V x m 0 a0) : (Code.region id ops true).wp P Q a0 w :=
  wp_tasksR (m := m) (Rel := Rel) R C V S hm hok hdep hweak hS0 hSt (fun x j hj => (obs_allR m 0 (h x)).1 j (by omega) (by omega)) (fun x w' hS hV => by
    have := (obs_allR m 0 (h x)).2 w' hS (hV)
    rwa [Nat.zero_add] at this)
theorem obs_stepR {S : World → Prop} {R C : List (List Nat)} {Rel : World → World → Prop} {m : Nat} {V : (Nat → Value) → List VP} {x : Nat → Value} {r j : Nat} {a : Act} {o : Oper} {d : Tmp} (ho : ops[j]? = some o) (hd : o.dst = some d)
    (h : ∀ w, S w → (∀ i ∈ availR R C m j, ((V x).getD i VAny).p (x i) w) → ∀ K : Act → World → Prop, Shut (∀ a' w' v, a'.tmps[d]? = some v → a'.defers = a.defers → ((V x).getD j VAny).p v w' → StepR C Rel j w w' → K a' w') →
      if Region.wanted o (yielded ops a.tmps) = true then Oper.wp P o a w K NoWay else K (a.put o.dst undef) w)
    (hr : ObsR P ops Q S R C Rel m V x r (j + 1) { a with tmps := a.tmps.setIfInBounds d (x j) }) : ObsR P ops Q S R C Rel m V x (r + 1) j a := by
  have hdst : dstOf ops j = some d := by simp [dstOf, ho, hd]
  refine ⟨fun w hS hV => wpOp_step ho (fun K hK => ?_), by rw [hdst]; exact hr⟩
  exact h w hS hV K (fun a' w' v h1 h2 h3 h4 => hK a' w' ⟨v, fun d' hd' => by rw [hdst] at hd'; injection hd' with hd'; exact hd' ▸ h1, h2, h3, h4⟩)
/-- Those that bear an append in place: their values are plain. -/
theorem weak_ofR {m : Nat} {Rel : World → World → Prop} {R C : List (List Nat)} {V : (Nat → Value) → List VP} (Wk : List Nat)
    (hchk : ((List.range m).all fun i => (C.getD i []).isEmpty || (List.range m).all fun k => k == i || (R.getD k []).contains i || (C.getD i []).contains k || Wk.contains k) = true)
    (hW : ∀ k ∈ Wk, ∀ x v w w', ((V x).getD k VAny).p v w → Rel w w' → ((V x).getD k VAny).p v w') :
    ∀ i, i < m → (C.getD i []).isEmpty = false → ∀ k, k < m → k ≠ i → i ∉ R.getD k [] → k ∉ C.getD i [] → ∀ x v w w', ((V x).getD k VAny).p v w → Rel w w' → ((V x).getD k VAny).p v w' := by
  intro i hi he k hk hne hR hC x v w w' hp hrel
  have h1 := List.all_eq_true.1 hchk i (List.mem_range.2 hi)
  rw [he, Bool.false_or] at h1
  have h2 := List.all_eq_true.1 h1 k (List.mem_range.2 hk)
  rw [Bool.or_eq_true, Bool.or_eq_true, Bool.or_eq_true, beq_iff_eq, List.contains_iff_mem, List.contains_iff_mem, List.contains_iff_mem] at h2
  rcases h2 with ((h2 | h2) | h2) | h2
  · exact absurd h2 hne
  · exact absurd h2 hR
  · exact absurd h2 hC
  · exact hW k h2 x v w w' hp hrel
end
end Go.Proofs.YtggigolkncckoaaGreat
