/-
  LawFnJoins: part 9 of the texts that the proof needs. No condition.
-/
import Derived.Test.YtggigolkncckoaaGreatP8
namespace Go.Proofs.YtggigolkncckoaaGreat
open Go.RowKit
def CK (w w' : World) : Prop := ∀ b i u, w.cell? ⟨b, i, none⟩ = some u → w'.cell? ⟨b, i, none⟩ = some u
theorem CK.refl (w : World) : CK w w := fun _ _ _ h => h
theorem CK.below {w w1 w2 : World} (h : CK w w1) (hb : Below w1.heap.size w1 w2) : CK w w2 := fun b i u hu =>
  (hb.cell (World.block_lt_of_cell? _ _ (h b i u hu))).trans (h b i u hu)
theorem Rd.ck {w w' : World} {A : Option Addr} {n : Nat} {us : List Value} (h : Rd w A n us) (k : CK w w') : Rd w' A n us := ⟨h.1, fun hn => by
  obtain ⟨g, o, e, hc⟩ := h.2 hn
  exact ⟨g, o, e, fun j u hu => k _ _ _ (hc j u hu)⟩⟩
theorem RdII.ck {w w' : World} {A : Option Addr} {n : Nat} {xss : List (List Int)} (h : RdII w A n xss) (k : CK w w') : RdII w' A n xss := by
  obtain ⟨rows, hr, hl, hk⟩ := h
  exact ⟨rows, hr.ck k, hl, fun j hj => by obtain ⟨A', c', e, h1, h2⟩ := hk j hj; exact ⟨A', c', e, h1.ck k, h2⟩⟩
theorem Rd.cut {w : World} {A : Option Addr} {n k : Nat} {us : List Value} (h : Rd w A n us) (hk : k ≤ n) : Rd w A k (us.take k) := ⟨by rw [List.length_take, h.1]; omega, fun hn => by
  obtain ⟨g, o, e, hc⟩ := h.2 (by omega)
  exact ⟨g, o, e, fun j u hu => hc j u (by
    rw [List.getElem?_take] at hu
    split at hu
    · exact hu
    · cases hu)⟩⟩
/-- A row that grows; it began as the empty block g; what lay in w is as it was. -/
def Grows (w wr : World) (g : Nat) (v : Value) : Prop := CK w wr ∧ w.heap.size ≤ wr.heap.size ∧ ∀ gb, v.ownBlock = some gb → gb = g ∨ w.heap.size ≤ gb
theorem Grows.step {w wr v1 w' : World} {g : Nat} {T : TypeId} {A A' : Option Addr} {n c n' c' : Nat} (h : Grows w wr g (.slice A n c)) (he : Blk w g T #[]) (hb : Below wr.heap.size wr v1) (hg : v1.grownBy w' (Value.slice A n c).ownBlock)
    (hat : ∃ g', A' = some ⟨g', 0, none⟩ ∧ ((Value.slice A n c).ownBlock = some g' ∨ v1.heap.size ≤ g')) : Grows w w' g (.slice A' n' c') := by
  obtain ⟨h1, h2, h3⟩ := h
  refine ⟨fun b i u hu => ?_, by have := hb.size; have := hg.size; omega, fun gb hgb => ?_⟩
  · refine hg.cell ((hb.cell (World.block_lt_of_cell? _ _ (h1 b i u hu))).trans (h1 b i u hu)) fun e => ?_
    rcases h3 b e.symm with rfl | hge
    · rw [he.cell] at hu; simp at hu
    · have hlt : b < w.heap.size := World.block_lt_of_cell? _ _ hu
      omega
  · obtain ⟨g', rfl, hor⟩ := hat
    simp only [Value.ownBlock, Option.some.injEq] at hgb
    subst hgb
    rcases hor with hor | hor
    · exact h3 _ hor
    · right; have := hb.size; omega
/-- The value is the slice of a new empty block. -/
def VEmp (w0 : World) (E : TypeId) : VP := ⟨fun v w => ∃ g, v = .slice (some ⟨g, 0, none⟩) 0 0 ∧ w0.heap.size ≤ g ∧ Blk w g E #[], fun _ _ _ ⟨g, e, hg, h⟩ hb => ⟨g, e, hg, h.below hb h.lt⟩⟩
/-- A list that was there is appended to one of the call's own. -/
theorem wp_appRowsR {o : Oper} {a : Act} {K : Act → World → Prop} {Q : Exit → Act → World → Prop} (w0 wr : World)
    (s x : Operand) (ho : o.op = .call { callee := .builtin .append, args := #[s, x], argTypes := #[44, 44] })
    (A : Option Addr) (n c : Nat) (xss : List (List Int)) (B : Option Addr) (m d : Nat) (yss : List (List Int)) (hM : MkII w0 wr A n c xss) (hR : RdII w0 B m yss) (hn : n + m ≤ 1099511627775)
    (hs : a.eval s = .slice A n c) (hx : a.eval x = .slice B m d)
    (h : ∀ A' c' w', RdII w' A' (n + m) (xss ++ yss) → Below w0.heap.size w0 w' → K (a.put o.dst (.slice A' (n + m) c')) w') : o.wp Tryz.prog a wr K Q := by
  obtain ⟨rows, hm, hnest⟩ := hM
  obtain ⟨rows', hr0, hrl, hrow⟩ := hR
  have hr := hr0.below hm.1
  obtain ⟨i, hi, h1, h2, h3⟩ := info_parts info_s
  obtain ⟨b1, b2⟩ := bound_of (show n + m - 1 ≤ 1099511627776 by omega)
  have hr1 : rows'.length = m := hr.1
  have hone : ∀ u ∈ rows', u.oneCell' = true := fun u hu => by
    obtain ⟨k, hk, rfl⟩ := List.getElem_of_mem hu
    obtain ⟨A2, c2, e, _⟩ := hrow k (by omega)
    rw [List.getElem?_eq_getElem hk] at e
    rw [Option.some.inj e]; rfl
  have key : ∃ A' c' w', (Builtin.append_ #[44, 44] o.type #[.slice A n c, .slice B m d]).run Tryz.prog wr = .ok (.slice A' (n + m) c') w' ∧ Own w' w0.heap.size 24 A' (n + m) c' (rows ++ rows') ∧ wr.grownBy w' (Value.slice A n c).ownBlock := by
    by_cases hm0 : m = 0
    · subst hm0
      obtain rfl : rows' = [] := List.eq_nil_of_length_eq_zero hr1
      have hsrc : Src Tryz.prog i.size 44 (.slice B 0 d) 0 [] wr := by
        cases B with
        | none => exact Src.ofNil wr Tryz.underlying44 d
        | some ad => exact Src.ofSlice wr Tryz.underlying44 ad 0 d [] (by simp) (fun j u hu => by simp at hu) (fun u hu => by simp at hu)
      refine ⟨A, c, wr, run_append_nothing wr _ _ _ _ i Tryz.underlying44 hi A n c hm.2.cap _ hsrc, ?_, World.grownBy.refl _ _⟩
      rw [List.append_nil]
      exact hm.2
    · obtain ⟨g, o', rfl, hc⟩ := hr.2 (by omega)
      obtain ⟨g', cap, w', hrun, hown, hg, _, _⟩ := run_append_lies (P := Tryz.prog) (w := wr) 44 o.type w0.heap.size 24 i (.slice none 0 0) 1 24 Tryz.underlying44 hi h1 h2 h3 rfl (by omega) (.slice A n c) n rows hm.2 ⟨g, o', none⟩ m d rows' (by omega)
        (fun j u hu => by rw [Addr.add_lit]; exact hc j u hu) hone (by omega) (by simp only [maxLen]; omega) (by omega) hm.1.size _ rfl
      exact ⟨_, _, _, hrun, hown, hg⟩
  obtain ⟨A', c', w', hrun, hown, hg⟩ := key
  have hbw : Below w0.heap.size w0 w' := hm.1.grown hg hm.1.size (fun k hk => (hm.2.lt k hk).1)
  have hnest' := hnest.grown hm.2 (by decide) hg
  have hrr : RdII w' A' (n + m) (xss ++ yss) := by
    have hl := hnest.len
    refine ⟨rows ++ rows', hown.rd, by rw [List.length_append, List.length_append, hl, hrl], fun k hk => ?_⟩
    by_cases hlt : k < xss.length
    · obtain ⟨A2, c2, e, ho2⟩ := hnest'.row k hlt
      simp only [List.getElem_append_left hlt]
      exact ⟨A2, c2, by rw [List.getElem?_append_left (by omega)]; exact e, ho2.rd, ho2.cap⟩
    · have hk2 : k - xss.length < yss.length := by rw [List.length_append] at hk; omega
      obtain ⟨A2, c2, e, ho2, hc2⟩ := hrow (k - xss.length) hk2
      simp only [List.getElem_append_right (Nat.le_of_not_lt hlt)]
      exact ⟨A2, c2, by rw [List.getElem?_append_right (by omega), hl]; exact e, ho2.below hbw, hc2⟩
  unfold Oper.wp execOp
  simp only [ho, resolve, invoke, builtin, Sem.run_bind, Sem.run_pure, Result.andThen_ok, List.map_toArray, List.map_cons, List.map_nil, hs, hx, hrun]
  exact h A' c' w' hrr hbw
theorem takes_len {p : Int} {n : Nat} {K : List (List Int)} (hT : Tab p n K) {k : Nat} (hk : k < K.length) {m : Nat} (hm : m ≤ n) : (K[k].take m).length = m ∧ NumsL p (K[k].take m) := by
  obtain ⟨h1, h2⟩ := hT _ (List.getElem_mem hk)
  exact ⟨by rw [List.length_take]; omega, fun x hx => h2 x (List.mem_of_mem_take hx)⟩
theorem ints_take (xs : List Int) (k : Nat) : (ints xs).take k = ints (xs.take k) := by unfold ints; rw [List.map_take]
theorem blaL_common {p : Int} (hP : isP p = true) {n : Nat} {a b : List (List Int)} (ha : Tab p n a) (hb : Tab p n b) (sq : List Int) : blaL p sq n (commonL p a b) = blaL p sq n (comL p n a b) := by
  unfold blaL
  rw [common_same hP ha hb]
theorem commonL_nil_left (p : Int) (a b : List (List Int)) (h : a.length = 0) : commonL p a b = [] := by unfold commonL; rw [if_pos (.inl h)]
theorem commonL_nil_right (p : Int) (a b : List (List Int)) (h : b.length = 0) : commonL p a b = [] := by unfold commonL; rw [if_pos (.inr h)]
theorem commonL_eq {p : Int} {a b : List (List Int)} (ha : a.length ≠ 0) (hb : b.length ≠ 0) : commonL p a b = basisL p (outL p a (kernL p (transL (a ++ b)) (a.length + b.length))) := by
  unfold commonL; rw [if_neg (by omega)]
theorem outL_take {p : Int} {a K : List (List Int)} {k : Nat} (hk : k < K.length) : (outL p a K).take (k + 1) = (outL p a K).take k ++ [applyL p (transL a) (K[k].take a.length)] := by
  rw [List.take_succ_eq_append_getElem (by unfold outL; rw [List.length_map]; exact hk)]
  unfold outL
  rw [List.getElem_map]
theorem commonL_len {p : Int} (hP : isP p = true) {n : Nat} {a b : List (List Int)} (ha : Tab p n a) : (commonL p a b).length ≤ n := by
  have hp := (isP_ge hP).1
  unfold commonL
  split
  · simp
  · exact (basisL_red hP _ (outL_tab (by omega) ha (by omega) _)).len
set_option maxHeartbeats 800000 in
theorem l01Dot_any (p : Int) (A : Option Addr) (n c : Nat) (B : Option Addr) (m d : Nat) (xs ys : List Int) (w : World) (hp : 2 ≤ p) (hp2 : p ≤ 13) (hn : n ≤ 65536) (hnm : n ≤ m) (ha : Rd w A n (ints xs)) (hx : NumsL p xs) (hb : Rd w B m (ints ys)) (hy : NumsL p ys) :
    Calls Tryz.prog 360 #[.int .i64 p, .slice A n c, .slice B m d] w fun e w' => e = .returned (.int .i64 (dotL p xs ys)) ∧ Below w.heap.size w w' := by
  have hxl := ha.lenI
  have hyl := hb.lenI
  have hD : dotL p xs ys = (sumTo n fun i => xs.getD i 0 * ys.getD i 0) % p := by unfold dotL; rw [hxl]
  have HD := Lib.hid hD
  have HX := Lib.hid hx
  have HY := Lib.hid hy
  clear hD hxl hyl hx hy
  have hP0 : (p == 0) = false := by simp; omega
  have hP1 : (p == -1) = false := by simp; omega
  have hP2 : ¬ p = 0 := by omega
  go_enter Tryz.func360, Tryz.ntmps360
  go_wp2
  go_loopw [7, 8] (fun s i wr => ∃ (k : Nat), k ≤ n ∧ i = .int .i64 k ∧ s = .int .i64 ((sumTo k fun i => xs.getD i 0 * ys.getD i 0) % p) ∧ Below w.heap.size w wr) (fun _ i _ => n - (intOf i).toNat)
  case atStart => exact ⟨0, by omega, rfl, by simp [sumTo], Below.refl _ _⟩
  case round =>
    obtain ⟨k, hk, rfl, rfl, hbw⟩ := hrel
    by_cases hlt : k < n
    · obtain ⟨g, o, rfl, hxk, hc⟩ := (ha.below hbw).int hlt
      obtain ⟨g2, o2, rfl, hyk, hc2⟩ := (hb.below hbw).int (show k < m by omega)
      obtain ⟨x1, x2⟩ := HX.out _ (List.getElem_mem hxk)
      obtain ⟨y1, y2⟩ := HY.out _ (List.getElem_mem hyk)
      have HV : Hid ((sumTo (k + 1) fun i => xs.getD i 0 * ys.getD i 0) % p = ((sumTo k fun i => xs.getD i 0 * ys.getD i 0) % p + xs[k] * ys[k]) % p) := Lib.hid (by rw [← getD_of_lt 0 hxk, ← getD_of_lt 0 hyk, ← sumTo_step])
      obtain ⟨xa, hxa⟩ : ∃ x, x = xs[k] := ⟨_, rfl⟩
      obtain ⟨ya, hya⟩ : ∃ x, x = ys[k] := ⟨_, rfl⟩
      rw [← hxa] at hc x1 x2 HV
      rw [← hya] at hc2 y1 y2 HV
      obtain ⟨m1, m2⟩ := mul_small x1 (show xa ≤ 13 by omega) y1 (show ya ≤ 13 by omega)
      obtain ⟨s1, s2⟩ := emod_small (sumTo k fun i => xs.getD i 0 * ys.getD i 0) p (by omega)
      obtain ⟨ss, hss⟩ : ∃ x, x = (sumTo k fun i => xs.getD i 0 * ys.getD i 0) % p := ⟨_, rfl⟩
      rw [← hss] at s1 s2 HV ⊢
      have W1 := i64_fit (xa * ya) (by omega) (by omega)
      have W2 := i64_fit (ss + xa * ya) (by omega) (by omega)
      have T1 := Int.tmod_eq_emod_of_nonneg (b := p) (show 0 ≤ ss + xa * ya by omega)
      have i1 : (0 : Int) ≤ (k : Int) := by omega
      have i2 : (k : Int) < (n : Int) := by omega
      have i3 : (k : Int) < (m : Int) := by omega
      clear hxa hya hss ha hb
      go_wp2
      go_quiet (fail)
      go_wp2
      go_roundw
      case rel => exact ⟨k + 1, by omega, by go_num, by rw [HV.out], below_drewN hbw _⟩
      case measure => simp [intOf]; omega
    · obtain rfl : k = n := by omega
      go_wp2
      go_ret
      exact ⟨ret_int HD.out.symm, hbw⟩
set_option maxHeartbeats 800000 in
theorem l02Apply_any (p : Int) (A : Option Addr) (n c : Nat) (M : List (List Int)) (B : Option Addr) (m d : Nat) (v : List Int) (w : World) (hp : 2 ≤ p) (hp2 : p ≤ 13) (hn : n ≤ 65536) (hm : m ≤ 65536) (ha : RdII w A n M) (hM : Tab p m M) (hb : Rd w B m (ints v)) (hv : NumsL p v) :
    Calls Tryz.prog 328 #[.int .i64 p, .slice A n c, .slice B m d] w fun e w' => ∃ A' c', e = .returned (.slice A' n c') ∧ MkI w w' A' n c' (applyL p M v) := by
  have HL := Lib.hid ha.len
  have HT := Lib.hid hM
  have hM0 := Mk.lit (E := 2) (Below.refl w.heap.size w) #[] (by simp)
  clear hM
  go_enter Tryz.func328, Tryz.ntmps328
  go_wp2
  go_loopw [7, 8] (fun out i wr => ∃ (j : Nat) (A' : Option Addr) (c' : Nat), j ≤ n ∧ i = .int .i64 j ∧ out = .slice A' j c' ∧ MkI w wr A' j c' (tab j fun i => dotL p (M.getD i []) v)) (fun _ i _ => n - (intOf i).toNat)
  case atStart => exact ⟨0, _, _, by omega, rfl, rfl, by simpa [MkI, ints, tab] using hM0⟩
  case round =>
    obtain ⟨j, A', c', hj, rfl, rfl, hM⟩ := hrel
    clear hM0
    by_cases hlt : j < n
    · obtain ⟨g, o, rfl, hxj, A1, c1, hcx, hr1, _⟩ := (ha.below hM.b).at_ hlt
      have HRow := Lib.hid (HT.out M[j] (List.getElem_mem hxj))
      have hle : M[j].length ≤ m := by rw [HRow.out.1]; exact Nat.le_refl _
      have hle2 : M[j].length ≤ 65536 := by omega
      have HV : Hid ((tab (j + 1) fun i => dotL p (M.getD i []) v) = (tab j fun i => dotL p (M.getD i []) v) ++ [dotL p M[j] v]) := Lib.hid (by rw [tab_succ, getD_of_lt [] hxj])
      have hdot := fun w' (hb' : Below wr.heap.size wr w') => l01Dot_any p A1 M[j].length c1 B m d M[j] v w' hp hp2 hle2 hle (hr1.below hb') HRow.out.2 (hb.below (hM.b.trans (hb'.mono hM.b.size))) hv
      have HM := Lib.hid hM
      clear ha hM
      go_wp2_with (first
        | (go_at_call 360; refine (hdot _ (Below.refl _ _)).mono ?_; rintro e w' ⟨rfl, hbd⟩)
        | (at_builtin; refine wpList_app1 w _ 24 2 _ _ Tryz.underlying24 info_i rfl (by omega) rfl _ _ rfl A' j c' _ _ (HM.out.below hbd) (by omega) rfl rfl rfl ?_; intro A2 c2 w2 hM2 _ _))
      go_roundw
      case rel => exact ⟨j + 1, A2, c2, by omega, by go_num, rfl, by rw [HV.out]; simpa [MkI, ints] using hM2⟩
      case measure => simp [intOf]; omega
    · go_wp2
      go_ret
      obtain rfl : j = n := by omega
      exact ⟨_, _, rfl, by unfold applyL; rw [HL.out]; exact hM⟩
set_option maxHeartbeats 3200000 in
set_option maxRecDepth 8000 in
theorem l06Common_any (P : Int) (A : Option Addr) (n c : Nat) (sq : List Int) (B1 : Option Addr) (na d1 : Nat) (LA : List (List Int)) (B2 : Option Addr) (nb d2 : Nat) (LB : List (List Int)) (w : World) (HP : isP P = true) (hn : n ≤ 6) (h0 : 0 < n) (hna : na ≤ 100) (hnb : nb ≤ 100) (h1 : RdII w B1 na LA) (t1 : Tab P n LA) (h2 : RdII w B2 nb LB) (t2 : Tab P n LB) :
    Calls Tryz.prog 232 #[.agg #[.int .i64 P, .slice A n c], .slice B1 na d1, .slice B2 nb d2] w fun e w' => ∃ A' c', e = .returned (.slice A' (commonL P LA LB).length c') ∧ MkII w w' A' (commonL P LA LB).length c' (commonL P LA LB) := by
  obtain ⟨hp3, hp2⟩ := isP_ge HP
  have hp : 2 ≤ P := by omega
  have hla := h1.len
  have hlb := h2.len
  have hB0 : Below w.heap.size w (w.alloc (.cells #[.int .i64 P, .slice A n c] 26)) := (Below.refl _ _).alloc (Nat.le_refl _) _
  have k0 : Blk (w.alloc (.cells #[.int .i64 P, .slice A n c] 26)) w.heap.size 26 #[.int .i64 P, .slice A n c] := Blk.new _ _ _
  have hown := l01Own2_any P B1 na d1 LA n (w.alloc (.cells #[.int .i64 P, .slice A n c] 26)) (by omega) (by omega) (h1.below hB0) t1
  have h2' := h2.below hB0
  obtain ⟨W1, hW1⟩ : ∃ W, W = (w.alloc (.cells #[.int .i64 P, .slice A n c] 26)) := ⟨_, rfl⟩
  rw [← hW1] at hown h2' hB0 k0
  by_cases hz : na = 0 ∨ nb = 0
  · have hnil : commonL P LA LB = [] := by
      rcases hz with hz | hz
      · exact commonL_nil_left _ _ _ (by omega)
      · exact commonL_nil_right _ _ _ (by omega)
    rw [hnil]
    clear hnil
    by_cases hz1 : na = 0
    · subst hz1
      go_enter Tryz.func232, Tryz.ntmps232
      go_wp2_with fail
      rw [← hW1]
      refine hown.mono ?_
      rintro e w2 ⟨A2, c2, rfl, hM2⟩
      go_wp2_with (at_builtin; refine wpList_plain rfl (fun K hK => wp_appRowsR W1 w2 _ _ rfl A2 _ c2 LA B2 nb d2 LB hM2 h2' (by omega) rfl rfl (fun A3 c3 w3 hR3 hb3 => hK _ _ ?_)))
      go_wp2
      go_ret
      exact ⟨_, _, rfl, MkII.empty (hB0.trans (hb3.mono hB0.size))⟩
    · have hz2 : nb = 0 := by omega
      subst hz2
      have hna0 : ((na : Int) == 0) = false := by simp; omega
      go_enter Tryz.func232, Tryz.ntmps232
      go_wp2_with fail
      rw [← hW1]
      refine hown.mono ?_
      rintro e w2 ⟨A2, c2, rfl, hM2⟩
      go_wp2_with (at_builtin; refine wpList_plain rfl (fun K hK => wp_appRowsR W1 w2 _ _ rfl A2 _ c2 LA B2 0 d2 LB hM2 h2' (by omega) rfl rfl (fun A3 c3 w3 hR3 hb3 => hK _ _ ?_)))
      go_wp2
      go_ret
      exact ⟨_, _, rfl, MkII.empty (hB0.trans (hb3.mono hB0.size))⟩
  · have hna0 : ((na : Int) == 0) = false := by simp; omega
    have hnb0 : ((nb : Int) == 0) = false := by simp; omega
    have HCL : Hid (commonL P LA LB = basisL P (outL P LA (kernL P (transL (LA ++ LB)) (LA.length + LB.length)))) := Lib.hid (commonL_eq (by omega) (by omega))
    have HTAB := Lib.hid (t1.append t2)
    have HTT := Lib.hid (transL_tab (p := P) (by omega) (t1.append t2))
    have HTA := Lib.hid (transL_tab (p := P) (by omega) t1)
    have HTO := Lib.hid (outL_tab (p := P) (by omega) t1 (by omega) (kernL P (transL (LA ++ LB)) (LA.length + LB.length)))
    have HKT := Lib.hid (kernL_tab hp (transL (LA ++ LB)) (LA.length + LB.length))
    have HKN := Lib.hid (kernL_len HP (transL (LA ++ LB)) (LA.length + LB.length))
    have HT1 := Lib.hid t1
    have HLA := Lib.hid hla
    have HLB := Lib.hid hlb
    have HZ := Lib.hid hz
    have HPP := Lib.hid HP
    rw [List.length_append] at HTT
    rw [hla, hlb] at HCL HTT HTO HKT HKN
    clear hz t1 t2 HP hla hlb
    obtain ⟨KN, hK⟩ : ∃ K, K = kernL P (transL (LA ++ LB)) (na + nb) := ⟨_, rfl⟩
    have HKE := Lib.hid hK
    rw [← hK] at HCL HTO HKT HKN
    clear hK
    go_enter Tryz.func232, Tryz.ntmps232
    go_wp2_with fail
    rw [← hW1]
    refine hown.mono ?_
    rintro e w2 ⟨A2, c2, rfl, hM2⟩

    go_wp2_with (at_builtin; refine wpList_plain rfl (fun K hK => wp_appRowsR W1 w2 _ _ rfl A2 _ c2 LA B2 nb d2 LB hM2 h2' (by omega) rfl rfl (fun A3 c3 w3 hR3 hb3 => hK _ _ ?_)))
    have hB3 := hB0.trans (hb3.mono hB0.size)
    have k3 := k0.below hb3 k0.lt
    obtain ⟨q0, q1⟩ := k3.two
    have h13 := h1.below hB3
    clear hown h2' hM2 hb3 k0 hB0 hW1
    go_wp2

    refine wp_obs 8 [[], [0], [], [2], [0, 1, 2, 3], [], [0, 1, 2, 3, 4], [5]] [VIs (.pointer (some ⟨w.heap.size, 0, none⟩)), VIs (.int .i64 (P)), VIs (.slice A3 (na + nb) c3), VMat w3 n (transL (LA ++ LB)), VMat w3 KN.length KN, VEmp w3 24, VMat w3 KN.length KN, VEmp w3 24] (fun w' => Blk w' w.heap.size 26 #[.int .i64 P, .slice A n c] ∧ Below w3.heap.size w3 w') (by kernel_rfl) (by kernel_rfl) (fun _ _ h hb => ⟨h.1.below hb h.1.lt, h.2.trans (hb.mono h.2.size)⟩) (⟨k3.drew, (Below.refl _ _).drew⟩) (fun x => ?_)
    refine obs_step (Eq.trans (by simp only [List.getElem?_toArray, List.getElem?_cons_zero]; exact rfl) rfl) rfl (fun w' hS hV K hK => ?_) ?_
    · obtain ⟨q0, q1⟩ := hS.1.two
      go_simp
      exact hK.out _ _ _ rfl rfl rfl (Below.refl _ _)
    simp only [List.setIfInBounds_toArray, List.set_cons_zero, List.set_cons_succ]
    refine obs_step (Eq.trans (by simp only [List.getElem?_toArray, List.getElem?_cons_succ, List.getElem?_cons_zero]; exact rfl) rfl) rfl (fun w' hS hV K hK => ?_) ?_
    · have e0 : x 0 = (.pointer (some ⟨w.heap.size, 0, none⟩)) := hV 0 (by decide)
      obtain ⟨q0, q1⟩ := hS.1.two
      go_simp
      exact hK.out _ _ _ rfl rfl rfl (Below.refl _ _)
    simp only [List.setIfInBounds_toArray, List.set_cons_zero, List.set_cons_succ]
    refine obs_step (Eq.trans (by simp only [List.getElem?_toArray, List.getElem?_cons_succ, List.getElem?_cons_zero]; exact rfl) rfl) rfl (fun w' hS hV K hK => ?_) ?_
    · obtain ⟨q0, q1⟩ := hS.1.two
      go_simp
      exact hK.out _ _ _ rfl rfl rfl (Below.refl _ _)
    simp only [List.setIfInBounds_toArray, List.set_cons_zero, List.set_cons_succ]
    refine obs_step (Eq.trans (by simp only [List.getElem?_toArray, List.getElem?_cons_succ, List.getElem?_cons_zero]; exact rfl) rfl) rfl (fun w' hS hV K hK => ?_) ?_
    · have e2 : x 2 = (.slice A3 (na + nb) c3) := hV 2 (by decide)
      obtain ⟨q0, q1⟩ := hS.1.two
      go_simp
      refine (l02Turn_any P _ _ _ (LA ++ LB) n _ (by have := HZ.out; omega) (by omega) (by omega) (hR3.below hS.2) HTAB.out).mono ?_
      rintro e v1 ⟨A4, c4, rfl, hM⟩
      exact hK.out _ _ _ rfl rfl ⟨_, _, rfl, hM.after hS.2⟩ hM.b
    simp only [List.setIfInBounds_toArray, List.set_cons_zero, List.set_cons_succ]
    refine obs_step (Eq.trans (by simp only [List.getElem?_toArray, List.getElem?_cons_succ, List.getElem?_cons_zero]; exact rfl) rfl) rfl (fun w' hS hV K hK => ?_) ?_
    · have e0 : x 0 = (.pointer (some ⟨w.heap.size, 0, none⟩)) := hV 0 (by decide)
      have e1 : x 1 = (.int .i64 (P)) := hV 1 (by decide)
      have e2 : x 2 = (.slice A3 (na + nb) c3) := hV 2 (by decide)
      obtain ⟨A3, c3, e3, h3⟩ := hV 3 (by decide)
      obtain ⟨q0, q1⟩ := hS.1.two
      go_simp
      refine (l02Kernel_any P _ _ _ (transL (LA ++ LB)) (na + nb) _ HPP.out h0 (by omega) (by omega) h3.rd HTT.out).mono ?_
      rw [← HKE.out]
      rintro e v1 ⟨A4, c4, rfl, hM⟩
      exact hK.out _ _ _ rfl rfl ⟨_, _, rfl, hM.after hS.2⟩ hM.b
    simp only [List.setIfInBounds_toArray, List.set_cons_zero, List.set_cons_succ]
    refine obs_step (Eq.trans (by simp only [List.getElem?_toArray, List.getElem?_cons_succ, List.getElem?_cons_zero]; exact rfl) rfl) rfl (fun w' hS hV K hK => ?_) ?_
    · obtain ⟨q0, q1⟩ := hS.1.two
      go_simp
      exact hK.out _ _ _ rfl rfl ⟨_, rfl, hS.2.size, Blk.new _ _ _⟩ ((Below.refl _ _).alloc (Nat.le_refl _) _)
    simp only [List.setIfInBounds_toArray, List.set_cons_zero, List.set_cons_succ]
    refine obs_step (Eq.trans (by simp only [List.getElem?_toArray, List.getElem?_cons_succ, List.getElem?_cons_zero]; exact rfl) rfl) rfl (fun w' hS hV K hK => ?_) ?_
    · have e0 : x 0 = (.pointer (some ⟨w.heap.size, 0, none⟩)) := hV 0 (by decide)
      have e1 : x 1 = (.int .i64 (P)) := hV 1 (by decide)
      have e2 : x 2 = (.slice A3 (na + nb) c3) := hV 2 (by decide)
      obtain ⟨A3, c3, e3, h3⟩ := hV 3 (by decide)
      obtain ⟨A4, c4, e4, h4⟩ := hV 4 (by decide)
      obtain ⟨q0, q1⟩ := hS.1.two
      go_simp
      exact hK.out _ _ _ rfl rfl ⟨_, _, rfl, h4⟩ (Below.refl _ _)
    simp only [List.setIfInBounds_toArray, List.set_cons_zero, List.set_cons_succ]
    refine obs_step (Eq.trans (by simp only [List.getElem?_toArray, List.getElem?_cons_succ, List.getElem?_cons_zero]; exact rfl) rfl) rfl (fun w' hS hV K hK => ?_) ?_
    · obtain ⟨A5, e5, z5, h5⟩ := hV 5 (by decide)
      obtain ⟨q0, q1⟩ := hS.1.two
      go_simp
      exact hK.out _ _ _ rfl rfl ⟨_, rfl, z5, h5⟩ (Below.refl _ _)
    simp only [List.setIfInBounds_toArray, List.set_cons_zero, List.set_cons_succ]
    refine fun w' hS hV => ?_
    have e0 : x 0 = (.pointer (some ⟨w.heap.size, 0, none⟩)) := hV 0 (by decide)
    have e1 : x 1 = (.int .i64 (P)) := hV 1 (by decide)
    have e2 : x 2 = (.slice A3 (na + nb) c3) := hV 2 (by decide)
    obtain ⟨A3, c3, e3, h3⟩ := hV 3 (by decide)
    obtain ⟨A4, c4, e4, h4⟩ := hV 4 (by decide)
    obtain ⟨A5, e5, z5, h5⟩ := hV 5 (by decide)
    obtain ⟨A6, c6, e6, h6⟩ := hV 6 (by decide)
    obtain ⟨A7, e7, z7, h7⟩ := hV 7 (by decide)
    simp only [e0, e1, e2, e3, e4, e5, e6, e7]
    clear e0 e1 e2 e3 e4 e5 e6 e7
    refine wpAny_done (by kernel_rfl) ?_ _
    obtain ⟨w4, rfl⟩ : ∃ W, W = w' := ⟨_, rfl⟩
    have k4 := hS.1
    have hB4 := hB3.trans (hS.2.mono hB3.size)
    have hK4 := h6.rd
    have hE4 := h7
    have hge : w.heap.size ≤ A7 := Nat.le_trans hB3.size z7
    have hO4 : MkII w w4 (some ⟨A7, 0, none⟩) 0 0 [] := ⟨[], ⟨hB4, Own.of_cells (cs := #[]) hge hE4 (by simp [maxLen])⟩, Nest.nil _ _⟩
    obtain ⟨g9, hg9⟩ : ∃ g, g = A7 := ⟨_, rfl⟩
    obtain ⟨A8, hA8⟩ : ∃ g, g = A6 := ⟨_, rfl⟩
    obtain ⟨c8, hc8⟩ : ∃ g, g = c6 := ⟨_, rfl⟩
    rw [← hA8] at hK4 ⊢
    rw [← hg9] at hE4 hO4 ⊢
    rw [← hc8]
    have hgr0 : Grows w4 w4 g9 (.slice (some ⟨g9, 0, none⟩) 0 0) := ⟨CK.refl _, Nat.le_refl _, fun gb h => .inl (by simpa [Value.ownBlock] using h.symm)⟩
    have h14 := h1.below hB4
    clear hS h3 h4 h5 h6 h7 z7 z5 hA8 hg9 hc8 hR3 h13 k3 hB3 hge q0 q1
    go_wp2
    go_loopw [9, 10] (fun out i wr => ∃ (k : Nat) (A' : Option Addr) (c' : Nat), k ≤ KN.length ∧ i = .int .i64 k ∧ out = .slice A' k c' ∧ MkII w wr A' k c' ((outL P LA KN).take k) ∧ Grows w4 wr g9 (.slice A' k c') ∧ Blk wr w.heap.size 26 #[.int .i64 P, .slice A n c]) (fun _ i _ => KN.length - (intOf i).toNat)
    case atStart => exact ⟨0, _, _, by omega, rfl, rfl, by simpa using hO4, hgr0, k4⟩
    case round =>
      obtain ⟨k, A', c', hk, rfl, rfl, hM, hgr, k5⟩ := hrel
      clear hO4 hgr0 k4
      have hkn := HKN.out
      obtain ⟨q0, q1⟩ := k5.two
      by_cases hlt : k < KN.length
      · obtain ⟨g8, o8, rfl, hxk, Ak, ck, hcx, hrk, hcc⟩ := (hK4.ck hgr.1).at_ hlt
        have hlk : KN[k].length = na + nb := (HKT.out _ (List.getElem_mem hxk)).1
        have htk := takes_len HKT.out hxk (show na ≤ na + nb by omega)
        have hrt : Rd wr Ak na (ints (KN[k].take na)) := by rw [← ints_take]; exact hrk.cut (by omega)
        have hlen := htk.1
        rw [hlk] at hcx hcc
        have HAP : Hid ((outL P LA KN).take (k + 1) = (outL P LA KN).take k ++ [applyL P (transL LA) (KN[k].take na)]) := Lib.hid (by rw [outL_take hxk, HLA.out])
        obtain ⟨z, hz⟩ : ∃ z, z = KN[k].take na := ⟨_, rfl⟩
        rw [← hz] at htk hrt HAP hlen
        have HZN := Lib.hid htk.2
        have HHR := Lib.hid hrt
        have h15 := h1.below hM.b
        have HM := Lib.hid hM
        have HGR := Lib.hid hgr
        have i1 : (0 : Int) ≤ (k : Int) := by omega
        have i2 : (k : Int) < (KN.length : Int) := by omega
        have hck : na ≤ ck := by omega
        clear hM hgr hrk hlk htk hrt hz hcc hlen
        go_wp2
        refine wp_obs 14 [[], [], [1], [], [3], [], [], [5, 6], [5, 6, 7], [], [9], [5, 6, 7, 8, 9, 10], [1, 2, 3, 4, 5, 6, 7, 8, 9, 10, 11], [1, 2, 3, 4, 5, 6, 7, 8, 9, 10, 11, 12], [0, 1, 2, 3, 4, 5, 6, 7, 8, 9, 10, 11, 12, 13], [0, 1, 2, 3, 4, 5, 6, 7, 8, 9, 10, 11, 12, 13, 14]] [VIs (.slice A' k c'), VIs (.pointer (some ⟨w.heap.size, 0, none⟩)), VIs (.int .i64 (P)), VIs (.slice B1 na d1), VMat wr n (transL LA), VIs (.slice (some ⟨g8, o8, none⟩) KN.length c8), VIs (.int .i64 (k)), VIs (.pointer (some ⟨g8, o8 + k, none⟩)), VIs (.slice Ak (na + nb) ck), VIs (.slice B1 na d1), VIs (.int .i64 (na)), VIs (.slice Ak na ck), VSl wr n (applyL P (transL LA) z), VNew wr n (applyL P (transL LA) z)] (fun w' => w'.cell? ⟨g8, o8 + k, none⟩ = some (.slice Ak (na + nb) ck) ∧ Blk w' w.heap.size 26 #[.int .i64 P, .slice A n c] ∧ Below wr.heap.size wr w') (by kernel_rfl) (by kernel_rfl) (fun _ _ h hb => ⟨(hb.cell (World.block_lt_of_cell? _ _ h.1)).trans h.1, h.2.1.below hb h.2.1.lt, h.2.2.trans (hb.mono h.2.2.size)⟩) (⟨hcx, k5.drew, (Below.refl _ _).drew⟩) (fun x => ?_)
        refine obs_step (Eq.trans (by simp only [List.getElem?_toArray, List.getElem?_cons_zero]; exact rfl) rfl) rfl (fun w' hS hV K hK => ?_) ?_
        · have q2 := hS.1; obtain ⟨q0, q1⟩ := hS.2.1.two
          go_simp
          exact hK.out _ _ _ rfl rfl rfl (Below.refl _ _)
        simp only [List.setIfInBounds_toArray, List.set_cons_zero, List.set_cons_succ]
        refine obs_step (Eq.trans (by simp only [List.getElem?_toArray, List.getElem?_cons_succ, List.getElem?_cons_zero]; exact rfl) rfl) rfl (fun w' hS hV K hK => ?_) ?_
        · have q2 := hS.1; obtain ⟨q0, q1⟩ := hS.2.1.two
          go_simp
          exact hK.out _ _ _ rfl rfl rfl (Below.refl _ _)
        simp only [List.setIfInBounds_toArray, List.set_cons_zero, List.set_cons_succ]
        refine obs_step (Eq.trans (by simp only [List.getElem?_toArray, List.getElem?_cons_succ, List.getElem?_cons_zero]; exact rfl) rfl) rfl (fun w' hS hV K hK => ?_) ?_
        · have e1 : x 1 = (.pointer (some ⟨w.heap.size, 0, none⟩)) := hV 1 (by decide)
          have q2 := hS.1; obtain ⟨q0, q1⟩ := hS.2.1.two
          go_simp
          exact hK.out _ _ _ rfl rfl rfl (Below.refl _ _)
        simp only [List.setIfInBounds_toArray, List.set_cons_zero, List.set_cons_succ]
        refine obs_step (Eq.trans (by simp only [List.getElem?_toArray, List.getElem?_cons_succ, List.getElem?_cons_zero]; exact rfl) rfl) rfl (fun w' hS hV K hK => ?_) ?_
        · have q2 := hS.1; obtain ⟨q0, q1⟩ := hS.2.1.two
          go_simp
          exact hK.out _ _ _ rfl rfl rfl (Below.refl _ _)
        simp only [List.setIfInBounds_toArray, List.set_cons_zero, List.set_cons_succ]
        refine obs_step (Eq.trans (by simp only [List.getElem?_toArray, List.getElem?_cons_succ, List.getElem?_cons_zero]; exact rfl) rfl) rfl (fun w' hS hV K hK => ?_) ?_
        · have e3 : x 3 = (.slice B1 na d1) := hV 3 (by decide)
          have q2 := hS.1; obtain ⟨q0, q1⟩ := hS.2.1.two
          go_simp
          refine (l02Turn_any P _ _ _ LA n _ (by have := HZ.out; omega) (by omega) (by omega) (h15.below hS.2.2) HT1.out).mono ?_
          rintro e v1 ⟨A4, c4, rfl, hM⟩
          exact hK.out _ _ _ rfl rfl ⟨_, _, rfl, hM.after hS.2.2⟩ hM.b
        simp only [List.setIfInBounds_toArray, List.set_cons_zero, List.set_cons_succ]
        refine obs_step (Eq.trans (by simp only [List.getElem?_toArray, List.getElem?_cons_succ, List.getElem?_cons_zero]; exact rfl) rfl) rfl (fun w' hS hV K hK => ?_) ?_
        · have q2 := hS.1; obtain ⟨q0, q1⟩ := hS.2.1.two
          go_simp
          exact hK.out _ _ _ rfl rfl rfl (Below.refl _ _)
        simp only [List.setIfInBounds_toArray, List.set_cons_zero, List.set_cons_succ]
        refine obs_step (Eq.trans (by simp only [List.getElem?_toArray, List.getElem?_cons_succ, List.getElem?_cons_zero]; exact rfl) rfl) rfl (fun w' hS hV K hK => ?_) ?_
        · have q2 := hS.1; obtain ⟨q0, q1⟩ := hS.2.1.two
          go_simp
          exact hK.out _ _ _ rfl rfl rfl (Below.refl _ _)
        simp only [List.setIfInBounds_toArray, List.set_cons_zero, List.set_cons_succ]
        refine obs_step (Eq.trans (by simp only [List.getElem?_toArray, List.getElem?_cons_succ, List.getElem?_cons_zero]; exact rfl) rfl) rfl (fun w' hS hV K hK => ?_) ?_
        · have e5 : x 5 = (.slice (some ⟨g8, o8, none⟩) KN.length c8) := hV 5 (by decide)
          have e6 : x 6 = (.int .i64 (k)) := hV 6 (by decide)
          have q2 := hS.1; obtain ⟨q0, q1⟩ := hS.2.1.two
          go_simp
          exact hK.out _ _ _ rfl rfl rfl (Below.refl _ _)
        simp only [List.setIfInBounds_toArray, List.set_cons_zero, List.set_cons_succ]
        refine obs_step (Eq.trans (by simp only [List.getElem?_toArray, List.getElem?_cons_succ, List.getElem?_cons_zero]; exact rfl) rfl) rfl (fun w' hS hV K hK => ?_) ?_
        · have e5 : x 5 = (.slice (some ⟨g8, o8, none⟩) KN.length c8) := hV 5 (by decide)
          have e6 : x 6 = (.int .i64 (k)) := hV 6 (by decide)
          have e7 : x 7 = (.pointer (some ⟨g8, o8 + k, none⟩)) := hV 7 (by decide)
          have q2 := hS.1; obtain ⟨q0, q1⟩ := hS.2.1.two
          go_simp
          exact hK.out _ _ _ rfl rfl rfl (Below.refl _ _)
        simp only [List.setIfInBounds_toArray, List.set_cons_zero, List.set_cons_succ]
        refine obs_step (Eq.trans (by simp only [List.getElem?_toArray, List.getElem?_cons_succ, List.getElem?_cons_zero]; exact rfl) rfl) rfl (fun w' hS hV K hK => ?_) ?_
        · have q2 := hS.1; obtain ⟨q0, q1⟩ := hS.2.1.two
          go_simp
          exact hK.out _ _ _ rfl rfl rfl (Below.refl _ _)
        simp only [List.setIfInBounds_toArray, List.set_cons_zero, List.set_cons_succ]
        refine obs_step (Eq.trans (by simp only [List.getElem?_toArray, List.getElem?_cons_succ, List.getElem?_cons_zero]; exact rfl) rfl) rfl (fun w' hS hV K hK => ?_) ?_
        · have e9 : x 9 = (.slice B1 na d1) := hV 9 (by decide)
          have q2 := hS.1; obtain ⟨q0, q1⟩ := hS.2.1.two
          go_simp
          exact hK.out _ _ _ rfl rfl rfl (Below.refl _ _)
        simp only [List.setIfInBounds_toArray, List.set_cons_zero, List.set_cons_succ]
        refine obs_step (Eq.trans (by simp only [List.getElem?_toArray, List.getElem?_cons_succ, List.getElem?_cons_zero]; exact rfl) rfl) rfl (fun w' hS hV K hK => ?_) ?_
        · have e5 : x 5 = (.slice (some ⟨g8, o8, none⟩) KN.length c8) := hV 5 (by decide)
          have e6 : x 6 = (.int .i64 (k)) := hV 6 (by decide)
          have e7 : x 7 = (.pointer (some ⟨g8, o8 + k, none⟩)) := hV 7 (by decide)
          have e8 : x 8 = (.slice Ak (na + nb) ck) := hV 8 (by decide)
          have e9 : x 9 = (.slice B1 na d1) := hV 9 (by decide)
          have e10 : x 10 = (.int .i64 (na)) := hV 10 (by decide)
          have q2 := hS.1; obtain ⟨q0, q1⟩ := hS.2.1.two
          go_simp
          exact hK.out _ _ _ rfl rfl rfl (Below.refl _ _)
        simp only [List.setIfInBounds_toArray, List.set_cons_zero, List.set_cons_succ]
        refine obs_step (Eq.trans (by simp only [List.getElem?_toArray, List.getElem?_cons_succ, List.getElem?_cons_zero]; exact rfl) rfl) rfl (fun w' hS hV K hK => ?_) ?_
        · have e1 : x 1 = (.pointer (some ⟨w.heap.size, 0, none⟩)) := hV 1 (by decide)
          have e2 : x 2 = (.int .i64 (P)) := hV 2 (by decide)
          have e3 : x 3 = (.slice B1 na d1) := hV 3 (by decide)
          obtain ⟨A4, c4, e4, h4⟩ := hV 4 (by decide)
          have e5 : x 5 = (.slice (some ⟨g8, o8, none⟩) KN.length c8) := hV 5 (by decide)
          have e6 : x 6 = (.int .i64 (k)) := hV 6 (by decide)
          have e7 : x 7 = (.pointer (some ⟨g8, o8 + k, none⟩)) := hV 7 (by decide)
          have e8 : x 8 = (.slice Ak (na + nb) ck) := hV 8 (by decide)
          have e9 : x 9 = (.slice B1 na d1) := hV 9 (by decide)
          have e10 : x 10 = (.int .i64 (na)) := hV 10 (by decide)
          have e11 : x 11 = (.slice Ak na ck) := hV 11 (by decide)
          have q2 := hS.1; obtain ⟨q0, q1⟩ := hS.2.1.two
          go_simp
          refine (l02Apply_any P _ _ _ (transL LA) _ na _ z _ hp hp2 (by omega) (by omega) h4.rd (by have := HTA.out; rwa [HLA.out] at this) (HHR.out.below hS.2.2) HZN.out).mono ?_
          rintro e v1 ⟨A4, c4, rfl, hM⟩
          exact hK.out _ _ _ rfl rfl ⟨_, _, rfl, hM.after hS.2.2⟩ hM.b
        simp only [List.setIfInBounds_toArray, List.set_cons_zero, List.set_cons_succ]
        refine obs_step (Eq.trans (by simp only [List.getElem?_toArray, List.getElem?_cons_succ, List.getElem?_cons_zero]; exact rfl) rfl) rfl (fun w' hS hV K hK => ?_) ?_
        · have e1 : x 1 = (.pointer (some ⟨w.heap.size, 0, none⟩)) := hV 1 (by decide)
          have e2 : x 2 = (.int .i64 (P)) := hV 2 (by decide)
          have e3 : x 3 = (.slice B1 na d1) := hV 3 (by decide)
          obtain ⟨A4, c4, e4, h4⟩ := hV 4 (by decide)
          have e5 : x 5 = (.slice (some ⟨g8, o8, none⟩) KN.length c8) := hV 5 (by decide)
          have e6 : x 6 = (.int .i64 (k)) := hV 6 (by decide)
          have e7 : x 7 = (.pointer (some ⟨g8, o8 + k, none⟩)) := hV 7 (by decide)
          have e8 : x 8 = (.slice Ak (na + nb) ck) := hV 8 (by decide)
          have e9 : x 9 = (.slice B1 na d1) := hV 9 (by decide)
          have e10 : x 10 = (.int .i64 (na)) := hV 10 (by decide)
          have e11 : x 11 = (.slice Ak na ck) := hV 11 (by decide)
          obtain ⟨A12, c12, e12, h12⟩ := hV 12 (by decide)
          have q2 := hS.1; obtain ⟨q0, q1⟩ := hS.2.1.two
          go_simp
          exact hK.out _ _ _ rfl rfl ⟨_, _, _, rfl, Blk.new _ _ _, h12.below ((Below.refl _ _).alloc (Nat.le_refl _) _)⟩ ((Below.refl _ _).alloc (Nat.le_refl _) _)
        simp only [List.setIfInBounds_toArray, List.set_cons_zero, List.set_cons_succ]
        refine fun w' hS hV => ?_
        have e0 : x 0 = (.slice A' k c') := hV 0 (by decide)
        have e1 : x 1 = (.pointer (some ⟨w.heap.size, 0, none⟩)) := hV 1 (by decide)
        have e2 : x 2 = (.int .i64 (P)) := hV 2 (by decide)
        have e3 : x 3 = (.slice B1 na d1) := hV 3 (by decide)
        obtain ⟨A4, c4, e4, h4⟩ := hV 4 (by decide)
        have e5 : x 5 = (.slice (some ⟨g8, o8, none⟩) KN.length c8) := hV 5 (by decide)
        have e6 : x 6 = (.int .i64 (k)) := hV 6 (by decide)
        have e7 : x 7 = (.pointer (some ⟨g8, o8 + k, none⟩)) := hV 7 (by decide)
        have e8 : x 8 = (.slice Ak (na + nb) ck) := hV 8 (by decide)
        have e9 : x 9 = (.slice B1 na d1) := hV 9 (by decide)
        have e10 : x 10 = (.int .i64 (na)) := hV 10 (by decide)
        have e11 : x 11 = (.slice Ak na ck) := hV 11 (by decide)
        obtain ⟨A12, c12, e12, h12⟩ := hV 12 (by decide)
        obtain ⟨g13, A13, c13, e13, b13, h13⟩ := hV 13 (by decide)
        simp only [e0, e1, e2, e3, e4, e5, e6, e7, e8, e9, e10, e11, e12, e13]
        clear e0 e1 e2 e3 e4 e5 e6 e7 e8 e9 e10 e11 e12 e13
        obtain ⟨_, k6, s2⟩ := hS
        refine any_plain (j := 14) (by kernel_rfl) (Eq.trans (by simp only [List.getElem?_toArray, List.getElem?_cons_succ, List.getElem?_cons_zero]; exact rfl) rfl) rfl (fun K hK => ?_)
        refine wp_appRow w wr w' _ _ rfl A' k c' _ A13 n c13 _ HM.out h13 (by have := HKN.out; omega) g13 b13 (by rfl) (by rfl) ?_
        intro A20 c20 w20 hM20 hg20 hat20
        refine hK.out _ _ ?_
        simp only [Act.put, List.setIfInBounds_toArray, List.set_cons_zero, List.set_cons_succ]
        refine any_one (j := 15) (by kernel_rfl) (Eq.trans (by simp only [List.getElem?_toArray, List.getElem?_cons_succ, List.getElem?_cons_zero]; exact rfl) rfl) (fun K hK => ?_)
        go_simp
        refine hK.out _ _ (wpAny_done (by kernel_rfl) ?_ _)
        have hk7 := k6.grown hg20 ((HM.out.below s2).ne_blk k6 (by decide))
        have hgr7 := HGR.out.step (n' := k + 1) (c' := c20) hE4 s2 hg20 hat20
        clear k6 hg20 hat20 s2
        go_wp2
        go_roundw
        case rel => exact ⟨k + 1, A20, c20, by omega, by go_num, rfl, by rw [HAP.out]; exact hM20, hgr7, hk7⟩
        case measure => simp [intOf]; omega
      · obtain rfl : k = KN.length := by omega
        rw [List.take_of_length_le (by unfold outL; rw [List.length_map]; exact Nat.le_refl _)] at hM
        have hcall := l02Basis_any P A' KN.length c' (outL P LA KN) n wr HPP.out (by have := HKN.out; omega) (by omega) hM.rd HTO.out
        obtain ⟨R, hR⟩ : ∃ R, R = basisL P (outL P LA KN) := ⟨_, rfl⟩
        have HRR : Hid (commonL P LA LB = R) := Lib.hid (by rw [HCL.out, hR])
        rw [← hR] at hcall
        clear hR
        go_wp2_with fail
        refine hcall.mono ?_
        rintro e w6 ⟨A6, c6, rfl, hM6⟩
        go_wp2
        go_ret
        rw [HRR.out]
        exact ⟨_, _, rfl, hM6.after hM.b⟩
/-- CommonBlade. -/
def comR (P : Int) (sq : List Int) (xs : List Int) (ys : List Int) : List Int × Int := if codeL P sq [xs, ys] = 0 then (blaL P sq sq.length (comL P sq.length (subL P sq sq.length xs) (subL P sq sq.length ys)), 0) else ([], codeL P sq [xs, ys])
theorem comR_ok {P : Int} {sq xs ys : List Int} (h : codeL P sq [xs, ys] = 0) : comR P sq xs ys = (blaL P sq sq.length (comL P sq.length (subL P sq sq.length xs) (subL P sq sq.length ys)), 0) := by unfold comR; rw [if_pos h]
theorem comR_bad {P : Int} {sq xs ys : List Int} (h : ¬ codeL P sq [xs, ys] = 0) : comR P sq xs ys = ([], codeL P sq [xs, ys]) := by unfold comR; rw [if_neg h]
theorem comR_len (P : Int) (sq xs ys : List Int) : (comR P sq xs ys).1.length ≤ 1048576 := by
  by_cases h : codeL P sq [xs, ys] = 0
  · obtain ⟨HP, hp, _, h1, h6, _, _⟩ := codeM_spec3 (codeL_zero h).1
    rw [comR_ok h]
    show (blaL _ _ _ _).length ≤ _
    rw [blaL_len]
    exact Nat.le_trans (pw_le h6) (by decide)
  · rw [comR_bad h]; simp
theorem comL_len {p : Int} (hP : isP p = true) (n : Nat) (a b : List (List Int)) : (comL p n a b).length ≤ n := kernL_len hP _ _
set_option maxHeartbeats 3200000 in
set_option maxRecDepth 8000 in
theorem specCommonBlade_any (P : Int) (A : Option Addr) (n c : Nat) (sq : List Int) (X : Option Addr) (m cx : Nat) (xs : List Int) (Y : Option Addr) (l cy : Nat) (ys : List Int) (w : World) (hn : n ≤ 1048576) (hm : m ≤ 1048576) (hl : l ≤ 1048576) (ha : Rd w A n (ints sq)) (hx : Rd w X m (ints xs)) (hcx : m ≤ cx) (hy : Rd w Y l (ints ys)) (hcy : l ≤ cy) :
    Calls Tryz.prog 80 #[.agg #[.int .i64 P, .slice A n c], .slice X m cx, .slice Y l cy] w fun e w' => ∃ (A' : Option Addr) (k c' : Nat), e = .returned (.tuple #[.slice A' k c', .int .i64 (comR P sq xs ys).2]) ∧ MkI w w' A' k c' (comR P sq xs ys).1 := by
  have hB0 : Below w.heap.size w (w.alloc (.cells #[.int .i64 P, .slice A n c] 26)) := (Below.refl _ _).alloc (Nat.le_refl _) _
  have k0 : Blk (w.alloc (.cells #[.int .i64 P, .slice A n c] 26)) w.heap.size 26 #[.int .i64 P, .slice A n c] := Blk.new _ _ _
  have hB1 : Below w.heap.size w ((w.alloc (.cells #[.int .i64 P, .slice A n c] 26)).alloc (.cells #[.slice X m cx, .slice Y l cy] 24)) := hB0.alloc (by simp) _
  have k1 : Blk ((w.alloc (.cells #[.int .i64 P, .slice A n c] 26)).alloc (.cells #[.slice X m cx, .slice Y l cy] 24)) w.heap.size 26 #[.int .i64 P, .slice A n c] := k0.alloc _
  have hreg := l06Code_any P A (some ⟨w.heap.size + 1, 0, none⟩) n c 2 2 sq [xs, ys] ((w.alloc (.cells #[.int .i64 P, .slice A n c] 26)).alloc (.cells #[.slice X m cx, .slice Y l cy] 24)) hn (by omega) (ha.below hB1) (rdII_two (Blk.newAt3 (by simp)) (hx.below hB1) (hy.below hB1) hcx hcy) (all_two (by rw [hx.lenI]; exact hm) (by rw [hy.lenI]; exact hl))
  by_cases hr0 : codeL P sq [xs, ys] = 0
  · skip
    have hcM := (codeL_zero hr0).1
    rw [hr0] at hreg
    have HR0 := Lib.hid hr0
    clear hr0
    obtain ⟨HP, hp, hp2, hd1, hd2, hs0, hms⟩ := codeM_spec3 hcM
    have hsl := ha.lenI
    obtain ⟨hx1, hxs0⟩ := hms xs (by simp)
    have hmx : m = pw n := by rw [← hx.lenI, hx1, hsl]
    subst hmx
    obtain ⟨hy1, hys0⟩ := hms ys (by simp)
    have hly : l = pw n := by rw [← hy.lenI, hy1, hsl]
    subst hly
    have HYS := Lib.hid hys0
    clear hy1 hys0
    have HSL := Lib.hid hsl
    have HS0 := Lib.hid hs0
    have HXS := Lib.hid hxs0
    have hn6 : n ≤ 6 := by omega
    have hn0 : 0 < n := by omega
    clear hsl hms hx1 hs0 hxs0 hd1 hd2 hcM
    go_enter Tryz.func80, Tryz.ntmps80
    go_wp2_with fail
    refine hreg.mono ?_
    rintro e w2 ⟨rfl, hb2⟩
    have hB2 := hB1.trans (hb2.mono hB1.size)
    have k2 := k1.below hb2 k1.lt
    obtain ⟨q0, q1⟩ := k2.two
    clear k0 hB0 k1 hB1 hb2
    have HOK : Hid (comR P sq xs ys = (blaL P sq n (comL P n (subL P sq n xs) (subL P sq n ys)), 0)) := Lib.hid (by rw [comR_ok HR0.out, HSL.out])
    have hkl : w.heap.size < w2.heap.size := k2.lt
    have hls := subL_len HP sq n xs
    have hly := subL_len HP sq n ys
    have htx := subL_tab hp sq n xs
    have hty := subL_tab hp sq n ys
    have hcl : (commonL P (subL P sq n xs) (subL P sq n ys)).length ≤ 65536 := by have := commonL_len (b := subL P sq n ys) HP htx; omega
    have HSUB := Lib.hid fun (w' : World) (h : Below w2.heap.size w2 w') => l06Subspace_any P A n c sq X cx xs w' HP hn6 hn0 ((ha.below hB2).below h) HS0.out ((hx.below hB2).below h) HXS.out
    have HSUY := Lib.hid fun (w' : World) (h : Below w2.heap.size w2 w') => l06Subspace_any P A n c sq Y cy ys w' HP hn6 hn0 ((ha.below hB2).below h) HS0.out ((hy.below hB2).below h) HYS.out
    have HCOM := Lib.hid fun (w' : World) (B1 : Option Addr) (d1 : Nat) (B2 : Option Addr) (d2 : Nat) (_h : Below w2.heap.size w2 w') (h1 : RdII w' B1 (subL P sq n xs).length (subL P sq n xs)) (h2 : RdII w' B2 (subL P sq n ys).length (subL P sq n ys)) => l06Common_any P A n c sq B1 _ d1 (subL P sq n xs) B2 _ d2 (subL P sq n ys) w' HP hn6 hn0 (by omega) (by omega) h1 htx h2 hty
    have HBLA := Lib.hid fun (w' : World) (B : Option Addr) (d : Nat) (h : Below w2.heap.size w2 w') (hb : RdII w' B (commonL P (subL P sq n xs) (subL P sq n ys)).length (commonL P (subL P sq n xs) (subL P sq n ys))) => l06Blade_any P A n c sq B _ d _ w' HP hn6 hn0 hcl ((ha.below hB2).below h) HS0.out hb (commonL_tab (by omega) htx)
    rw [blaL_common HP htx hty] at HBLA
    obtain ⟨LJ, hLJ⟩ : ∃ R, R = blaL P sq n (comL P n (subL P sq n xs) (subL P sq n ys)) := ⟨_, rfl⟩
    rw [← hLJ] at HOK HBLA
    obtain ⟨LC, hLC⟩ : ∃ R, R = commonL P (subL P sq n xs) (subL P sq n ys) := ⟨_, rfl⟩
    rw [← hLC] at HBLA HCOM
    obtain ⟨LA, hLA⟩ : ∃ R, R = subL P sq n xs := ⟨_, rfl⟩
    obtain ⟨LB, hLB⟩ : ∃ R, R = subL P sq n ys := ⟨_, rfl⟩
    rw [← hLA] at HSUB
    rw [← hLB] at HSUY
    rw [← hLA, ← hLB] at HCOM
    clear hLJ hLC hLA hLB htx hty hls hly hcl hkl
    go_wp2
    refine wp_obs 12 [[], [], [], [], [2, 3], [], [], [5, 6], [1, 2, 3, 4, 5, 6, 7], [0, 1, 2, 3, 4, 5, 6, 7, 8], [0, 1, 2, 3, 4, 5, 6, 7, 8, 9], []] [VIs (.agg #[.int .i64 P, .slice A n c]), VIs (.agg #[.int .i64 P, .slice A n c]), VIs (.agg #[.int .i64 P, .slice A n c]), VIs (.slice X (pw n) cx), VMat w2 LA.length LA, VIs (.agg #[.int .i64 P, .slice A n c]), VIs (.slice Y (pw n) cy), VMat w2 LB.length LB, VMat w2 LC.length LC, VSl w2 (pw n) LJ, VSl w2 (pw n) LJ, VIs (.int .i64 0)] (fun w' => Blk w' w.heap.size 26 #[.int .i64 P, .slice A n c] ∧ Below w2.heap.size w2 w') (by kernel_rfl) (by kernel_rfl) (fun _ _ h hb => ⟨h.1.below hb h.1.lt, h.2.trans (hb.mono h.2.size)⟩) (⟨k2.drew, (Below.refl _ _).drew⟩) (fun x => ?_)
    refine obs_step (Eq.trans (by simp only [List.getElem?_toArray, List.getElem?_cons_zero]; exact rfl) rfl) rfl (fun w' hS hV K hK => ?_) ?_
    · obtain ⟨q0, q1⟩ := hS.1.two
      go_simp
      exact hK.out _ _ _ rfl rfl rfl (Below.refl _ _)
    simp only [List.setIfInBounds_toArray, List.set_cons_zero, List.set_cons_succ]
    refine obs_step (Eq.trans (by simp only [List.getElem?_toArray, List.getElem?_cons_succ, List.getElem?_cons_zero]; exact rfl) rfl) rfl (fun w' hS hV K hK => ?_) ?_
    · obtain ⟨q0, q1⟩ := hS.1.two
      go_simp
      exact hK.out _ _ _ rfl rfl rfl (Below.refl _ _)
    simp only [List.setIfInBounds_toArray, List.set_cons_zero, List.set_cons_succ]
    refine obs_step (Eq.trans (by simp only [List.getElem?_toArray, List.getElem?_cons_succ, List.getElem?_cons_zero]; exact rfl) rfl) rfl (fun w' hS hV K hK => ?_) ?_
    · obtain ⟨q0, q1⟩ := hS.1.two
      go_simp
      exact hK.out _ _ _ rfl rfl rfl (Below.refl _ _)
    simp only [List.setIfInBounds_toArray, List.set_cons_zero, List.set_cons_succ]
    refine obs_step (Eq.trans (by simp only [List.getElem?_toArray, List.getElem?_cons_succ, List.getElem?_cons_zero]; exact rfl) rfl) rfl (fun w' hS hV K hK => ?_) ?_
    · obtain ⟨q0, q1⟩ := hS.1.two
      go_simp
      exact hK.out _ _ _ rfl rfl rfl (Below.refl _ _)
    simp only [List.setIfInBounds_toArray, List.set_cons_zero, List.set_cons_succ]
    refine obs_step (Eq.trans (by simp only [List.getElem?_toArray, List.getElem?_cons_succ, List.getElem?_cons_zero]; exact rfl) rfl) rfl (fun w' hS hV K hK => ?_) ?_
    · have e2 : x 2 = (.agg #[.int .i64 P, .slice A n c]) := hV 2 (by decide)
      have e3 : x 3 = (.slice X (pw n) cx) := hV 3 (by decide)
      obtain ⟨q0, q1⟩ := hS.1.two
      go_simp
      refine (HSUB.out _ hS.2).mono ?_
      rintro e v1 ⟨A2, c2, rfl, hM⟩
      exact hK.out _ _ _ rfl rfl ⟨_, _, rfl, hM.after hS.2⟩ hM.b
    simp only [List.setIfInBounds_toArray, List.set_cons_zero, List.set_cons_succ]
    refine obs_step (Eq.trans (by simp only [List.getElem?_toArray, List.getElem?_cons_succ, List.getElem?_cons_zero]; exact rfl) rfl) rfl (fun w' hS hV K hK => ?_) ?_
    · obtain ⟨q0, q1⟩ := hS.1.two
      go_simp
      exact hK.out _ _ _ rfl rfl rfl (Below.refl _ _)
    simp only [List.setIfInBounds_toArray, List.set_cons_zero, List.set_cons_succ]
    refine obs_step (Eq.trans (by simp only [List.getElem?_toArray, List.getElem?_cons_succ, List.getElem?_cons_zero]; exact rfl) rfl) rfl (fun w' hS hV K hK => ?_) ?_
    · obtain ⟨q0, q1⟩ := hS.1.two
      go_simp
      exact hK.out _ _ _ rfl rfl rfl (Below.refl _ _)
    simp only [List.setIfInBounds_toArray, List.set_cons_zero, List.set_cons_succ]
    refine obs_step (Eq.trans (by simp only [List.getElem?_toArray, List.getElem?_cons_succ, List.getElem?_cons_zero]; exact rfl) rfl) rfl (fun w' hS hV K hK => ?_) ?_
    · have e5 : x 5 = (.agg #[.int .i64 P, .slice A n c]) := hV 5 (by decide)
      have e6 : x 6 = (.slice Y (pw n) cy) := hV 6 (by decide)
      obtain ⟨q0, q1⟩ := hS.1.two
      go_simp
      refine (HSUY.out _ hS.2).mono ?_
      rintro e v1 ⟨A2, c2, rfl, hM⟩
      exact hK.out _ _ _ rfl rfl ⟨_, _, rfl, hM.after hS.2⟩ hM.b
    simp only [List.setIfInBounds_toArray, List.set_cons_zero, List.set_cons_succ]
    refine obs_step (Eq.trans (by simp only [List.getElem?_toArray, List.getElem?_cons_succ, List.getElem?_cons_zero]; exact rfl) rfl) rfl (fun w' hS hV K hK => ?_) ?_
    · have e1 : x 1 = (.agg #[.int .i64 P, .slice A n c]) := hV 1 (by decide)
      have e2 : x 2 = (.agg #[.int .i64 P, .slice A n c]) := hV 2 (by decide)
      have e3 : x 3 = (.slice X (pw n) cx) := hV 3 (by decide)
      obtain ⟨A4, c4, e4, h4⟩ := hV 4 (by decide)
      have e5 : x 5 = (.agg #[.int .i64 P, .slice A n c]) := hV 5 (by decide)
      have e6 : x 6 = (.slice Y (pw n) cy) := hV 6 (by decide)
      obtain ⟨A7, c7, e7, h7⟩ := hV 7 (by decide)
      obtain ⟨q0, q1⟩ := hS.1.two
      go_simp
      refine (HCOM.out _ _ _ _ _ hS.2 h4.rd h7.rd).mono ?_
      rintro e v1 ⟨A2, c2, rfl, hM⟩
      exact hK.out _ _ _ rfl rfl ⟨_, _, rfl, hM.after hS.2⟩ hM.b
    simp only [List.setIfInBounds_toArray, List.set_cons_zero, List.set_cons_succ]
    refine obs_step (Eq.trans (by simp only [List.getElem?_toArray, List.getElem?_cons_succ, List.getElem?_cons_zero]; exact rfl) rfl) rfl (fun w' hS hV K hK => ?_) ?_
    · have e0 : x 0 = (.agg #[.int .i64 P, .slice A n c]) := hV 0 (by decide)
      have e1 : x 1 = (.agg #[.int .i64 P, .slice A n c]) := hV 1 (by decide)
      have e2 : x 2 = (.agg #[.int .i64 P, .slice A n c]) := hV 2 (by decide)
      have e3 : x 3 = (.slice X (pw n) cx) := hV 3 (by decide)
      obtain ⟨A4, c4, e4, h4⟩ := hV 4 (by decide)
      have e5 : x 5 = (.agg #[.int .i64 P, .slice A n c]) := hV 5 (by decide)
      have e6 : x 6 = (.slice Y (pw n) cy) := hV 6 (by decide)
      obtain ⟨A7, c7, e7, h7⟩ := hV 7 (by decide)
      obtain ⟨A8, c8, e8, h8⟩ := hV 8 (by decide)
      obtain ⟨q0, q1⟩ := hS.1.two
      go_simp
      refine (HBLA.out _ _ _ hS.2 h8.rd).mono ?_
      rintro e v1 ⟨A2, c2, rfl, hM⟩
      exact hK.out _ _ _ rfl rfl ⟨_, _, rfl, hM.after hS.2⟩ hM.b
    simp only [List.setIfInBounds_toArray, List.set_cons_zero, List.set_cons_succ]
    refine obs_step (Eq.trans (by simp only [List.getElem?_toArray, List.getElem?_cons_succ, List.getElem?_cons_zero]; exact rfl) rfl) rfl (fun w' hS hV K hK => ?_) ?_
    · have e0 : x 0 = (.agg #[.int .i64 P, .slice A n c]) := hV 0 (by decide)
      have e1 : x 1 = (.agg #[.int .i64 P, .slice A n c]) := hV 1 (by decide)
      have e2 : x 2 = (.agg #[.int .i64 P, .slice A n c]) := hV 2 (by decide)
      have e3 : x 3 = (.slice X (pw n) cx) := hV 3 (by decide)
      obtain ⟨A4, c4, e4, h4⟩ := hV 4 (by decide)
      have e5 : x 5 = (.agg #[.int .i64 P, .slice A n c]) := hV 5 (by decide)
      have e6 : x 6 = (.slice Y (pw n) cy) := hV 6 (by decide)
      obtain ⟨A7, c7, e7, h7⟩ := hV 7 (by decide)
      obtain ⟨A8, c8, e8, h8⟩ := hV 8 (by decide)
      obtain ⟨A9, c9, e9, h9⟩ := hV 9 (by decide)
      obtain ⟨q0, q1⟩ := hS.1.two
      go_simp
      exact hK.out _ _ _ rfl rfl ⟨_, _, rfl, h9⟩ (Below.refl _ _)
    simp only [List.setIfInBounds_toArray, List.set_cons_zero, List.set_cons_succ]
    refine obs_step (Eq.trans (by simp only [List.getElem?_toArray, List.getElem?_cons_succ, List.getElem?_cons_zero]; exact rfl) rfl) rfl (fun w' hS hV K hK => ?_) ?_
    · obtain ⟨q0, q1⟩ := hS.1.two
      go_simp
      exact hK.out _ _ _ rfl rfl rfl (Below.refl _ _)
    simp only [List.setIfInBounds_toArray, List.set_cons_zero, List.set_cons_succ]
    refine fun w' hS hV => ?_
    have e0 : x 0 = (.agg #[.int .i64 P, .slice A n c]) := hV 0 (by decide)
    have e1 : x 1 = (.agg #[.int .i64 P, .slice A n c]) := hV 1 (by decide)
    have e2 : x 2 = (.agg #[.int .i64 P, .slice A n c]) := hV 2 (by decide)
    have e3 : x 3 = (.slice X (pw n) cx) := hV 3 (by decide)
    obtain ⟨A4, c4, e4, h4⟩ := hV 4 (by decide)
    have e5 : x 5 = (.agg #[.int .i64 P, .slice A n c]) := hV 5 (by decide)
    have e6 : x 6 = (.slice Y (pw n) cy) := hV 6 (by decide)
    obtain ⟨A7, c7, e7, h7⟩ := hV 7 (by decide)
    obtain ⟨A8, c8, e8, h8⟩ := hV 8 (by decide)
    obtain ⟨A9, c9, e9, h9⟩ := hV 9 (by decide)
    obtain ⟨A10, c10, e10, h10⟩ := hV 10 (by decide)
    have e11 : x 11 = (.int .i64 0) := hV 11 (by decide)
    simp only [e0, e1, e2, e3, e4, e5, e6, e7, e8, e9, e10, e11]
    clear e0 e1 e2 e3 e4 e5 e6 e7 e8 e9 e10 e11
    refine wpAny_done (by kernel_rfl) ?_ _
    go_wp2
    go_ret2
    exact aRow3 HOK.out (h10.after hB2)
  · obtain ⟨r, hr⟩ : ∃ r, r = codeL P sq [xs, ys] := ⟨_, rfl⟩
    have HR := Lib.hid hr
    have HR0 := Lib.hid hr0
    have b0 : (r != 0) = true := code_ne (by rw [hr]; exact hr0)
    rw [← hr] at hreg
    clear hr hr0
    go_enter Tryz.func80, Tryz.ntmps80
    go_wp2_with fail
    refine hreg.mono ?_
    rintro e w2 ⟨rfl, hb2⟩
    have hB2 := hB1.trans (hb2.mono hB1.size)
    have k2 := k1.below hb2 k1.lt
    obtain ⟨q0, q1⟩ := k2.two
    clear k0 hB0 k1 hB1 hb2
    go_wp2
    go_ret2
    exact noRow3 (by rw [comR_bad HR0.out, HR.out]) hB2
set_option maxHeartbeats 3200000 in
set_option maxRecDepth 8000 in
theorem CommonBlade_any (P : Int) (A : Option Addr) (n c : Nat) (sq : List Int) (X : Option Addr) (m cx : Nat) (xs : List Int) (Y : Option Addr) (l cy : Nat) (ys : List Int) (w : World) (hn : n ≤ 1048576) (hm : m ≤ 1048576) (hl : l ≤ 1048576) (ha : Rd w A n (ints sq)) (hx : Rd w X m (ints xs)) (hcx : m ≤ cx) (hy : Rd w Y l (ints ys)) (hcy : l ≤ cy) :
    Calls Tryz.prog 79 #[.agg #[.int .i64 P, .slice A n c], .slice X m cx, .slice Y l cy] w fun e w' => ∃ (A' : Option Addr) (k c' : Nat), e = .returned (.tuple #[.slice A' k c', .int .i64 (comR P sq xs ys).2]) ∧ MkI w w' A' k c' (comR P sq xs ys).1 := by
  have hB0 : Below w.heap.size w (w.alloc (.cells #[.int .i64 P, .slice A n c] 26)) := (Below.refl _ _).alloc (Nat.le_refl _) _
  have k0 : Blk (w.alloc (.cells #[.int .i64 P, .slice A n c] 26)) w.heap.size 26 #[.int .i64 P, .slice A n c] := Blk.new _ _ _
  have hB1 : Below w.heap.size w ((w.alloc (.cells #[.int .i64 P, .slice A n c] 26)).alloc (.cells #[.slice X m cx, .slice Y l cy] 24)) := hB0.alloc (by simp) _
  have k1 : Blk ((w.alloc (.cells #[.int .i64 P, .slice A n c] 26)).alloc (.cells #[.slice X m cx, .slice Y l cy] 24)) w.heap.size 26 #[.int .i64 P, .slice A n c] := k0.alloc _
  have hreg := checkBlades_any P A (some ⟨w.heap.size + 1, 0, none⟩) n c 2 2 sq [xs, ys] ((w.alloc (.cells #[.int .i64 P, .slice A n c] 26)).alloc (.cells #[.slice X m cx, .slice Y l cy] 24)) hn (by omega) (ha.below hB1) (rdII_two (Blk.newAt3 (by simp)) (hx.below hB1) (hy.below hB1) hcx hcy) (all_two (by rw [hx.lenI]; exact hm) (by rw [hy.lenI]; exact hl))
  by_cases hr0 : codeL P sq [xs, ys] = 0
  · skip
    have hcM := (codeL_zero hr0).1
    rw [hr0] at hreg
    have HR0 := Lib.hid hr0
    clear hr0
    obtain ⟨HP, hp, hp2, hd1, hd2, hs0, hms⟩ := codeM_spec3 hcM
    have hsl := ha.lenI
    obtain ⟨hx1, hxs0⟩ := hms xs (by simp)
    have hmx : m = pw n := by rw [← hx.lenI, hx1, hsl]
    subst hmx
    obtain ⟨hy1, hys0⟩ := hms ys (by simp)
    have hly : l = pw n := by rw [← hy.lenI, hy1, hsl]
    subst hly
    have HYS := Lib.hid hys0
    clear hy1 hys0
    have HSL := Lib.hid hsl
    have HS0 := Lib.hid hs0
    have HXS := Lib.hid hxs0
    have hn6 : n ≤ 6 := by omega
    have hn0 : 0 < n := by omega
    clear hsl hms hx1 hs0 hxs0 hd1 hd2 hcM
    go_enter Tryz.func79, Tryz.ntmps79
    go_wp2_with fail
    refine hreg.mono ?_
    rintro e w2 ⟨rfl, hb2⟩
    have hB2 := hB1.trans (hb2.mono hB1.size)
    have k2 := k1.below hb2 k1.lt
    obtain ⟨q0, q1⟩ := k2.two
    clear k0 hB0 k1 hB1 hb2
    have HOK : Hid (comR P sq xs ys = (blaL P sq n (comL P n (subL P sq n xs) (subL P sq n ys)), 0)) := Lib.hid (by rw [comR_ok HR0.out, HSL.out])
    have hkl : w.heap.size < w2.heap.size := k2.lt
    have hls := subL_len HP sq n xs
    have hly := subL_len HP sq n ys
    have htx := subL_tab hp sq n xs
    have hty := subL_tab hp sq n ys
    have hkl1 := kernL_len HP (subL P sq n xs) n
    have hkl2 := kernL_len HP (subL P sq n ys) n
    have htk1 := kernL_tab hp (subL P sq n xs) n
    have htk2 := kernL_tab hp (subL P sq n ys) n
    have hcl := comL_len HP n (subL P sq n xs) (subL P sq n ys)
    have HLL := Lib.hid (And.intro hkl1 hkl2)
    go_wp2
    refine wp_obs 6 [[], [0], [], [2], [0, 1], [2, 3]] [VIs (.agg #[.int .i64 P, .slice A n c]), VIs (.int .i64 (P)), VIs (.agg #[.int .i64 P, .slice A n c]), VIs (.int .i64 (n)), VIs (.int .i64 (P)), VIs (.int .i64 (n))] (fun w' => Blk w' w.heap.size 26 #[.int .i64 P, .slice A n c] ∧ Below w2.heap.size w2 w') (by kernel_rfl) (by kernel_rfl) (fun _ _ h hb => ⟨h.1.below hb h.1.lt, h.2.trans (hb.mono h.2.size)⟩) (⟨k2.drew, (Below.refl _ _).drew⟩) (fun x => ?_)
    refine obs_step (Eq.trans (by simp only [List.getElem?_toArray, List.getElem?_cons_zero]; exact rfl) rfl) rfl (fun w' hS hV K hK => ?_) ?_
    · obtain ⟨q0, q1⟩ := hS.1.two
      go_simp
      exact hK.out _ _ _ rfl rfl rfl (Below.refl _ _)
    simp only [List.setIfInBounds_toArray, List.set_cons_zero, List.set_cons_succ]
    refine obs_step (Eq.trans (by simp only [List.getElem?_toArray, List.getElem?_cons_succ, List.getElem?_cons_zero]; exact rfl) rfl) rfl (fun w' hS hV K hK => ?_) ?_
    · have e0 : x 0 = (.agg #[.int .i64 P, .slice A n c]) := hV 0 (by decide)
      obtain ⟨q0, q1⟩ := hS.1.two
      go_simp
      refine (field_any _ _ _ _ _).mono ?_
      rintro e v1 ⟨rfl, hb⟩
      exact hK.out _ _ _ rfl rfl rfl hb
    simp only [List.setIfInBounds_toArray, List.set_cons_zero, List.set_cons_succ]
    refine obs_step (Eq.trans (by simp only [List.getElem?_toArray, List.getElem?_cons_succ, List.getElem?_cons_zero]; exact rfl) rfl) rfl (fun w' hS hV K hK => ?_) ?_
    · obtain ⟨q0, q1⟩ := hS.1.two
      go_simp
      exact hK.out _ _ _ rfl rfl rfl (Below.refl _ _)
    simp only [List.setIfInBounds_toArray, List.set_cons_zero, List.set_cons_succ]
    refine obs_step (Eq.trans (by simp only [List.getElem?_toArray, List.getElem?_cons_succ, List.getElem?_cons_zero]; exact rfl) rfl) rfl (fun w' hS hV K hK => ?_) ?_
    · have e2 : x 2 = (.agg #[.int .i64 P, .slice A n c]) := hV 2 (by decide)
      obtain ⟨q0, q1⟩ := hS.1.two
      go_simp
      refine (dim_any _ _ _ _ _).mono ?_
      rintro e v1 ⟨rfl, hb⟩
      exact hK.out _ _ _ rfl rfl rfl hb
    simp only [List.setIfInBounds_toArray, List.set_cons_zero, List.set_cons_succ]
    refine obs_step (Eq.trans (by simp only [List.getElem?_toArray, List.getElem?_cons_succ, List.getElem?_cons_zero]; exact rfl) rfl) rfl (fun w' hS hV K hK => ?_) ?_
    · have e0 : x 0 = (.agg #[.int .i64 P, .slice A n c]) := hV 0 (by decide)
      have e1 : x 1 = (.int .i64 (P)) := hV 1 (by decide)
      obtain ⟨q0, q1⟩ := hS.1.two
      go_simp
      exact hK.out _ _ _ rfl rfl rfl (Below.refl _ _)
    simp only [List.setIfInBounds_toArray, List.set_cons_zero, List.set_cons_succ]
    refine obs_step (Eq.trans (by simp only [List.getElem?_toArray, List.getElem?_cons_succ, List.getElem?_cons_zero]; exact rfl) rfl) rfl (fun w' hS hV K hK => ?_) ?_
    · have e2 : x 2 = (.agg #[.int .i64 P, .slice A n c]) := hV 2 (by decide)
      have e3 : x 3 = (.int .i64 (n)) := hV 3 (by decide)
      obtain ⟨q0, q1⟩ := hS.1.two
      go_simp
      exact hK.out _ _ _ rfl rfl rfl (Below.refl _ _)
    simp only [List.setIfInBounds_toArray, List.set_cons_zero, List.set_cons_succ]
    refine fun w' hS hV => ?_
    have e0 : x 0 = (.agg #[.int .i64 P, .slice A n c]) := hV 0 (by decide)
    have e1 : x 1 = (.int .i64 (P)) := hV 1 (by decide)
    have e2 : x 2 = (.agg #[.int .i64 P, .slice A n c]) := hV 2 (by decide)
    have e3 : x 3 = (.int .i64 (n)) := hV 3 (by decide)
    have e4 : x 4 = (.int .i64 (P)) := hV 4 (by decide)
    have e5 : x 5 = (.int .i64 (n)) := hV 5 (by decide)
    simp only [e0, e1, e2, e3, e4, e5]
    clear e0 e1 e2 e3 e4 e5
    refine wpAny_done (by kernel_rfl) ?_ _
    obtain ⟨w3, rfl⟩ : ∃ W, W = w' := ⟨_, rfl⟩
    have k3 := hS.1
    have hB3 := hB2.trans (hS.2.mono hB2.size)
    have hkl3 : w.heap.size < w3.heap.size := k3.lt
    have HSUB := Lib.hid fun (w' : World) (h : Below w3.heap.size w3 w') => subspace_any P A n c sq X cx xs w' HP hn6 hn0 ((ha.below hB3).below h) HS0.out ((hx.below hB3).below h) HXS.out
    have HSUY := Lib.hid fun (w' : World) (h : Below w3.heap.size w3 w') => subspace_any P A n c sq Y cy ys w' HP hn6 hn0 ((ha.below hB3).below h) HS0.out ((hy.below hB3).below h) HYS.out
    have HKEA := Lib.hid fun (w' : World) (B1 : Option Addr) (d1 : Nat) (_h : Below w3.heap.size w3 w') (h1 : RdII w' B1 (subL P sq n xs).length (subL P sq n xs)) => kernel_any P B1 _ d1 (subL P sq n xs) n w' HP (by omega) (by omega) h1 htx
    have HKEB := Lib.hid fun (w' : World) (B1 : Option Addr) (d1 : Nat) (_h : Below w3.heap.size w3 w') (h1 : RdII w' B1 (subL P sq n ys).length (subL P sq n ys)) => kernel_any P B1 _ d1 (subL P sq n ys) n w' HP (by omega) (by omega) h1 hty
    have HKEC : Hid (∀ (w4 w' : World) (B1 : Option Addr) (d1 : Nat) (_h : Below w4.heap.size w4 w') (_h1 : RdII w' B1 ((kernL P (subL P sq n xs) n).length + (kernL P (subL P sq n ys) n).length) (kernL P (subL P sq n xs) n ++ kernL P (subL P sq n ys) n)), Calls Tryz.prog 213 #[.int .i64 P, .slice B1 ((kernL P (subL P sq n xs) n).length + (kernL P (subL P sq n ys) n).length) d1, .int .i64 n] w' fun e w2 => ∃ A' c', e = .returned (.slice A' (comL P n (subL P sq n xs) (subL P sq n ys)).length c') ∧ MkII w' w2 A' (comL P n (subL P sq n xs) (subL P sq n ys)).length c' (comL P n (subL P sq n xs) (subL P sq n ys))) := Lib.hid fun w4 w' B1 d1 _ h1 => kernel_any P B1 _ d1 (kernL P (subL P sq n xs) n ++ kernL P (subL P sq n ys) n) n w' HP (by omega) (by omega) h1 (htk1.append htk2)
    have HBLA := Lib.hid fun (w' : World) (B : Option Addr) (d : Nat) (h : Below w3.heap.size w3 w') (hb : RdII w' B (comL P n (subL P sq n xs) (subL P sq n ys)).length (comL P n (subL P sq n xs) (subL P sq n ys))) => bladeOf_any P A n c sq B _ d _ w' HP hn6 hn0 (by omega) ((ha.below hB3).below h) HS0.out hb (comL_tab hp n _ _)
    obtain ⟨LJ, hLJ⟩ : ∃ R, R = blaL P sq n (comL P n (subL P sq n xs) (subL P sq n ys)) := ⟨_, rfl⟩
    rw [← hLJ] at HOK HBLA
    obtain ⟨LC, hLC⟩ : ∃ R, R = comL P n (subL P sq n xs) (subL P sq n ys) := ⟨_, rfl⟩
    rw [← hLC] at HBLA HKEC
    obtain ⟨KA, hKA⟩ : ∃ R, R = kernL P (subL P sq n xs) n := ⟨_, rfl⟩
    obtain ⟨KB, hKB⟩ : ∃ R, R = kernL P (subL P sq n ys) n := ⟨_, rfl⟩
    rw [← hKA] at HKEA
    rw [← hKB] at HKEB
    rw [← hKA, ← hKB] at HKEC HLL
    obtain ⟨LA, hLA⟩ : ∃ R, R = subL P sq n xs := ⟨_, rfl⟩
    obtain ⟨LB, hLB⟩ : ∃ R, R = subL P sq n ys := ⟨_, rfl⟩
    rw [← hLA] at HSUB HKEA
    rw [← hLB] at HSUY HKEB
    clear hLJ hLC hLA hLB hKA hKB htx hty hls hly hcl hkl hkl1 hkl2 htk1 htk2 hS k2 q0 q1
    go_wp2
    refine wp_obsD 14 w3.heap.size [[], [], [], [1, 2], [], [0, 1, 2, 3, 4], [], [], [], [0, 1, 2, 3, 4, 5, 7, 8], [], [0, 1, 2, 3, 4, 5, 6, 7, 8, 9, 10], [0, 1, 2, 3, 4, 5, 6, 7, 8, 9, 10, 11], [0, 1, 2, 3, 4, 5, 6, 7, 8, 9, 10, 11, 12]] [[], [], [], [], [], [], [], [], [], [], [], [], [3, 5, 9, 11], []] (fun x => [VIs (.int .i64 (P)), VIs (.agg #[.int .i64 P, .slice A n c]), VIs (.slice X (pw n) cx), VMat w3 LA.length LA, VIs (.int .i64 (n)), VMat w3 KA.length KA, VIs (.int .i64 (P)), VIs (.agg #[.int .i64 P, .slice A n c]), VIs (.slice Y (pw n) cy), VMat w3 LB.length LB, VIs (.int .i64 (n)), VTwo w3 KA.length KA KB.length KB (x 5), VMat w3 (KA.length + KB.length) (KA ++ KB), VMat w3 (KA.length + KB.length) (KA ++ KB)]) (fun w' => Blk w' w.heap.size 26 #[.int .i64 P, .slice A n c] ∧ Below w3.heap.size w3 w') (by kernel_rfl) (by kernel_rfl) (fun x x' j hx => by
        rcases j with _ | _ | _ | _ | _ | _ | _ | _ | _ | _ | _ | _ | _ | _ | j
        · rfl
        · rfl
        · rfl
        · rfl
        · rfl
        · rfl
        · rfl
        · rfl
        · rfl
        · rfl
        · rfl
        · rw [hx 5 (by decide)]
        · rfl
        · rfl
        · rfl)
      (weak_of [0, 1, 2, 4, 6, 7, 8, 10] (by decide) (fun k hk x => by
        simp only [List.mem_cons, List.not_mem_nil, or_false] at hk
        rcases hk with rfl | rfl | rfl | rfl | rfl | rfl | rfl | rfl <;> exact ⟨_, rfl⟩)) (fun j _ _ h hb => ⟨h.1.below (hb.mono (lim_ge h.2.size)) hkl3, h.2.trans (hb.mono (lim_ge h.2.size))⟩) (⟨k3.drew, (Below.refl _ _).drew⟩) (fun x => ?_)
    refine obs_stepD (Eq.trans (by simp only [List.getElem?_toArray, List.getElem?_cons_zero]; exact rfl) rfl) rfl (fun w' hS hV K hK => ?_) ?_
    · obtain ⟨q0, q1⟩ := hS.1.two
      go_simp
      exact hK.out _ _ _ rfl rfl rfl (Below.refl _ _)
    simp only [List.setIfInBounds_toArray, List.set_cons_zero, List.set_cons_succ]
    refine obs_stepD (Eq.trans (by simp only [List.getElem?_toArray, List.getElem?_cons_succ, List.getElem?_cons_zero]; exact rfl) rfl) rfl (fun w' hS hV K hK => ?_) ?_
    · obtain ⟨q0, q1⟩ := hS.1.two
      go_simp
      exact hK.out _ _ _ rfl rfl rfl (Below.refl _ _)
    simp only [List.setIfInBounds_toArray, List.set_cons_zero, List.set_cons_succ]
    refine obs_stepD (Eq.trans (by simp only [List.getElem?_toArray, List.getElem?_cons_succ, List.getElem?_cons_zero]; exact rfl) rfl) rfl (fun w' hS hV K hK => ?_) ?_
    · obtain ⟨q0, q1⟩ := hS.1.two
      go_simp
      exact hK.out _ _ _ rfl rfl rfl (Below.refl _ _)
    simp only [List.setIfInBounds_toArray, List.set_cons_zero, List.set_cons_succ]
    refine obs_stepD (Eq.trans (by simp only [List.getElem?_toArray, List.getElem?_cons_succ, List.getElem?_cons_zero]; exact rfl) rfl) rfl (fun w' hS hV K hK => ?_) ?_
    · have e1 : x 1 = (.agg #[.int .i64 P, .slice A n c]) := hV 1 (by decide)
      have e2 : x 2 = (.slice X (pw n) cx) := hV 2 (by decide)
      obtain ⟨q0, q1⟩ := hS.1.two
      go_simp
      refine (HSUB.out w' hS.2).mono ?_
      rintro e v1 ⟨A2, c2, rfl, hM⟩
      exact hK.out _ _ _ rfl rfl ⟨_, _, rfl, hM.after hS.2⟩ hM.b
    simp only [List.setIfInBounds_toArray, List.set_cons_zero, List.set_cons_succ]
    refine obs_stepD (Eq.trans (by simp only [List.getElem?_toArray, List.getElem?_cons_succ, List.getElem?_cons_zero]; exact rfl) rfl) rfl (fun w' hS hV K hK => ?_) ?_
    · obtain ⟨q0, q1⟩ := hS.1.two
      go_simp
      exact hK.out _ _ _ rfl rfl rfl (Below.refl _ _)
    simp only [List.setIfInBounds_toArray, List.set_cons_zero, List.set_cons_succ]
    refine obs_stepD (Eq.trans (by simp only [List.getElem?_toArray, List.getElem?_cons_succ, List.getElem?_cons_zero]; exact rfl) rfl) rfl (fun w' hS hV K hK => ?_) ?_
    · have e0 : x 0 = (.int .i64 (P)) := hV 0 (by decide)
      have e1 : x 1 = (.agg #[.int .i64 P, .slice A n c]) := hV 1 (by decide)
      have e2 : x 2 = (.slice X (pw n) cx) := hV 2 (by decide)
      obtain ⟨A3, c3, e3, h3⟩ := hV 3 (by decide)
      have e4 : x 4 = (.int .i64 (n)) := hV 4 (by decide)
      obtain ⟨q0, q1⟩ := hS.1.two
      go_simp
      refine (HKEA.out w' _ _ hS.2 h3.rd).mono ?_
      rintro e v1 ⟨A2, c2, rfl, hM⟩
      exact hK.out _ _ _ rfl rfl ⟨_, _, rfl, hM.after hS.2⟩ hM.b
    simp only [List.setIfInBounds_toArray, List.set_cons_zero, List.set_cons_succ]
    refine obs_stepD (Eq.trans (by simp only [List.getElem?_toArray, List.getElem?_cons_succ, List.getElem?_cons_zero]; exact rfl) rfl) rfl (fun w' hS hV K hK => ?_) ?_
    · obtain ⟨q0, q1⟩ := hS.1.two
      go_simp
      exact hK.out _ _ _ rfl rfl rfl (Below.refl _ _)
    simp only [List.setIfInBounds_toArray, List.set_cons_zero, List.set_cons_succ]
    refine obs_stepD (Eq.trans (by simp only [List.getElem?_toArray, List.getElem?_cons_succ, List.getElem?_cons_zero]; exact rfl) rfl) rfl (fun w' hS hV K hK => ?_) ?_
    · obtain ⟨q0, q1⟩ := hS.1.two
      go_simp
      exact hK.out _ _ _ rfl rfl rfl (Below.refl _ _)
    simp only [List.setIfInBounds_toArray, List.set_cons_zero, List.set_cons_succ]
    refine obs_stepD (Eq.trans (by simp only [List.getElem?_toArray, List.getElem?_cons_succ, List.getElem?_cons_zero]; exact rfl) rfl) rfl (fun w' hS hV K hK => ?_) ?_
    · obtain ⟨q0, q1⟩ := hS.1.two
      go_simp
      exact hK.out _ _ _ rfl rfl rfl (Below.refl _ _)
    simp only [List.setIfInBounds_toArray, List.set_cons_zero, List.set_cons_succ]
    refine obs_stepD (Eq.trans (by simp only [List.getElem?_toArray, List.getElem?_cons_succ, List.getElem?_cons_zero]; exact rfl) rfl) rfl (fun w' hS hV K hK => ?_) ?_
    · have e0 : x 0 = (.int .i64 (P)) := hV 0 (by decide)
      have e1 : x 1 = (.agg #[.int .i64 P, .slice A n c]) := hV 1 (by decide)
      have e2 : x 2 = (.slice X (pw n) cx) := hV 2 (by decide)
      obtain ⟨A3, c3, e3, h3⟩ := hV 3 (by decide)
      have e4 : x 4 = (.int .i64 (n)) := hV 4 (by decide)
      obtain ⟨A5, c5, e5, h5⟩ := hV 5 (by decide)
      have e7 : x 7 = (.agg #[.int .i64 P, .slice A n c]) := hV 7 (by decide)
      have e8 : x 8 = (.slice Y (pw n) cy) := hV 8 (by decide)
      obtain ⟨q0, q1⟩ := hS.1.two
      go_simp
      refine (HSUY.out w' hS.2).mono ?_
      rintro e v1 ⟨A2, c2, rfl, hM⟩
      exact hK.out _ _ _ rfl rfl ⟨_, _, rfl, hM.after hS.2⟩ hM.b
    simp only [List.setIfInBounds_toArray, List.set_cons_zero, List.set_cons_succ]
    refine obs_stepD (Eq.trans (by simp only [List.getElem?_toArray, List.getElem?_cons_succ, List.getElem?_cons_zero]; exact rfl) rfl) rfl (fun w' hS hV K hK => ?_) ?_
    · obtain ⟨q0, q1⟩ := hS.1.two
      go_simp
      exact hK.out _ _ _ rfl rfl rfl (Below.refl _ _)
    simp only [List.setIfInBounds_toArray, List.set_cons_zero, List.set_cons_succ]
    refine obs_stepD (Eq.trans (by simp only [List.getElem?_toArray, List.getElem?_cons_succ, List.getElem?_cons_zero]; exact rfl) rfl) rfl (fun w' hS hV K hK => ?_) ?_
    · have e0 : x 0 = (.int .i64 (P)) := hV 0 (by decide)
      have e1 : x 1 = (.agg #[.int .i64 P, .slice A n c]) := hV 1 (by decide)
      have e2 : x 2 = (.slice X (pw n) cx) := hV 2 (by decide)
      obtain ⟨A3, c3, e3, h3⟩ := hV 3 (by decide)
      have e4 : x 4 = (.int .i64 (n)) := hV 4 (by decide)
      obtain ⟨A5, c5, e5, h5⟩ := hV 5 (by decide)
      have e6 : x 6 = (.int .i64 (P)) := hV 6 (by decide)
      have e7 : x 7 = (.agg #[.int .i64 P, .slice A n c]) := hV 7 (by decide)
      have e8 : x 8 = (.slice Y (pw n) cy) := hV 8 (by decide)
      obtain ⟨A9, c9, e9, h9⟩ := hV 9 (by decide)
      have e10 : x 10 = (.int .i64 (n)) := hV 10 (by decide)
      obtain ⟨q0, q1⟩ := hS.1.two
      go_simp
      refine (HKEB.out w' _ _ hS.2 h9.rd).mono ?_
      rintro e v1 ⟨A2, c2, rfl, hM⟩
      exact hK.out _ _ _ rfl rfl ⟨_, _, _, _, e5, rfl, MkII2.of_first h5 hM⟩ hM.b
    simp only [List.setIfInBounds_toArray, List.set_cons_zero, List.set_cons_succ]
    refine obs_stepD (Eq.trans (by simp only [List.getElem?_toArray, List.getElem?_cons_succ, List.getElem?_cons_zero]; exact rfl) rfl) rfl (fun w' hS hV K hK => ?_) ?_
    · have e0 : x 0 = (.int .i64 (P)) := hV 0 (by decide)
      have e1 : x 1 = (.agg #[.int .i64 P, .slice A n c]) := hV 1 (by decide)
      have e2 : x 2 = (.slice X (pw n) cx) := hV 2 (by decide)
      obtain ⟨A3, c3, e3, h3⟩ := hV 3 (by decide)
      have e4 : x 4 = (.int .i64 (n)) := hV 4 (by decide)
      obtain ⟨A5, c5, e5, h5⟩ := hV 5 (by decide)
      have e6 : x 6 = (.int .i64 (P)) := hV 6 (by decide)
      have e7 : x 7 = (.agg #[.int .i64 P, .slice A n c]) := hV 7 (by decide)
      have e8 : x 8 = (.slice Y (pw n) cy) := hV 8 (by decide)
      obtain ⟨A9, c9, e9, h9⟩ := hV 9 (by decide)
      have e10 : x 10 = (.int .i64 (n)) := hV 10 (by decide)
      obtain ⟨A0, c0, B0, d0, eA, eB, hTW⟩ := hV 11 (by decide)
      obtain ⟨q0, q1⟩ := hS.1.two
      refine wp_appRows w3 w' _ _ rfl A0 KA.length c0 KA B0 KB.length d0 KB hTW (by have := HLL.out; omega) eA eB ?_
      intro A' c' w'' hM hgr
      exact hK.out _ _ _ rfl rfl ⟨_, _, rfl, hM⟩ (hTW.grown_below hgr (Below.refl _ _) (Nat.le_refl _))
    simp only [List.setIfInBounds_toArray, List.set_cons_zero, List.set_cons_succ]
    refine obs_stepD (Eq.trans (by simp only [List.getElem?_toArray, List.getElem?_cons_succ, List.getElem?_cons_zero]; exact rfl) rfl) rfl (fun w' hS hV K hK => ?_) ?_
    · have e0 : x 0 = (.int .i64 (P)) := hV 0 (by decide)
      have e1 : x 1 = (.agg #[.int .i64 P, .slice A n c]) := hV 1 (by decide)
      have e2 : x 2 = (.slice X (pw n) cx) := hV 2 (by decide)
      have e4 : x 4 = (.int .i64 (n)) := hV 4 (by decide)
      have e6 : x 6 = (.int .i64 (P)) := hV 6 (by decide)
      have e7 : x 7 = (.agg #[.int .i64 P, .slice A n c]) := hV 7 (by decide)
      have e8 : x 8 = (.slice Y (pw n) cy) := hV 8 (by decide)
      have e10 : x 10 = (.int .i64 (n)) := hV 10 (by decide)
      obtain ⟨A12, c12, e12, h12⟩ := hV 12 (by decide)
      obtain ⟨q0, q1⟩ := hS.1.two
      go_simp
      exact hK.out _ _ _ rfl rfl ⟨_, _, rfl, h12⟩ (Below.refl _ _)
    simp only [List.setIfInBounds_toArray, List.set_cons_zero, List.set_cons_succ]
    refine fun w' hS hV => ?_
    have e0 : x 0 = (.int .i64 (P)) := hV 0 (by decide)
    have e1 : x 1 = (.agg #[.int .i64 P, .slice A n c]) := hV 1 (by decide)
    have e2 : x 2 = (.slice X (pw n) cx) := hV 2 (by decide)
    have e4 : x 4 = (.int .i64 (n)) := hV 4 (by decide)
    have e6 : x 6 = (.int .i64 (P)) := hV 6 (by decide)
    have e7 : x 7 = (.agg #[.int .i64 P, .slice A n c]) := hV 7 (by decide)
    have e8 : x 8 = (.slice Y (pw n) cy) := hV 8 (by decide)
    have e10 : x 10 = (.int .i64 (n)) := hV 10 (by decide)
    obtain ⟨A12, c12, e12, h12⟩ := hV 12 (by decide)
    obtain ⟨A13, c13, e13, h13⟩ := hV 13 (by decide)
    simp only [e0, e1, e2, e4, e6, e7, e8, e10, e12, e13]
    clear e0 e1 e2 e4 e6 e7 e8 e10 e12 e13
    refine wpAny_done (by kernel_rfl) ?_ _
    obtain ⟨w4, rfl⟩ : ∃ W, W = w' := ⟨_, rfl⟩
    have k4 := hS.1
    have HB34 := Lib.hid hS.2
    have hM11 := h13
    obtain ⟨A11, hA11⟩ : ∃ a, a = A13 := ⟨_, rfl⟩
    obtain ⟨c11, hc11⟩ : ∃ a, a = c13 := ⟨_, rfl⟩
    rw [← hA11, ← hc11] at hM11 ⊢
    have hR11 := Lib.hid hM11.rd
    replace HKEC := Lib.hid (HKEC.out w4)
    clear hS k3 hA11 hc11 hM11 hkl3
    go_wp2
    refine wp_obs 8 [[], [], [], [], [1, 2, 3], [0, 1, 2, 3, 4], [0, 1, 2, 3, 4, 5], []] [VIs (.agg #[.int .i64 P, .slice A n c]), VIs (.int .i64 (P)), VIs (.slice A11 (KA.length + KB.length) c11), VIs (.int .i64 (n)), VMat w4 LC.length LC, VSl w4 (pw n) LJ, VSl w4 (pw n) LJ, VIs (.int .i64 0)] (fun w' => Blk w' w.heap.size 26 #[.int .i64 P, .slice A n c] ∧ Below w4.heap.size w4 w') (by kernel_rfl) (by kernel_rfl) (fun _ _ h hb => ⟨h.1.below hb h.1.lt, h.2.trans (hb.mono h.2.size)⟩) (⟨k4.drew, (Below.refl _ _).drew⟩) (fun x => ?_)
    refine obs_step (Eq.trans (by simp only [List.getElem?_toArray, List.getElem?_cons_zero]; exact rfl) rfl) rfl (fun w' hS hV K hK => ?_) ?_
    · obtain ⟨q0, q1⟩ := hS.1.two
      go_simp
      exact hK.out _ _ _ rfl rfl rfl (Below.refl _ _)
    simp only [List.setIfInBounds_toArray, List.set_cons_zero, List.set_cons_succ]
    refine obs_step (Eq.trans (by simp only [List.getElem?_toArray, List.getElem?_cons_succ, List.getElem?_cons_zero]; exact rfl) rfl) rfl (fun w' hS hV K hK => ?_) ?_
    · obtain ⟨q0, q1⟩ := hS.1.two
      go_simp
      exact hK.out _ _ _ rfl rfl rfl (Below.refl _ _)
    simp only [List.setIfInBounds_toArray, List.set_cons_zero, List.set_cons_succ]
    refine obs_step (Eq.trans (by simp only [List.getElem?_toArray, List.getElem?_cons_succ, List.getElem?_cons_zero]; exact rfl) rfl) rfl (fun w' hS hV K hK => ?_) ?_
    · obtain ⟨q0, q1⟩ := hS.1.two
      go_simp
      exact hK.out _ _ _ rfl rfl rfl (Below.refl _ _)
    simp only [List.setIfInBounds_toArray, List.set_cons_zero, List.set_cons_succ]
    refine obs_step (Eq.trans (by simp only [List.getElem?_toArray, List.getElem?_cons_succ, List.getElem?_cons_zero]; exact rfl) rfl) rfl (fun w' hS hV K hK => ?_) ?_
    · obtain ⟨q0, q1⟩ := hS.1.two
      go_simp
      exact hK.out _ _ _ rfl rfl rfl (Below.refl _ _)
    simp only [List.setIfInBounds_toArray, List.set_cons_zero, List.set_cons_succ]
    refine obs_step (Eq.trans (by simp only [List.getElem?_toArray, List.getElem?_cons_succ, List.getElem?_cons_zero]; exact rfl) rfl) rfl (fun w' hS hV K hK => ?_) ?_
    · have e1 : x 1 = (.int .i64 (P)) := hV 1 (by decide)
      have e2 : x 2 = (.slice A11 (KA.length + KB.length) c11) := hV 2 (by decide)
      have e3 : x 3 = (.int .i64 (n)) := hV 3 (by decide)
      obtain ⟨q0, q1⟩ := hS.1.two
      go_simp
      refine (HKEC.out w' _ _ hS.2 (hR11.out.below hS.2)).mono ?_
      rintro e v1 ⟨A2, c2, rfl, hM⟩
      exact hK.out _ _ _ rfl rfl ⟨_, _, rfl, hM.after hS.2⟩ hM.b
    simp only [List.setIfInBounds_toArray, List.set_cons_zero, List.set_cons_succ]
    refine obs_step (Eq.trans (by simp only [List.getElem?_toArray, List.getElem?_cons_succ, List.getElem?_cons_zero]; exact rfl) rfl) rfl (fun w' hS hV K hK => ?_) ?_
    · have e0 : x 0 = (.agg #[.int .i64 P, .slice A n c]) := hV 0 (by decide)
      have e1 : x 1 = (.int .i64 (P)) := hV 1 (by decide)
      have e2 : x 2 = (.slice A11 (KA.length + KB.length) c11) := hV 2 (by decide)
      have e3 : x 3 = (.int .i64 (n)) := hV 3 (by decide)
      obtain ⟨A4, c4, e4, h4⟩ := hV 4 (by decide)
      obtain ⟨q0, q1⟩ := hS.1.two
      go_simp
      refine (HBLA.out w' _ _ ((HB34.out.trans (hS.2.mono HB34.out.size))) h4.rd).mono ?_
      rintro e v1 ⟨A2, c2, rfl, hM⟩
      exact hK.out _ _ _ rfl rfl ⟨_, _, rfl, hM.after hS.2⟩ hM.b
    simp only [List.setIfInBounds_toArray, List.set_cons_zero, List.set_cons_succ]
    refine obs_step (Eq.trans (by simp only [List.getElem?_toArray, List.getElem?_cons_succ, List.getElem?_cons_zero]; exact rfl) rfl) rfl (fun w' hS hV K hK => ?_) ?_
    · have e0 : x 0 = (.agg #[.int .i64 P, .slice A n c]) := hV 0 (by decide)
      have e1 : x 1 = (.int .i64 (P)) := hV 1 (by decide)
      have e2 : x 2 = (.slice A11 (KA.length + KB.length) c11) := hV 2 (by decide)
      have e3 : x 3 = (.int .i64 (n)) := hV 3 (by decide)
      obtain ⟨A4, c4, e4, h4⟩ := hV 4 (by decide)
      obtain ⟨A5, c5, e5, h5⟩ := hV 5 (by decide)
      obtain ⟨q0, q1⟩ := hS.1.two
      go_simp
      exact hK.out _ _ _ rfl rfl ⟨_, _, rfl, h5⟩ (Below.refl _ _)
    simp only [List.setIfInBounds_toArray, List.set_cons_zero, List.set_cons_succ]
    refine obs_step (Eq.trans (by simp only [List.getElem?_toArray, List.getElem?_cons_succ, List.getElem?_cons_zero]; exact rfl) rfl) rfl (fun w' hS hV K hK => ?_) ?_
    · obtain ⟨q0, q1⟩ := hS.1.two
      go_simp
      exact hK.out _ _ _ rfl rfl rfl (Below.refl _ _)
    simp only [List.setIfInBounds_toArray, List.set_cons_zero, List.set_cons_succ]
    refine fun w' hS hV => ?_
    have e0 : x 0 = (.agg #[.int .i64 P, .slice A n c]) := hV 0 (by decide)
    have e1 : x 1 = (.int .i64 (P)) := hV 1 (by decide)
    have e2 : x 2 = (.slice A11 (KA.length + KB.length) c11) := hV 2 (by decide)
    have e3 : x 3 = (.int .i64 (n)) := hV 3 (by decide)
    obtain ⟨A4, c4, e4, h4⟩ := hV 4 (by decide)
    obtain ⟨A5, c5, e5, h5⟩ := hV 5 (by decide)
    obtain ⟨A6, c6, e6, h6⟩ := hV 6 (by decide)
    have e7 : x 7 = (.int .i64 0) := hV 7 (by decide)
    simp only [e0, e1, e2, e3, e4, e5, e6, e7]
    clear e0 e1 e2 e3 e4 e5 e6 e7
    refine wpAny_done (by kernel_rfl) ?_ _
    go_wp2
    go_ret2
    exact aRow3 HOK.out (h6.after (hB3.trans (HB34.out.mono hB3.size)))
  · obtain ⟨r, hr⟩ : ∃ r, r = codeL P sq [xs, ys] := ⟨_, rfl⟩
    have HR := Lib.hid hr
    have HR0 := Lib.hid hr0
    have b0 : (r != 0) = true := code_ne (by rw [hr]; exact hr0)
    rw [← hr] at hreg
    clear hr hr0
    go_enter Tryz.func79, Tryz.ntmps79
    go_wp2_with fail
    refine hreg.mono ?_
    rintro e w2 ⟨rfl, hb2⟩
    have hB2 := hB1.trans (hb2.mono hB1.size)
    have k2 := k1.below hb2 k1.lt
    obtain ⟨q0, q1⟩ := k2.two
    clear k0 hB0 k1 hB1 hb2
    go_wp2
    go_ret2
    exact noRow3 (by rw [comR_bad HR0.out, HR.out]) hB2
end Go.Proofs.YtggigolkncckoaaGreat
namespace Go.Proofs.YtggigolkncckoaaGreat
open Go.RowKit
/-- The reduced basis of the vectors that are orthogonal to those of a list. -/
def orthL (P : Int) (sq : List Int) (n : Nat) (L : List (List Int)) : List (List Int) := kernL P (L.map (weiL P sq)) n
theorem weis_tab {P : Int} (hp : 0 < P) (sq : List Int) {n : Nat} {L : List (List Int)} (hL : Tab P n L) : Tab P n (L.map (weiL P sq)) := fun x hx => by
  obtain ⟨v, hv, rfl⟩ := List.mem_map.1 hx
  exact ⟨by rw [weiL_len, (hL v hv).1], weiL_nums hp sq v⟩
theorem orthL_tab {P : Int} (hp : 2 ≤ P) (sq : List Int) (n : Nat) (L : List (List Int)) : Tab P n (orthL P sq n L) := kernL_tab hp _ _
theorem orthL_len {P : Int} (HP : isP P = true) (sq : List Int) (n : Nat) (L : List (List Int)) : (orthL P sq n L).length ≤ n := kernL_len HP _ _
set_option maxHeartbeats 3200000 in
set_option maxRecDepth 8000 in
theorem orthogonal_any (P : Int) (A : Option Addr) (n c : Nat) (sq : List Int) (B : Option Addr) (m d : Nat) (L : List (List Int)) (w : World) (HP : isP P = true) (hn : n ≤ 6) (h0 : 0 < n) (hm : m ≤ 65536) (ha : Rd w A n (ints sq)) (hs : NumsL P sq) (hb : RdII w B m L) (hL : Tab P n L) :
    Calls Tryz.prog 236 #[.agg #[.int .i64 P, .slice A n c], .slice B m d] w fun e w' => ∃ A' c', e = .returned (.slice A' (orthL P sq n L).length c') ∧ MkII w w' A' (orthL P sq n L).length c' (orthL P sq n L) := by
  obtain ⟨hp3, hp2⟩ := isP_ge HP
  have hp : 2 ≤ P := by omega
  have HML := Lib.hid hb.len
  have HTL := Lib.hid hL
  have HPP := Lib.hid HP
  have HSQ := Lib.hid hs
  have hB0 : Below w.heap.size w (w.alloc (.cells #[.int .i64 P, .slice A n c] 26)) := (Below.refl _ _).alloc (Nat.le_refl _) _
  have k0 : Blk (w.alloc (.cells #[.int .i64 P, .slice A n c] 26)) w.heap.size 26 #[.int .i64 P, .slice A n c] := Blk.new _ _ _
  have hB1 := hB0.alloc (by simp) (.cells #[] 24)
  have k1 := k0.alloc (.cells #[] 24)
  have hM1 : MkII w ((w.alloc (.cells #[.int .i64 P, .slice A n c] 26)).alloc (.cells #[] 24)) (some ⟨w.heap.size + 1, 0, none⟩) 0 0 [] := by
    have := MkII.empty hB0
    simpa using this
  clear k0 hB0 hL hs HP hB1
  go_enter Tryz.func236, Tryz.ntmps236
  go_wp2
  go_loopw [5, 7, 11] (fun out _ i wr => ∃ (k : Nat) (A' : Option Addr) (c' : Nat), k ≤ m ∧ i = .int .i64 k ∧ out = .slice A' k c' ∧ MkII w wr A' k c' ((L.map (weiL P sq)).take k) ∧ Blk wr w.heap.size 26 #[.int .i64 P, .slice A n c]) (fun _ _ i _ => m - (intOf i).toNat)
  case atStart => exact ⟨0, _, _, by omega, rfl, rfl, by simpa using hM1, k1⟩
  case round =>
    obtain ⟨k, A', c', hk, rfl, rfl, hM, k2⟩ := hrel
    clear hM1 k1
    obtain ⟨q0, q1⟩ := k2.two
    by_cases hlt : k < m
    · obtain ⟨g, o, rfl, hxk, A1, c1, hcx, hr1, hcc⟩ := (hb.below hM.b).at_ hlt
      have hr := HTL.out L[k] (List.getElem_mem hxk)
      rw [hr.1] at hcx hr1
      have hcall := weighted_any P A n c sq A1 c1 L[k] wr hp hp2 hn (ha.below hM.b) HSQ.out hr1 hr.2
      have HV : Hid ((L.map (weiL P sq)).take (k + 1) = (L.map (weiL P sq)).take k ++ [weiL P sq L[k]]) := Lib.hid (by rw [List.take_succ_eq_append_getElem (by rw [List.length_map]; exact hxk), List.getElem_map])
      have HM := Lib.hid hM
      obtain ⟨u, hu⟩ : ∃ u, u = weiL P sq L[k] := ⟨_, rfl⟩
      rw [← hu] at hcall HV
      clear hM hr1 hcc hr hu hxk
      go_wp2_with fail
      refine hcall.mono ?_
      rintro e w5 ⟨A5, c5, rfl, hM5⟩
      have k3 := k2.below hM5.b k2.lt
      clear hcall q0 q1 k2
      go_wp2_with (at_builtin; refine wpList_appRowG w wr _ rfl _ _ rfl A' k c' _ A5 n c5 _ HM.out hM5 (by omega) rfl ?_ ?_; (go_simp); intro A6 c6 w6 hM6 hgr _)
      have k4 := k3.grown hgr ((HM.out.below hM5.b).ne_blk k3 (by decide))
      clear k3 hgr
      go_roundw
      case rel => exact ⟨k + 1, A6, c6, by omega, by go_num, rfl, by rw [HV.out]; exact hM6, k4⟩
      case measure => simp [intOf]; omega
    · obtain rfl : k = m := by omega
      rw [List.take_of_length_le (by rw [List.length_map, HML.out]; exact Nat.le_refl _)] at hM
      obtain ⟨w3, hw3⟩ : ∃ W, W = wr := ⟨_, rfl⟩
      subst hw3
      have k3 := k2
      have HKER : Hid (∀ w', Below w3.heap.size w3 w' → Calls Tryz.prog 213 #[.int .i64 P, .slice A' k c', .int .i64 n] w' fun e w'' => ∃ A2 c2, e = .returned (.slice A2 (orthL P sq n L).length c2) ∧ MkII w' w'' A2 (orthL P sq n L).length c2 (orthL P sq n L)) := Lib.hid fun w' h => kernel_any P A' k c' (L.map (weiL P sq)) n w' HPP.out hm (by omega) (hM.rd.below h) (weis_tab (by omega) sq HTL.out)
      have HMB := Lib.hid hM.b
      clear hM k2
      go_wp2
      refine wp_obs 7 [[], [0], [], [], [3], [0, 1, 2, 3, 4], [0, 1, 2, 3, 4, 5]] [VIs (.agg #[.int .i64 P, .slice A n c]), VIs (.int .i64 (P)), VIs (.slice A' k c'), VIs (.agg #[.int .i64 P, .slice A n c]), VIs (.int .i64 (n)), VMat w3 (orthL P sq n L).length (orthL P sq n L), VMat w3 (orthL P sq n L).length (orthL P sq n L)] (fun w' => Blk w' w.heap.size 26 #[.int .i64 P, .slice A n c] ∧ Below w3.heap.size w3 w') (by kernel_rfl) (by kernel_rfl) (fun _ _ h hb => ⟨h.1.below hb h.1.lt, h.2.trans (hb.mono h.2.size)⟩) (⟨k3.drew, (Below.refl _ _).drew⟩) (fun x => ?_)
      refine obs_step (Eq.trans (by simp only [List.getElem?_toArray, List.getElem?_cons_zero]; exact rfl) rfl) rfl (fun w' hS hV K hK => ?_) ?_
      · obtain ⟨q0, q1⟩ := hS.1.two
        go_simp
        exact hK.out _ _ _ rfl rfl rfl (Below.refl _ _)
      simp only [List.setIfInBounds_toArray, List.set_cons_zero, List.set_cons_succ]
      refine obs_step (Eq.trans (by simp only [List.getElem?_toArray, List.getElem?_cons_succ, List.getElem?_cons_zero]; exact rfl) rfl) rfl (fun w' hS hV K hK => ?_) ?_
      · have e0 : x 0 = (.agg #[.int .i64 P, .slice A n c]) := hV 0 (by decide)
        obtain ⟨q0, q1⟩ := hS.1.two
        go_simp
        refine (field_any _ _ _ _ _).mono ?_
        rintro e v1 ⟨rfl, hb⟩
        exact hK.out _ _ _ rfl rfl rfl hb
      simp only [List.setIfInBounds_toArray, List.set_cons_zero, List.set_cons_succ]
      refine obs_step (Eq.trans (by simp only [List.getElem?_toArray, List.getElem?_cons_succ, List.getElem?_cons_zero]; exact rfl) rfl) rfl (fun w' hS hV K hK => ?_) ?_
      · obtain ⟨q0, q1⟩ := hS.1.two
        go_simp
        exact hK.out _ _ _ rfl rfl rfl (Below.refl _ _)
      simp only [List.setIfInBounds_toArray, List.set_cons_zero, List.set_cons_succ]
      refine obs_step (Eq.trans (by simp only [List.getElem?_toArray, List.getElem?_cons_succ, List.getElem?_cons_zero]; exact rfl) rfl) rfl (fun w' hS hV K hK => ?_) ?_
      · obtain ⟨q0, q1⟩ := hS.1.two
        go_simp
        exact hK.out _ _ _ rfl rfl rfl (Below.refl _ _)
      simp only [List.setIfInBounds_toArray, List.set_cons_zero, List.set_cons_succ]
      refine obs_step (Eq.trans (by simp only [List.getElem?_toArray, List.getElem?_cons_succ, List.getElem?_cons_zero]; exact rfl) rfl) rfl (fun w' hS hV K hK => ?_) ?_
      · have e3 : x 3 = (.agg #[.int .i64 P, .slice A n c]) := hV 3 (by decide)
        obtain ⟨q0, q1⟩ := hS.1.two
        go_simp
        refine (dim_any _ _ _ _ _).mono ?_
        rintro e v1 ⟨rfl, hb⟩
        exact hK.out _ _ _ rfl rfl rfl hb
      simp only [List.setIfInBounds_toArray, List.set_cons_zero, List.set_cons_succ]
      refine obs_step (Eq.trans (by simp only [List.getElem?_toArray, List.getElem?_cons_succ, List.getElem?_cons_zero]; exact rfl) rfl) rfl (fun w' hS hV K hK => ?_) ?_
      · have e0 : x 0 = (.agg #[.int .i64 P, .slice A n c]) := hV 0 (by decide)
        have e1 : x 1 = (.int .i64 (P)) := hV 1 (by decide)
        have e2 : x 2 = (.slice A' k c') := hV 2 (by decide)
        have e3 : x 3 = (.agg #[.int .i64 P, .slice A n c]) := hV 3 (by decide)
        have e4 : x 4 = (.int .i64 (n)) := hV 4 (by decide)
        obtain ⟨q0, q1⟩ := hS.1.two
        go_simp
        refine (HKER.out _ hS.2).mono ?_
        rintro e v1 ⟨A2, c2, rfl, hM⟩
        exact hK.out _ _ _ rfl rfl ⟨_, _, rfl, hM.after hS.2⟩ hM.b
      simp only [List.setIfInBounds_toArray, List.set_cons_zero, List.set_cons_succ]
      refine obs_step (Eq.trans (by simp only [List.getElem?_toArray, List.getElem?_cons_succ, List.getElem?_cons_zero]; exact rfl) rfl) rfl (fun w' hS hV K hK => ?_) ?_
      · have e0 : x 0 = (.agg #[.int .i64 P, .slice A n c]) := hV 0 (by decide)
        have e1 : x 1 = (.int .i64 (P)) := hV 1 (by decide)
        have e2 : x 2 = (.slice A' k c') := hV 2 (by decide)
        have e3 : x 3 = (.agg #[.int .i64 P, .slice A n c]) := hV 3 (by decide)
        have e4 : x 4 = (.int .i64 (n)) := hV 4 (by decide)
        obtain ⟨A5, c5, e5, h5⟩ := hV 5 (by decide)
        obtain ⟨q0, q1⟩ := hS.1.two
        go_simp
        exact hK.out _ _ _ rfl rfl ⟨_, _, rfl, h5⟩ (Below.refl _ _)
      simp only [List.setIfInBounds_toArray, List.set_cons_zero, List.set_cons_succ]
      refine fun w' hS hV => ?_
      have e0 : x 0 = (.agg #[.int .i64 P, .slice A n c]) := hV 0 (by decide)
      have e1 : x 1 = (.int .i64 (P)) := hV 1 (by decide)
      have e2 : x 2 = (.slice A' k c') := hV 2 (by decide)
      have e3 : x 3 = (.agg #[.int .i64 P, .slice A n c]) := hV 3 (by decide)
      have e4 : x 4 = (.int .i64 (n)) := hV 4 (by decide)
      obtain ⟨A5, c5, e5, h5⟩ := hV 5 (by decide)
      obtain ⟨A6, c6, e6, h6⟩ := hV 6 (by decide)
      simp only [e0, e1, e2, e3, e4, e5, e6]
      clear e0 e1 e2 e3 e4 e5 e6
      refine wpAny_done (by kernel_rfl) ?_ _
      go_wp2
      go_ret
      exact ⟨_, _, rfl, h6.after HMB.out⟩
/-- OrthogonalBlade. -/
def orbR (P : Int) (sq : List Int) (xs : List Int) : List Int × Int := if codeL P sq [xs] = 0 then (blaL P sq sq.length (orthL P sq sq.length (subL P sq sq.length xs)), 0) else ([], codeL P sq [xs])
theorem orbR_ok {P : Int} {sq xs : List Int} (h : codeL P sq [xs] = 0) : orbR P sq xs = (blaL P sq sq.length (orthL P sq sq.length (subL P sq sq.length xs)), 0) := by unfold orbR; rw [if_pos h]
theorem orbR_bad {P : Int} {sq xs : List Int} (h : ¬ codeL P sq [xs] = 0) : orbR P sq xs = ([], codeL P sq [xs]) := by unfold orbR; rw [if_neg h]
set_option maxHeartbeats 3200000 in
set_option maxRecDepth 8000 in
theorem OrthogonalBlade_any (P : Int) (A : Option Addr) (n c : Nat) (sq : List Int) (X : Option Addr) (m cx : Nat) (xs : List Int) (w : World) (hn : n ≤ 1048576) (hm : m ≤ 1048576) (ha : Rd w A n (ints sq)) (hx : Rd w X m (ints xs)) (hcx : m ≤ cx) :
    Calls Tryz.prog 83 #[.agg #[.int .i64 P, .slice A n c], .slice X m cx] w fun e w' => ∃ (A' : Option Addr) (k c' : Nat), e = .returned (.tuple #[.slice A' k c', .int .i64 (orbR P sq xs).2]) ∧ MkI w w' A' k c' (orbR P sq xs).1 := by
  have hB0 : Below w.heap.size w (w.alloc (.cells #[.int .i64 P, .slice A n c] 26)) := (Below.refl _ _).alloc (Nat.le_refl _) _
  have k0 : Blk (w.alloc (.cells #[.int .i64 P, .slice A n c] 26)) w.heap.size 26 #[.int .i64 P, .slice A n c] := Blk.new _ _ _
  have hB1 : Below w.heap.size w ((w.alloc (.cells #[.int .i64 P, .slice A n c] 26)).alloc (.cells #[.slice X m cx] 24)) := hB0.alloc (by simp) _
  have k1 : Blk ((w.alloc (.cells #[.int .i64 P, .slice A n c] 26)).alloc (.cells #[.slice X m cx] 24)) w.heap.size 26 #[.int .i64 P, .slice A n c] := k0.alloc _
  have hreg := checkBlades_any P A (some ⟨w.heap.size + 1, 0, none⟩) n c 1 1 sq [xs] ((w.alloc (.cells #[.int .i64 P, .slice A n c] 26)).alloc (.cells #[.slice X m cx] 24)) hn (by omega) (ha.below hB1) (rdII_one' (Blk.newAt3 (by simp)) (hx.below hB1) hcx) (all_one (by rw [hx.lenI]; exact hm))
  by_cases hr0 : codeL P sq [xs] = 0
  · skip
    have hcM := (codeL_zero hr0).1
    rw [hr0] at hreg
    have HR0 := Lib.hid hr0
    clear hr0
    obtain ⟨HP, hp, hp2, hd1, hd2, hs0, hms⟩ := codeM_spec3 hcM
    have hsl := ha.lenI
    obtain ⟨hx1, hxs0⟩ := hms xs (by simp)
    have hmx : m = pw n := by rw [← hx.lenI, hx1, hsl]
    subst hmx
    have HSL := Lib.hid hsl
    have HS0 := Lib.hid hs0
    have HXS := Lib.hid hxs0
    have hn6 : n ≤ 6 := by omega
    have hn0 : 0 < n := by omega
    clear hsl hms hx1 hs0 hxs0 hd1 hd2 hcM
    go_enter Tryz.func83, Tryz.ntmps83
    go_wp2_with fail
    refine hreg.mono ?_
    rintro e w2 ⟨rfl, hb2⟩
    have hB2 := hB1.trans (hb2.mono hB1.size)
    have k2 := k1.below hb2 k1.lt
    obtain ⟨q0, q1⟩ := k2.two
    clear k0 hB0 k1 hB1 hb2
    have HOK : Hid (orbR P sq xs = (blaL P sq n (orthL P sq n (subL P sq n xs)), 0)) := Lib.hid (by rw [orbR_ok HR0.out, HSL.out])
    have hls := subL_len HP sq n xs
    have hlo := orthL_len HP sq n (subL P sq n xs)
    have HSUB := Lib.hid fun (w' : World) (h : Below w2.heap.size w2 w') => subspace_any P A n c sq X cx xs w' HP hn6 hn0 ((ha.below hB2).below h) HS0.out ((hx.below hB2).below h) HXS.out
    have HORT := Lib.hid fun (w' : World) (B : Option Addr) (d : Nat) (h : Below w2.heap.size w2 w') (hb : RdII w' B (subL P sq n xs).length (subL P sq n xs)) => orthogonal_any P A n c sq B _ d _ w' HP hn6 hn0 (by omega) ((ha.below hB2).below h) HS0.out hb (subL_tab hp sq n xs)
    have HBLA := Lib.hid fun (w' : World) (B : Option Addr) (d : Nat) (h : Below w2.heap.size w2 w') (hb : RdII w' B (orthL P sq n (subL P sq n xs)).length (orthL P sq n (subL P sq n xs))) => bladeOf_any P A n c sq B _ d _ w' HP hn6 hn0 (by omega) ((ha.below hB2).below h) HS0.out hb (orthL_tab hp sq n _)
    clear hls hlo
    obtain ⟨LB, hLB⟩ : ∃ R, R = blaL P sq n (orthL P sq n (subL P sq n xs)) := ⟨_, rfl⟩
    rw [← hLB] at HOK HBLA
    obtain ⟨LO, hLO⟩ : ∃ R, R = orthL P sq n (subL P sq n xs) := ⟨_, rfl⟩
    rw [← hLO] at HBLA HORT
    obtain ⟨LS, hLS⟩ : ∃ R, R = subL P sq n xs := ⟨_, rfl⟩
    rw [← hLS] at HORT HSUB
    clear hLB hLO hLS
    go_wp2
    refine wp_obs 9 [[], [], [], [], [2, 3], [1, 2, 3, 4], [0, 1, 2, 3, 4, 5], [0, 1, 2, 3, 4, 5, 6], []] [VIs (.agg #[.int .i64 P, .slice A n c]), VIs (.agg #[.int .i64 P, .slice A n c]), VIs (.agg #[.int .i64 P, .slice A n c]), VIs (.slice X (pw n) cx), VMat w2 LS.length LS, VMat w2 LO.length LO, VSl w2 (pw n) LB, VSl w2 (pw n) LB, VIs (.int .i64 0)] (fun w' => Blk w' w.heap.size 26 #[.int .i64 P, .slice A n c] ∧ Below w2.heap.size w2 w') (by kernel_rfl) (by kernel_rfl) (fun _ _ h hb => ⟨h.1.below hb h.1.lt, h.2.trans (hb.mono h.2.size)⟩) (⟨k2.drew, (Below.refl _ _).drew⟩) (fun x => ?_)
    refine obs_step (Eq.trans (by simp only [List.getElem?_toArray, List.getElem?_cons_zero]; exact rfl) rfl) rfl (fun w' hS hV K hK => ?_) ?_
    · obtain ⟨q0, q1⟩ := hS.1.two
      go_simp
      exact hK.out _ _ _ rfl rfl rfl (Below.refl _ _)
    simp only [List.setIfInBounds_toArray, List.set_cons_zero, List.set_cons_succ]
    refine obs_step (Eq.trans (by simp only [List.getElem?_toArray, List.getElem?_cons_succ, List.getElem?_cons_zero]; exact rfl) rfl) rfl (fun w' hS hV K hK => ?_) ?_
    · obtain ⟨q0, q1⟩ := hS.1.two
      go_simp
      exact hK.out _ _ _ rfl rfl rfl (Below.refl _ _)
    simp only [List.setIfInBounds_toArray, List.set_cons_zero, List.set_cons_succ]
    refine obs_step (Eq.trans (by simp only [List.getElem?_toArray, List.getElem?_cons_succ, List.getElem?_cons_zero]; exact rfl) rfl) rfl (fun w' hS hV K hK => ?_) ?_
    · obtain ⟨q0, q1⟩ := hS.1.two
      go_simp
      exact hK.out _ _ _ rfl rfl rfl (Below.refl _ _)
    simp only [List.setIfInBounds_toArray, List.set_cons_zero, List.set_cons_succ]
    refine obs_step (Eq.trans (by simp only [List.getElem?_toArray, List.getElem?_cons_succ, List.getElem?_cons_zero]; exact rfl) rfl) rfl (fun w' hS hV K hK => ?_) ?_
    · obtain ⟨q0, q1⟩ := hS.1.two
      go_simp
      exact hK.out _ _ _ rfl rfl rfl (Below.refl _ _)
    simp only [List.setIfInBounds_toArray, List.set_cons_zero, List.set_cons_succ]
    refine obs_step (Eq.trans (by simp only [List.getElem?_toArray, List.getElem?_cons_succ, List.getElem?_cons_zero]; exact rfl) rfl) rfl (fun w' hS hV K hK => ?_) ?_
    · have e2 : x 2 = (.agg #[.int .i64 P, .slice A n c]) := hV 2 (by decide)
      have e3 : x 3 = (.slice X (pw n) cx) := hV 3 (by decide)
      obtain ⟨q0, q1⟩ := hS.1.two
      go_simp
      refine (HSUB.out _ hS.2).mono ?_
      rintro e v1 ⟨A2, c2, rfl, hM⟩
      exact hK.out _ _ _ rfl rfl ⟨_, _, rfl, hM.after hS.2⟩ hM.b
    simp only [List.setIfInBounds_toArray, List.set_cons_zero, List.set_cons_succ]
    refine obs_step (Eq.trans (by simp only [List.getElem?_toArray, List.getElem?_cons_succ, List.getElem?_cons_zero]; exact rfl) rfl) rfl (fun w' hS hV K hK => ?_) ?_
    · have e1 : x 1 = (.agg #[.int .i64 P, .slice A n c]) := hV 1 (by decide)
      have e2 : x 2 = (.agg #[.int .i64 P, .slice A n c]) := hV 2 (by decide)
      have e3 : x 3 = (.slice X (pw n) cx) := hV 3 (by decide)
      obtain ⟨A4, c4, e4, h4⟩ := hV 4 (by decide)
      obtain ⟨q0, q1⟩ := hS.1.two
      go_simp
      refine (HORT.out _ _ _ hS.2 h4.rd).mono ?_
      rintro e v1 ⟨A2, c2, rfl, hM⟩
      exact hK.out _ _ _ rfl rfl ⟨_, _, rfl, hM.after hS.2⟩ hM.b
    simp only [List.setIfInBounds_toArray, List.set_cons_zero, List.set_cons_succ]
    refine obs_step (Eq.trans (by simp only [List.getElem?_toArray, List.getElem?_cons_succ, List.getElem?_cons_zero]; exact rfl) rfl) rfl (fun w' hS hV K hK => ?_) ?_
    · have e0 : x 0 = (.agg #[.int .i64 P, .slice A n c]) := hV 0 (by decide)
      have e1 : x 1 = (.agg #[.int .i64 P, .slice A n c]) := hV 1 (by decide)
      have e2 : x 2 = (.agg #[.int .i64 P, .slice A n c]) := hV 2 (by decide)
      have e3 : x 3 = (.slice X (pw n) cx) := hV 3 (by decide)
      obtain ⟨A4, c4, e4, h4⟩ := hV 4 (by decide)
      obtain ⟨A5, c5, e5, h5⟩ := hV 5 (by decide)
      obtain ⟨q0, q1⟩ := hS.1.two
      go_simp
      refine (HBLA.out _ _ _ hS.2 h5.rd).mono ?_
      rintro e v1 ⟨A2, c2, rfl, hM⟩
      exact hK.out _ _ _ rfl rfl ⟨_, _, rfl, hM.after hS.2⟩ hM.b
    simp only [List.setIfInBounds_toArray, List.set_cons_zero, List.set_cons_succ]
    refine obs_step (Eq.trans (by simp only [List.getElem?_toArray, List.getElem?_cons_succ, List.getElem?_cons_zero]; exact rfl) rfl) rfl (fun w' hS hV K hK => ?_) ?_
    · have e0 : x 0 = (.agg #[.int .i64 P, .slice A n c]) := hV 0 (by decide)
      have e1 : x 1 = (.agg #[.int .i64 P, .slice A n c]) := hV 1 (by decide)
      have e2 : x 2 = (.agg #[.int .i64 P, .slice A n c]) := hV 2 (by decide)
      have e3 : x 3 = (.slice X (pw n) cx) := hV 3 (by decide)
      obtain ⟨A4, c4, e4, h4⟩ := hV 4 (by decide)
      obtain ⟨A5, c5, e5, h5⟩ := hV 5 (by decide)
      obtain ⟨A6, c6, e6, h6⟩ := hV 6 (by decide)
      obtain ⟨q0, q1⟩ := hS.1.two
      go_simp
      exact hK.out _ _ _ rfl rfl ⟨_, _, rfl, h6⟩ (Below.refl _ _)
    simp only [List.setIfInBounds_toArray, List.set_cons_zero, List.set_cons_succ]
    refine obs_step (Eq.trans (by simp only [List.getElem?_toArray, List.getElem?_cons_succ, List.getElem?_cons_zero]; exact rfl) rfl) rfl (fun w' hS hV K hK => ?_) ?_
    · obtain ⟨q0, q1⟩ := hS.1.two
      go_simp
      exact hK.out _ _ _ rfl rfl rfl (Below.refl _ _)
    simp only [List.setIfInBounds_toArray, List.set_cons_zero, List.set_cons_succ]
    refine fun w' hS hV => ?_
    have e0 : x 0 = (.agg #[.int .i64 P, .slice A n c]) := hV 0 (by decide)
    have e1 : x 1 = (.agg #[.int .i64 P, .slice A n c]) := hV 1 (by decide)
    have e2 : x 2 = (.agg #[.int .i64 P, .slice A n c]) := hV 2 (by decide)
    have e3 : x 3 = (.slice X (pw n) cx) := hV 3 (by decide)
    obtain ⟨A4, c4, e4, h4⟩ := hV 4 (by decide)
    obtain ⟨A5, c5, e5, h5⟩ := hV 5 (by decide)
    obtain ⟨A6, c6, e6, h6⟩ := hV 6 (by decide)
    obtain ⟨A7, c7, e7, h7⟩ := hV 7 (by decide)
    have e8 : x 8 = (.int .i64 0) := hV 8 (by decide)
    simp only [e0, e1, e2, e3, e4, e5, e6, e7, e8]
    clear e0 e1 e2 e3 e4 e5 e6 e7 e8
    refine wpAny_done (by kernel_rfl) ?_ _
    go_wp2
    go_ret2
    exact aRow3 HOK.out (h7.after hB2)
  · obtain ⟨r, hr⟩ : ∃ r, r = codeL P sq [xs] := ⟨_, rfl⟩
    have HR := Lib.hid hr
    have HR0 := Lib.hid hr0
    have b0 : (r != 0) = true := code_ne (by rw [hr]; exact hr0)
    rw [← hr] at hreg
    clear hr hr0
    go_enter Tryz.func83, Tryz.ntmps83
    go_wp2_with fail
    refine hreg.mono ?_
    rintro e w2 ⟨rfl, hb2⟩
    have hB2 := hB1.trans (hb2.mono hB1.size)
    have k2 := k1.below hb2 k1.lt
    obtain ⟨q0, q1⟩ := k2.two
    clear k0 hB0 k1 hB1 hb2
    go_wp2
    go_ret2
    exact noRow3 (by rw [orbR_bad HR0.out, HR.out]) hB2
end Go.Proofs.YtggigolkncckoaaGreat
namespace Go.Proofs.YtggigolkncckoaaGreat
open Go.RowKit
/-- Are all vectors of the first list orthogonal to all of the second? -/
def orthB (P : Int) (sq : List Int) (a b : List (List Int)) : Bool := a.all fun v => b.all fun u => pairL P sq v u == 0
theorem orthB_bad {P : Int} {sq : List Int} {a b : List (List Int)} {v u : List Int} (hv : v ∈ a) (hu : u ∈ b) (h : ¬ pairL P sq v u = 0) : orthB P sq a b = false := by
  unfold orthB
  rw [List.all_eq_false]
  refine ⟨v, hv, ?_⟩
  rw [Bool.not_eq_true, List.all_eq_false]
  exact ⟨u, hu, by simpa using h⟩
theorem orthB_good {P : Int} {sq : List Int} {a b : List (List Int)} (h : ∀ i, i < a.length → ∀ j, j < b.length → pairL P sq (a.getD i []) (b.getD j []) = 0) : orthB P sq a b = true := by
  unfold orthB
  rw [List.all_eq_true]
  intro v hv
  rw [List.all_eq_true]
  intro u hu
  obtain ⟨i, hi, rfl⟩ := List.getElem_of_mem hv
  obtain ⟨j, hj, rfl⟩ := List.getElem_of_mem hu
  have := h i hi j hj
  rw [getD_of_lt [] hi, getD_of_lt [] hj] at this
  simpa using this
/-- AreOrthogonalBlades. -/
def aorR (P : Int) (sq : List Int) (xs : List Int) (ys : List Int) : Bool × Int := if codeL P sq [xs, ys] = 0 then (orthB P sq (subL P sq sq.length xs) (subL P sq sq.length ys), 0) else (false, codeL P sq [xs, ys])
theorem aorR_ok {P : Int} {sq xs ys : List Int} (h : codeL P sq [xs, ys] = 0) : aorR P sq xs ys = (orthB P sq (subL P sq sq.length xs) (subL P sq sq.length ys), 0) := by unfold aorR; rw [if_pos h]
theorem aorR_bad {P : Int} {sq xs ys : List Int} (h : ¬ codeL P sq [xs, ys] = 0) : aorR P sq xs ys = (false, codeL P sq [xs, ys]) := by unfold aorR; rw [if_neg h]
set_option maxHeartbeats 3200000 in
set_option maxRecDepth 8000 in
theorem AreOrthogonalBlades_any (P : Int) (A : Option Addr) (n c : Nat) (sq : List Int) (X : Option Addr) (m cx : Nat) (xs : List Int) (Y : Option Addr) (l cy : Nat) (ys : List Int) (w : World) (hn : n ≤ 1048576) (hm : m ≤ 1048576) (hl : l ≤ 1048576) (ha : Rd w A n (ints sq)) (hx : Rd w X m (ints xs)) (hcx : m ≤ cx) (hy : Rd w Y l (ints ys)) (hcy : l ≤ cy) :
    Calls Tryz.prog 84 #[.agg #[.int .i64 P, .slice A n c], .slice X m cx, .slice Y l cy] w fun e w' => e = .returned (.tuple #[.bool (aorR P sq xs ys).1, .int .i64 (aorR P sq xs ys).2]) ∧ Below w.heap.size w w' := by
  have hB0 : Below w.heap.size w (w.alloc (.cells #[.int .i64 P, .slice A n c] 26)) := (Below.refl _ _).alloc (Nat.le_refl _) _
  have k0 : Blk (w.alloc (.cells #[.int .i64 P, .slice A n c] 26)) w.heap.size 26 #[.int .i64 P, .slice A n c] := Blk.new _ _ _
  have hB1 : Below w.heap.size w ((w.alloc (.cells #[.int .i64 P, .slice A n c] 26)).alloc (.cells #[.slice X m cx, .slice Y l cy] 24)) := hB0.alloc (by simp) _
  have k1 : Blk ((w.alloc (.cells #[.int .i64 P, .slice A n c] 26)).alloc (.cells #[.slice X m cx, .slice Y l cy] 24)) w.heap.size 26 #[.int .i64 P, .slice A n c] := k0.alloc _
  have hreg := checkBlades_any P A (some ⟨w.heap.size + 1, 0, none⟩) n c 2 2 sq [xs, ys] ((w.alloc (.cells #[.int .i64 P, .slice A n c] 26)).alloc (.cells #[.slice X m cx, .slice Y l cy] 24)) hn (by omega) (ha.below hB1) (rdII_two (Blk.newAt3 (by simp)) (hx.below hB1) (hy.below hB1) hcx hcy) (all_two (by rw [hx.lenI]; exact hm) (by rw [hy.lenI]; exact hl))
  by_cases hr0 : codeL P sq [xs, ys] = 0
  · skip
    have hcM := (codeL_zero hr0).1
    rw [hr0] at hreg
    have HR0 := Lib.hid hr0
    clear hr0
    obtain ⟨HP, hp, hp2, hd1, hd2, hs0, hms⟩ := codeM_spec3 hcM
    have hsl := ha.lenI
    obtain ⟨hx1, hxs0⟩ := hms xs (by simp)
    have hmx : m = pw n := by rw [← hx.lenI, hx1, hsl]
    subst hmx
    obtain ⟨hy1, hys0⟩ := hms ys (by simp)
    have hly : l = pw n := by rw [← hy.lenI, hy1, hsl]
    subst hly
    have HYS := Lib.hid hys0
    clear hy1 hys0
    have HSL := Lib.hid hsl
    have HS0 := Lib.hid hs0
    have HXS := Lib.hid hxs0
    have hn6 : n ≤ 6 := by omega
    have hn0 : 0 < n := by omega
    clear hsl hms hx1 hs0 hxs0 hd1 hd2 hcM
    go_enter Tryz.func84, Tryz.ntmps84
    go_wp2_with fail
    refine hreg.mono ?_
    rintro e w2 ⟨rfl, hb2⟩
    have hB2 := hB1.trans (hb2.mono hB1.size)
    have k2 := k1.below hb2 k1.lt
    obtain ⟨q0, q1⟩ := k2.two
    clear k0 hB0 k1 hB1 hb2
    have HOK : Hid (aorR P sq xs ys = (orthB P sq (subL P sq n xs) (subL P sq n ys), 0)) := Lib.hid (by rw [aorR_ok HR0.out, HSL.out])
    have hla := subL_len HP sq n xs
    have hlb := subL_len HP sq n ys
    have HTA := Lib.hid (subL_tab hp sq n xs)
    have HTB := Lib.hid (subL_tab hp sq n ys)
    have HSUBX := Lib.hid fun (w' : World) (h : Below w2.heap.size w2 w') => subspace_any P A n c sq X cx xs w' HP hn6 hn0 ((ha.below hB2).below h) HS0.out ((hx.below hB2).below h) HXS.out
    have HSUBY := Lib.hid fun (w' : World) (h : Below w2.heap.size w2 w') => subspace_any P A n c sq Y cy ys w' HP hn6 hn0 ((ha.below hB2).below h) HS0.out ((hy.below hB2).below h) HYS.out
    obtain ⟨LA, hLA⟩ : ∃ R, R = subL P sq n xs := ⟨_, rfl⟩
    obtain ⟨LB, hLB⟩ : ∃ R, R = subL P sq n ys := ⟨_, rfl⟩
    rw [← hLA] at HOK HTA HSUBX hla
    rw [← hLB] at HOK HTB HSUBY hlb
    clear hLA hLB
    go_wp2_with fail
    refine (HSUBX.out _ (Below.refl _ _)).mono ?_
    rintro e w3 ⟨A3, c3, rfl, hMA⟩
    have hb23 := hMA.b
    have k3 := k2.below hb23 k2.lt
    clear k2 q0 q1
    go_wp2
    go_loopw [10, 25] (fun _ i wr => ∃ k : Nat, k ≤ LA.length ∧ i = .int .i64 k ∧ Hid (∀ i, i < k → ∀ j, j < LB.length → pairL P sq (LA.getD i []) (LB.getD j []) = 0) ∧ Below w3.heap.size w3 wr ∧ Blk wr w.heap.size 26 #[.int .i64 P, .slice A n c]) (fun _ i _ => LA.length - (intOf i).toNat)
    case atStart => exact ⟨0, by omega, rfl, Lib.hid (fun i hi => absurd hi (by omega)), Below.refl _ _, k3⟩
    case round =>
      obtain ⟨k, hk, rfl, HZ, hBr, k4⟩ := hrel
      clear k3
      obtain ⟨q0, q1⟩ := k4.two
      have hb2r := hb23.trans (hBr.mono hb23.size)
      by_cases hlt : k < LA.length
      · obtain ⟨g, o, rfl, hxk, A1, c1, hcx, hr1, hcc⟩ := (hMA.rd.below hBr).at_ hlt
        have HRX := Lib.hid (HTA.out LA[k] (List.getElem_mem hxk))
        have HMX := Lib.hid (List.getElem_mem hxk)
        rw [HRX.out.1] at hcx hr1
        have HGX : Hid (LA.getD k [] = LA[k]) := Lib.hid (getD_of_lt [] hxk)
        obtain ⟨va, hva⟩ : ∃ v, v = LA[k] := ⟨_, rfl⟩
        rw [← hva] at hr1 HRX HMX HGX
        clear hva
        obtain ⟨wo, rfl⟩ : ∃ W, W = wr := ⟨_, rfl⟩
        clear hcc hxk
        go_wp2_with fail
        refine (HSUBY.out _ hb2r).mono ?_
        rintro e w4 ⟨A4, c4, rfl, hMB⟩
        have k5 := k4.below hMB.b k4.lt
        clear k4 q0 q1
        go_wp2
        go_loopw [12, 33] (fun _ i wi => ∃ q : Nat, q ≤ LB.length ∧ i = .int .i64 q ∧ Hid (∀ j, j < q → pairL P sq va (LB.getD j []) = 0) ∧ Below w4.heap.size w4 wi ∧ Blk wi w.heap.size 26 #[.int .i64 P, .slice A n c]) (fun _ i _ => LB.length - (intOf i).toNat)
        case atStart => exact ⟨0, by omega, rfl, Lib.hid (fun i hi => absurd hi (by omega)), Below.refl _ _, k5⟩
        case round =>
          obtain ⟨q, hq, rfl, HZq, hBi, k6⟩ := hrel
          clear k5
          obtain ⟨wi, rfl⟩ : ∃ W, W = wr := ⟨_, rfl⟩
          obtain ⟨q0, q1⟩ := k6.two
          have hboi := hMB.b.trans (hBi.mono hMB.b.size)
          have hb2i := hb2r.trans (hboi.mono hb2r.size)
          by_cases hlq : q < LB.length
          · obtain ⟨g2, o2, rfl, hyk, A5, c5, hcy2, hr2, hcc2⟩ := (hMB.rd.below hBi).at_ hlq
            have HRY := Lib.hid (HTB.out LB[q] (List.getElem_mem hyk))
            have HMY := Lib.hid (List.getElem_mem hyk)
            rw [HRY.out.1] at hcy2 hr2
            have HGY : Hid (LB.getD q [] = LB[q]) := Lib.hid (getD_of_lt [] hyk)
            obtain ⟨vb, hvb⟩ : ∃ v, v = LB[q] := ⟨_, rfl⟩
            rw [← hvb] at hr2 HRY HMY HGY
            clear hvb
            have hpair := pair_any P A n c sq A1 c1 va A5 c5 vb wi hp hp2 hn6 ((ha.below hB2).below hb2i) HS0.out (hr1.below hboi) HRX.out.2 hr2 HRY.out.2
            obtain ⟨vp, hvp⟩ : ∃ v, v = pairL P sq va vb := ⟨_, rfl⟩
            have HVP := Lib.hid hvp
            rw [← hvp] at hpair
            clear hvp hcc2 hyk
            by_cases hv0 : vp = 0
            · have HV0 := Lib.hid hv0
              have hv0' : (vp != 0) = false := ne_bool' hv0
              clear hv0
              go_wp2_with fail
              refine hpair.mono ?_
              rintro e w5 ⟨rfl, hb5⟩
              have HB5 := hBi.trans (hb5.mono hBi.size)
              have K5 := k6.below hb5 k6.lt
              go_wp2
              go_roundw
              case rel => exact ⟨q + 1, by omega, by go_num, Lib.hid (fun j hj => by
                by_cases e : j = q
                · rw [e, HGY.out, ← HVP.out, HV0.out]
                · exact HZq.out j (by omega)), HB5, K5⟩
              case measure => simp [intOf]; omega
            · have HV0 : Hid (orthB P sq LA LB = false) := Lib.hid (orthB_bad HMX.out HMY.out (by rw [← HVP.out]; exact hv0))
              have hv0' : (vp != 0) = true := ne_bool hv0
              clear hv0
              go_wp2_with fail
              refine hpair.mono ?_
              rintro e w5 ⟨rfl, hb5⟩
              have hb2w := hb2i.trans (hb5.mono hb2i.size)
              go_wp2
              go_ret2
              exact ⟨ret_bi3 (by rw [HOK.out, HV0.out]), hB2.trans (hb2w.mono hB2.size)⟩
          · obtain rfl : q = LB.length := by omega
            have HB5 := hBr.trans (hboi.mono hBr.size)
            go_wp2
            go_roundw
            case rel => exact ⟨k + 1, by omega, by go_num, Lib.hid (fun i hi j hj => by
              by_cases e : i = k
              · rw [e, HGX.out]; exact HZq.out j hj
              · exact HZ.out i (by omega) j hj), HB5, k6⟩
            case measure => simp [intOf]; omega
      · obtain rfl : k = LA.length := by omega
        have HG : Hid (orthB P sq LA LB = true) := Lib.hid (orthB_good HZ.out)
        go_wp2
        go_ret2
        exact ⟨ret_bi3 (by rw [HOK.out, HG.out]), hB2.trans (hb2r.mono hB2.size)⟩
  · obtain ⟨r, hr⟩ : ∃ r, r = codeL P sq [xs, ys] := ⟨_, rfl⟩
    have HR := Lib.hid hr
    have HR0 := Lib.hid hr0
    have b0 : (r != 0) = true := code_ne (by rw [hr]; exact hr0)
    rw [← hr] at hreg
    clear hr hr0
    go_enter Tryz.func84, Tryz.ntmps84
    go_wp2_with fail
    refine hreg.mono ?_
    rintro e w2 ⟨rfl, hb2⟩
    have hB2 := hB1.trans (hb2.mono hB1.size)
    have k2 := k1.below hb2 k1.lt
    obtain ⟨q0, q1⟩ := k2.two
    clear k0 hB0 k1 hB1 hb2
    go_wp2
    go_ret2
    exact ⟨ret_bi3 (by rw [aorR_bad HR0.out, HR.out]), hB2⟩
end Go.Proofs.YtggigolkncckoaaGreat
namespace Go.Proofs.YtggigolkncckoaaGreat
section
variable {P : Int} {sq : List Int}
theorem mapW_tab (hp : 0 < P) {L : List (List Int)} (hT : Tab P sq.length L) : Tab P sq.length (L.map (weiL P sq)) := fun x hx => by
  obtain ⟨v, hv, rfl⟩ := List.mem_map.1 hx
  exact ⟨by rw [weiL_len, (hT v hv).1], weiL_nums hp _ _⟩
theorem ent_mapW {L : List (List Int)} (hT : Tab P sq.length L) {i q : Nat} (hi : i < L.length) (hq : q < sq.length) : ent (L.map (weiL P sq)) i q = ent L i q * sq.getD q 0 % P := by
  unfold ent
  rw [getD_of_lt [] (by simpa using hi), getD_of_lt [] hi, List.getElem_map]
  unfold weiL
  rw [tab_getD (by rw [(hT _ (List.getElem_mem hi)).1]; exact hq)]
theorem orth_bil {L : List (List Int)} (hT : Tab P sq.length L) (u : List Int) : (Orth P sq.length (L.map (weiL P sq)) fun q => u.getD q 0) ↔ ∀ v ∈ L, bil sq v u % P = 0 := by
  have key : ∀ i (hi : i < L.length), (sumTo sq.length fun q => ent (L.map (weiL P sq)) i q * u.getD q 0) % P = bil sq L[i] u % P := fun i hi => by
    unfold bil
    refine sumTo_mod P fun q hq => ?_
    rw [ent_mapW hT hi hq]
    refine (cg_mul (cg_self _ _) rfl).trans ?_
    congr 1
    unfold ent
    rw [getD_of_lt [] hi]
    grind
  constructor
  · intro h v hv
    obtain ⟨i, hi, rfl⟩ := List.getElem_of_mem hv
    rw [← key i hi]
    exact h i (by simpa using hi)
  · intro h i hi
    have hi' : i < L.length := by simpa using hi
    exact (key i hi').trans (h _ (List.getElem_mem hi'))
theorem sp_orth (hP : isP P = true) {L : List (List Int)} (hT : Tab P sq.length L) (u : List Int) : (Sp P sq.length (orthL P sq sq.length L) fun q => u.getD q 0) ↔ ∀ v ∈ L, bil sq v u % P = 0 := by
  have h3 := isP_ge hP
  unfold orthL
  rw [kernL_sp hP (mapW_tab (by omega) hT)]
  exact orth_bil hT u
theorem regB_at {sq : List Int} {x : Int} (h : regB sq = true) (hx : x ∈ sq) : x ≠ 0 := fun e => by
  subst e
  unfold regB at h
  simp only [Bool.not_eq_true', List.contains_eq_mem, decide_eq_false_iff_not] at h
  exact h hx
theorem sp_mem {L : List (List Int)} {n : Nat} {v : List Int} (hv : v ∈ L) : Sp P n L fun q => v.getD q 0 := by
  obtain ⟨i, hi, rfl⟩ := List.getElem_of_mem hv
  have e : (fun q => L[i].getD q 0) = fun q => ent L i q := by funext q; unfold ent; rw [getD_of_lt [] hi]
  rw [e]; exact Sp.row hi
theorem orth_dim (hP : isP P = true) (hs : NumsL P sq) (hr : ∀ q, q < sq.length → sq.getD q 0 ≠ 0) {L : List (List Int)} (hT : Tab P sq.length L) (hI : Ind P sq.length L) : (orthL P sq sq.length L).length + L.length = sq.length := by
  have h3 := isP_ge hP
  have hM := mapW_tab (sq := sq) (by omega : 0 < P) hT
  have hI2 : Ind P sq.length (L.map (weiL P sq)) := fun c hc i hi => by
    refine hI c (fun q hq => ?_) i (by simpa using hi)
    have h1 := hc q hq
    rw [List.length_map] at h1
    have h2 : (sq.getD q 0 * sumTo L.length fun i => c i * ent L i q) % P = 0 := by
      rw [← h1, ← sumTo_mul]
      refine sumTo_mod P fun i hi => ?_
      rw [ent_mapW hT hi hq]
      refine Eq.trans ?_ (cg_mul (rfl : c i % P = c i % P) (cg_self _ _)).symm
      congr 1; grind
    have h4 : sq.getD q 0 % P ≠ 0 := by
      have := hs.getD (by omega) q
      rw [Int.emod_eq_of_lt this.1 this.2]; exact hr q hq
    exact Classical.byContradiction fun hne => mul_ne hP h4 hne h2
  have h5 := kernL_dim hP hM
  rw [hI2.basis hP hM, List.length_map] at h5
  exact h5
theorem orth_orth (hP : isP P = true) (hs : NumsL P sq) (hr : ∀ q, q < sq.length → sq.getD q 0 ≠ 0) {A : List (List Int)} (hR : Red sq.length A) (hT : Tab P sq.length A) : orthL P sq sq.length (orthL P sq sq.length A) = A := by
  have h3 := isP_ge hP
  have hO : Tab P sq.length (orthL P sq sq.length A) := orthL_tab (by omega) _ _ _
  have hRO : Red sq.length (orthL P sq sq.length A) := by unfold orthL; exact kernL_red hP _ _
  have hRF : Red sq.length (orthL P sq sq.length (orthL P sq sq.length A)) := by unfold orthL; exact kernL_red hP _ _
  have hF : Tab P sq.length (orthL P sq sq.length (orthL P sq sq.length A)) := orthL_tab (by omega) _ _ _
  have d1 := orth_dim hP hs hr hT (Red.ind (p := P) hR)
  have d2 := orth_dim hP hs hr hO (Red.ind (p := P) hRO)
  have in1 : InSp P sq.length A (orthL P sq sq.length (orthL P sq sq.length A)) := fun i hi => by
    have e : (fun q => ent A i q) = fun q => (A[i]).getD q 0 := by funext q; unfold ent; rw [getD_of_lt [] hi]
    rw [e, sp_orth hP hO]
    intro v hv
    rw [bil_symm]
    exact (sp_orth hP hT v).1 (sp_mem hv) _ (List.getElem_mem hi)
  have in2 : InSp P sq.length (orthL P sq sq.length (orthL P sq sq.length A)) A := fun i hi => Classical.byContradiction fun hn => by
    obtain ⟨F, hFe⟩ : ∃ F, F = orthL P sq sq.length (orthL P sq sq.length A) := ⟨_, rfl⟩
    rw [← hFe] at hi hn in1 d2
    have e : (fun q => ent F i q) = fun q => (F[i]).getD q 0 := by funext q; unfold ent; rw [getD_of_lt [] hi]
    rw [e] at hn
    have hI := Ind.snoc hP (Red.ind (p := P) hR) hn
    have hle := hI.le hP (M := F) (InSp.append in1 (InSp.of_mem fun x hx => by
      rw [List.mem_singleton.1 hx]
      exact sp_mem (List.getElem_mem hi)))
    rw [List.length_append, List.length_singleton] at hle
    omega
  exact (Red.unique (by omega) hR hRF hT hF in1 in2).symm
/-- What is known of the blade of a list. -/
theorem bla_code (hP : isP P = true) (h1 : 1 ≤ sq.length) (h6 : sq.length ≤ 6) (hsp : isSp P sq = true) {M : List (List Int)} (hT : Tab P sq.length M) : codeL P sq [blaL P sq sq.length M] = 0 ∧ subL P sq sq.length (blaL P sq sq.length M) = basisL P M ∧ (blaL P sq sq.length M).length = pw sq.length ∧ NumsL P (blaL P sq sq.length M) := by
  have h3 := isP_ge hP
  have hR := basisL_red hP M hT
  have hB := basisL_tab (by omega) M hT
  have hl := blaL_len P sq sq.length M
  have hn := blaL_nums (P := P) (by omega) sq sq.length M
  refine ⟨codeL_good (codeM_mk hsp (all_one ⟨hl, hn⟩)) ?_, ?_, hl, hn⟩
  · have := blade_wedges (sq := sq) rfl (by omega) h6 hP hR hB
    unfold blaL
    simpa using this
  · unfold blaL
    exact sub_wedges rfl (by omega) hP hR hB
theorem codeL_two {xs ys : List Int} (h : codeL P sq [xs, ys] = 0) : codeL P sq [xs] = 0 ∧ codeL P sq [ys] = 0 := by
  obtain ⟨hM, hb⟩ := codeL_zero h
  obtain ⟨hsp, -⟩ := codeM_sp hM
  obtain ⟨-, -, -, -, -, -, hms⟩ := codeM_spec3 hM
  have hb' := List.all_eq_true.1 hb
  exact ⟨codeL_good (codeM_mk hsp (all_one (hms xs (by simp)))) (by simpa using hb' xs (by simp)), codeL_good (codeM_mk hsp (all_one (hms ys (by simp)))) (by simpa using hb' ys (by simp))⟩
theorem codeL_pair {xs ys : List Int} (h : codeL P sq [xs] = 0) (h' : codeL P sq [ys] = 0) : codeL P sq [xs, ys] = 0 := by
  obtain ⟨hM, hb⟩ := codeL_zero h
  obtain ⟨hM', hb'⟩ := codeL_zero h'
  obtain ⟨hsp, -⟩ := codeM_sp hM
  obtain ⟨-, -, -, -, -, -, hms⟩ := codeM_spec3 hM
  obtain ⟨-, -, -, -, -, -, hms'⟩ := codeM_spec3 hM'
  refine codeL_good (codeM_mk hsp (all_two (hms xs (by simp)) (hms' ys (by simp)))) ?_
  simp only [List.all_cons, List.all_nil, Bool.and_true] at hb hb' ⊢
  rw [hb, hb']; rfl
/-- The facts for two blades. -/
theorem joins_in {xs ys : List Int} (h : codeL P sq [xs, ys] = 0) : ∃ (Z W O : List Int) (A B C E : List (List Int)), isP P = true ∧ P ≤ 13 ∧ 1 ≤ sq.length ∧ sq.length ≤ 6 ∧ isSp P sq = true ∧ xs.length = pw sq.length ∧ ys.length = pw sq.length ∧
    joiR P sq xs ys = (Z, 0) ∧ comR P sq xs ys = (W, 0) ∧ subR P sq xs = (A, 0) ∧ subR P sq ys = (B, 0) ∧ subR P sq Z = (C, 0) ∧ subR P sq W = (E, 0) ∧ Z.length = pw sq.length ∧ W.length = pw sq.length ∧ O.length = pw sq.length ∧
    A.length + B.length = C.length + E.length ∧ A.length ≤ sq.length ∧ B.length ≤ sq.length ∧ C.length ≤ sq.length ∧ E.length ≤ sq.length ∧ Tab P sq.length A ∧ Tab P sq.length E ∧ (∀ e ∈ E, contR P sq xs e = (true, 0) ∧ contR P sq ys e = (true, 0)) ∧
    orbR P sq xs = (O, 0) ∧ aorR P sq xs O = (true, 0) ∧ (regB sq = true → ∃ K : List Int, orbR P sq O = (K, 0) ∧ subR P sq K = (A, 0) ∧ K.length = pw sq.length) := by
  obtain ⟨hM, hb⟩ := codeL_zero h
  obtain ⟨hP, hp2, hp13, h1, h6, hs, hms⟩ := codeM_spec3 hM
  obtain ⟨hsp, -⟩ := codeM_sp hM
  obtain ⟨hx, hy⟩ := codeL_two h
  obtain ⟨hxl, hxn⟩ := hms xs (by simp)
  obtain ⟨hyl, hyn⟩ := hms ys (by simp)
  have hbx : isBl P sq sq.length xs = true := List.all_eq_true.1 hb xs (by simp)
  have hby : isBl P sq sq.length ys = true := List.all_eq_true.1 hb ys (by simp)
  have hRA : Red sq.length (subL P sq sq.length xs) := by unfold subL; exact kernL_red hP _ _
  have hTA : Tab P sq.length (subL P sq sq.length xs) := by unfold subL; exact kernL_tab hp2 _ _
  have hRB : Red sq.length (subL P sq sq.length ys) := by unfold subL; exact kernL_red hP _ _
  have hTB : Tab P sq.length (subL P sq sq.length ys) := by unfold subL; exact kernL_tab hp2 _ _
  have hcx := fun (v : List Int) (hv : NumsL P v) => contains_iff (sq := sq) rfl (by omega) hP hxl hxn hv
  have hcy := fun (v : List Int) (hv : NumsL P v) => contains_iff (sq := sq) rfl (by omega) hP hyl hyn hv
  have hsx := subR_ok hx
  have hsy := subR_ok hy
  have hMx := (codeL_zero hx).1
  have hMy := (codeL_zero hy).1
  obtain ⟨A, hA⟩ : ∃ A, A = subL P sq sq.length xs := ⟨_, rfl⟩
  obtain ⟨B, hB⟩ : ∃ B, B = subL P sq sq.length ys := ⟨_, rfl⟩
  have hj := joiR_ok h
  have hc := comR_ok h
  have ho := orbR_ok hx
  rw [← hA] at hRA hTA hcx hsx hj hc ho
  rw [← hB] at hRB hTB hcy hsy hj hc
  have hTAB := hTA.append hTB
  have hRE : Red sq.length (comL P sq.length A B) := kernL_red hP _ _
  have hTE := comL_tab hp2 sq.length A B
  have hRO : Red sq.length (orthL P sq sq.length A) := by unfold orthL; exact kernL_red hP _ _
  have hTO : Tab P sq.length (orthL P sq sq.length A) := orthL_tab hp2 _ _ _
  obtain ⟨z1, z2, z3, -⟩ := bla_code hP h1 h6 hsp hTAB
  obtain ⟨w1, w2, w3, -⟩ := bla_code hP h1 h6 hsp hTE
  obtain ⟨o1, o2, o3, -⟩ := bla_code hP h1 h6 hsp hTO
  rw [basisL_of_red hP hRE hTE] at w2
  rw [basisL_of_red hP hRO hTO] at o2
  have hdim := dim_common hP hTA hTB (by omega) (Red.ind (p := P) hRA) (Red.ind (p := P) hRB)
  refine ⟨_, _, _, A, B, basisL P (A ++ B), comL P sq.length A B, hP, hp13, h1, h6, hsp, hxl, hyl, hj, hc, hsx, hsy, by rw [subR_ok z1, z2], by rw [subR_ok w1, w2], z3, w3, o3, hdim, hRA.len, hRB.len, (basisL_red hP _ hTAB).len, hRE.len, hTA, hTE, fun e he => ?_, ho, ?_, fun hreg => ?_⟩
  · have hee := hTE e he
    have hse := (comL_sp hP hTA hTB).1 (sp_mem he)
    have hve : isVe P sq e = true := isVe_mk hee.1 hee.2
    rw [contR_ok (by rw [codeLv_eq hMx, if_pos hve, if_pos hbx]), contR_ok (by rw [codeLv_eq hMy, if_pos hve, if_pos hby]), (hcx e hee.2).2 hse.1, (hcy e hee.2).2 hse.2]
    exact ⟨rfl, rfl⟩
  · rw [aorR_ok (codeL_pair hx o1), o2, ← hA]
    congr 1
    refine orthB_good fun i hi j hj => ?_
    rw [getD_of_lt [] hi, getD_of_lt [] hj]
    have hbz := (sp_orth hP hTA _).1 (sp_mem (List.getElem_mem hj)) _ (List.getElem_mem hi)
    have h9 := pairL_bil (p := P) (u := (orthL P sq sq.length A)[j]) (hTA _ (List.getElem_mem hi)).1
    have h8 := pairL_small hp2 sq A[i] (orthL P sq sq.length A)[j]
    rw [Int.emod_eq_of_lt h8.1 h8.2] at h9
    rw [h9, hbz]
  · have hTF : Tab P sq.length (orthL P sq sq.length (orthL P sq sq.length A)) := orthL_tab hp2 _ _ _
    obtain ⟨k1, k2, k3, -⟩ := bla_code hP h1 h6 hsp hTF
    have hnz : ∀ q, q < sq.length → sq.getD q 0 ≠ 0 := fun q hq => by
      rw [getD_of_lt 0 hq]
      exact regB_at hreg (List.getElem_mem hq)
    have hOO := orth_orth hP hs hnz hRA hTA
    refine ⟨_, by rw [orbR_ok o1, o2], ?_, k3⟩
    rw [subR_ok k1, k2, hOO, basisL_of_red hP hRA hTA]
end
end Go.Proofs.YtggigolkncckoaaGreat
namespace Go.Proofs.YtggigolkncckoaaGreat
open Go.RowKit
set_option maxHeartbeats 400000 in
theorem likeInts_any (A B : Option Addr) (n m c d : Nat) (xs ys : List Int) (w : World) (hn : n ≤ 1099511627776) (hm : m ≤ 1099511627776)
    (ha : Rd w A n (ints xs)) (hb : Rd w B m (ints ys)) :
    Calls Tryz.prog 19 #[.slice A n c, .slice B m d] w fun e w' => e = .returned (.bool (decide (xs = ys))) ∧ ∃ j, w' = w.drewN j := by
  have hxl : xs.length = n := by have := ha.1; rwa [ints_length] at this
  have hyl : ys.length = m := by have := hb.1; rwa [ints_length] at this
  by_cases hnm : n = m
  · subst hnm
    have Hx := Lib.hid hxl; clear hxl
    have Hy := Lib.hid hyl; clear hyl
    go_enter Tryz.func19, Tryz.ntmps19
    go_wp2
    go_loopw [5] (fun i wr => ∃ k j : Nat, k ≤ n ∧ i = .int .i64 k ∧ xs.take k = ys.take k ∧ wr = w.drewN j) (fun i _ => n - (intOf i).toNat)
    case atStart => exact ⟨0, 0, by omega, rfl, by simp, rfl⟩
    case round =>
      obtain ⟨k, j, hk, rfl, hxy, rfl⟩ := hrel
      have H := Lib.hid hxy; clear hxy
      by_cases hlt : k < n
      · obtain ⟨g, o, rfl, hx, hcx⟩ := ha.int hlt
        obtain ⟨g', o', rfl, hy, hcy⟩ := hb.int hlt
        clear ha hb
        go_wp2
        go_quiet (fail)
        go_wp2
        · go_ret
          exact ⟨ret_bool (ne_of_get xs ys k hx hy (by assumption)).symm, _, World.drewN_drewN _ _ _⟩
        · go_roundw
          case rel => exact ⟨k + 1, _, by omega, by go_num, take_succ_eq xs ys k hx hy H.out (by simpa using (by assumption : (xs[k] != ys[k]) = false)), rfl⟩
          case measure => simp [intOf]; omega
      · go_wp2
        go_ret
        refine ⟨ret_bool ?_, _, rfl⟩
        have := H.out
        rw [List.take_of_length_le (by rw [Hx.out]; omega), List.take_of_length_le (by rw [Hy.out]; omega)] at this
        rw [this]; simp
  · have hne : decide (xs = ys) = false := by
      rw [decide_eq_false_iff_not]; rintro rfl; omega
    have Hne := Lib.hid hne; clear hne hxl hyl
    have hb0 : ((n : Int) != (m : Int)) = true := by rw [bne_iff_ne]; omega
    go_enter Tryz.func19, Tryz.ntmps19
    go_wp2
    go_ret
    exact ⟨ret_bool Hne.out.symm, 0, rfl⟩
end Go.Proofs.YtggigolkncckoaaGreat
namespace Go.Proofs.YtggigolkncckoaaGreat
open Go.RowKit
set_option maxHeartbeats 1600000 in
set_option maxRecDepth 8000 in
theorem likeRows5_same (A B : Option Addr) (n c d : Nat) (M : List (List Int)) (w : World) (hn : n ≤ 1000) (ha : RdII w A n M) (hb : RdII w B n M) (hM : ∀ v ∈ M, v.length ≤ 1000000) :
    Calls Tryz.prog 73 #[.slice A n c, .slice B n d] w fun e w' => e = .returned (.bool true) ∧ Below w.heap.size w w' := by
  have t4 : ((n : Int) != (n : Int)) = false := by simp
  have HM := Lib.hid hM
  clear hM
  go_enter Tryz.func73, Tryz.ntmps73
  go_wp2
  go_loopw [5] (fun i wr => ∃ k : Nat, k ≤ n ∧ i = .int .i64 k ∧ Below w.heap.size w wr) (fun i _ => n - (intOf i).toNat)
  case atStart => exact ⟨0, by omega, rfl, Below.refl _ _⟩
  case round =>
    obtain ⟨k, hk, rfl, hB⟩ := hrel
    by_cases hlt : k < n
    · obtain ⟨g, o, rfl, hx1, A1, c1, hc1, hr1, -⟩ := (ha.below hB).at_ hlt
      obtain ⟨g2, o2, rfl, hx2, A2, c2, hc2, hr2, -⟩ := (hb.below hB).at_ hlt
      have hml := HM.out M[k] (List.getElem_mem hx1)
      obtain ⟨v, hv⟩ : ∃ v, v = M[k] := ⟨_, rfl⟩
      rw [← hv] at hc1 hc2 hr1 hr2 hml
      obtain ⟨q, hq⟩ : ∃ q, q = v.length := ⟨_, rfl⟩
      rw [← hq] at hc1 hc2 hr1 hr2 hml
      have hr3 : ∀ w', Below w.heap.size w w' → Rd w' A1 q (ints v) ∧ Rd w' A2 q (ints v) := fun w' h => by
        obtain ⟨_, _, e1, hx3, A3, c3, hc3, hr3, -⟩ := ha.at_ hlt
        obtain ⟨_, _, e2, hx4, A4, c4, hc4, hr4, -⟩ := hb.at_ hlt
        cases e1
        cases e2
        rw [(hB.cell (World.block_lt_of_cell? _ _ hc3)), hc3] at hc1
        rw [(hB.cell (World.block_lt_of_cell? _ _ hc4)), hc4] at hc2
        rw [← hv] at hc1 hc2 hr3 hr4
        rw [← hq] at hc1 hc2 hr3 hr4
        cases hc1
        cases hc2
        exact ⟨hr3.below h, hr4.below h⟩
      have hl := fun (w' : World) (h : Below w.heap.size w w') => likeInts_any A1 A2 q q c1 c2 v v w' (by omega) (by omega) (hr3 w' h).1 (hr3 w' h).2
      rw [decide_eq_true rfl] at hl
      clear hv hq ha hb hr1 hr2 hx1 hx2 hr3
      go_wp2
      refine wp_obs 10 [[], [], [0, 1], [0, 1, 2], [], [], [4, 5], [4, 5, 6], [0, 1, 2, 3, 4, 5, 6, 7], [0, 1, 2, 3, 4, 5, 6, 7, 8]] [VIs (.slice (some ⟨g, o, none⟩) n c), VIs (.int .i64 (k)), VIs (.pointer (some ⟨g, o + k, none⟩)), VIs (.slice A1 q c1), VIs (.slice (some ⟨g2, o2, none⟩) n d), VIs (.int .i64 (k)), VIs (.pointer (some ⟨g2, o2 + k, none⟩)), VIs (.slice A2 q c2), VIs (.bool true), VIs (.bool false)] (fun w' => w'.cell? ⟨g, o + k, none⟩ = some (.slice A1 q c1) ∧ w'.cell? ⟨g2, o2 + k, none⟩ = some (.slice A2 q c2) ∧ Below w.heap.size w w') (by kernel_rfl) (by kernel_rfl) (fun _ _ h hb => ⟨(hb.cell (World.block_lt_of_cell? _ _ h.1)).trans h.1, (hb.cell (World.block_lt_of_cell? _ _ h.2.1)).trans h.2.1, h.2.2.trans (hb.mono h.2.2.size)⟩) (⟨hc1, hc2, hB.drew⟩) (fun x => ?_)
      refine obs_step (Eq.trans (by simp only [List.getElem?_toArray, List.getElem?_cons_zero]; exact rfl) rfl) rfl (fun w' hS hV K hK => ?_) ?_
      · have q0 := hS.1; have q1 := hS.2.1
        go_simp
        exact hK.out _ _ _ rfl rfl rfl (Below.refl _ _)
      simp only [List.setIfInBounds_toArray, List.set_cons_zero, List.set_cons_succ]
      refine obs_step (Eq.trans (by simp only [List.getElem?_toArray, List.getElem?_cons_succ, List.getElem?_cons_zero]; exact rfl) rfl) rfl (fun w' hS hV K hK => ?_) ?_
      · have q0 := hS.1; have q1 := hS.2.1
        go_simp
        exact hK.out _ _ _ rfl rfl rfl (Below.refl _ _)
      simp only [List.setIfInBounds_toArray, List.set_cons_zero, List.set_cons_succ]
      refine obs_step (Eq.trans (by simp only [List.getElem?_toArray, List.getElem?_cons_succ, List.getElem?_cons_zero]; exact rfl) rfl) rfl (fun w' hS hV K hK => ?_) ?_
      · have e0 : x 0 = (.slice (some ⟨g, o, none⟩) n c) := hV 0 (by decide)
        have e1 : x 1 = (.int .i64 (k)) := hV 1 (by decide)
        have q0 := hS.1; have q1 := hS.2.1
        go_simp
        exact hK.out _ _ _ rfl rfl rfl (Below.refl _ _)
      simp only [List.setIfInBounds_toArray, List.set_cons_zero, List.set_cons_succ]
      refine obs_step (Eq.trans (by simp only [List.getElem?_toArray, List.getElem?_cons_succ, List.getElem?_cons_zero]; exact rfl) rfl) rfl (fun w' hS hV K hK => ?_) ?_
      · have e0 : x 0 = (.slice (some ⟨g, o, none⟩) n c) := hV 0 (by decide)
        have e1 : x 1 = (.int .i64 (k)) := hV 1 (by decide)
        have e2 : x 2 = (.pointer (some ⟨g, o + k, none⟩)) := hV 2 (by decide)
        have q0 := hS.1; have q1 := hS.2.1
        go_simp
        exact hK.out _ _ _ rfl rfl rfl (Below.refl _ _)
      simp only [List.setIfInBounds_toArray, List.set_cons_zero, List.set_cons_succ]
      refine obs_step (Eq.trans (by simp only [List.getElem?_toArray, List.getElem?_cons_succ, List.getElem?_cons_zero]; exact rfl) rfl) rfl (fun w' hS hV K hK => ?_) ?_
      · have q0 := hS.1; have q1 := hS.2.1
        go_simp
        exact hK.out _ _ _ rfl rfl rfl (Below.refl _ _)
      simp only [List.setIfInBounds_toArray, List.set_cons_zero, List.set_cons_succ]
      refine obs_step (Eq.trans (by simp only [List.getElem?_toArray, List.getElem?_cons_succ, List.getElem?_cons_zero]; exact rfl) rfl) rfl (fun w' hS hV K hK => ?_) ?_
      · have q0 := hS.1; have q1 := hS.2.1
        go_simp
        exact hK.out _ _ _ rfl rfl rfl (Below.refl _ _)
      simp only [List.setIfInBounds_toArray, List.set_cons_zero, List.set_cons_succ]
      refine obs_step (Eq.trans (by simp only [List.getElem?_toArray, List.getElem?_cons_succ, List.getElem?_cons_zero]; exact rfl) rfl) rfl (fun w' hS hV K hK => ?_) ?_
      · have e4 : x 4 = (.slice (some ⟨g2, o2, none⟩) n d) := hV 4 (by decide)
        have e5 : x 5 = (.int .i64 (k)) := hV 5 (by decide)
        have q0 := hS.1; have q1 := hS.2.1
        go_simp
        exact hK.out _ _ _ rfl rfl rfl (Below.refl _ _)
      simp only [List.setIfInBounds_toArray, List.set_cons_zero, List.set_cons_succ]
      refine obs_step (Eq.trans (by simp only [List.getElem?_toArray, List.getElem?_cons_succ, List.getElem?_cons_zero]; exact rfl) rfl) rfl (fun w' hS hV K hK => ?_) ?_
      · have e4 : x 4 = (.slice (some ⟨g2, o2, none⟩) n d) := hV 4 (by decide)
        have e5 : x 5 = (.int .i64 (k)) := hV 5 (by decide)
        have e6 : x 6 = (.pointer (some ⟨g2, o2 + k, none⟩)) := hV 6 (by decide)
        have q0 := hS.1; have q1 := hS.2.1
        go_simp
        exact hK.out _ _ _ rfl rfl rfl (Below.refl _ _)
      simp only [List.setIfInBounds_toArray, List.set_cons_zero, List.set_cons_succ]
      refine obs_step (Eq.trans (by simp only [List.getElem?_toArray, List.getElem?_cons_succ, List.getElem?_cons_zero]; exact rfl) rfl) rfl (fun w' hS hV K hK => ?_) ?_
      · have e0 : x 0 = (.slice (some ⟨g, o, none⟩) n c) := hV 0 (by decide)
        have e1 : x 1 = (.int .i64 (k)) := hV 1 (by decide)
        have e2 : x 2 = (.pointer (some ⟨g, o + k, none⟩)) := hV 2 (by decide)
        have e3 : x 3 = (.slice A1 q c1) := hV 3 (by decide)
        have e4 : x 4 = (.slice (some ⟨g2, o2, none⟩) n d) := hV 4 (by decide)
        have e5 : x 5 = (.int .i64 (k)) := hV 5 (by decide)
        have e6 : x 6 = (.pointer (some ⟨g2, o2 + k, none⟩)) := hV 6 (by decide)
        have e7 : x 7 = (.slice A2 q c2) := hV 7 (by decide)
        have q0 := hS.1; have q1 := hS.2.1
        go_simp
        refine (hl _ hS.2.2).mono ?_
        rintro e v1 ⟨rfl, j1, rfl⟩
        exact hK.out _ _ _ rfl rfl rfl (below_drewN (Below.refl _ _) j1)
      simp only [List.setIfInBounds_toArray, List.set_cons_zero, List.set_cons_succ]
      refine obs_step (Eq.trans (by simp only [List.getElem?_toArray, List.getElem?_cons_succ, List.getElem?_cons_zero]; exact rfl) rfl) rfl (fun w' hS hV K hK => ?_) ?_
      · have e0 : x 0 = (.slice (some ⟨g, o, none⟩) n c) := hV 0 (by decide)
        have e1 : x 1 = (.int .i64 (k)) := hV 1 (by decide)
        have e2 : x 2 = (.pointer (some ⟨g, o + k, none⟩)) := hV 2 (by decide)
        have e3 : x 3 = (.slice A1 q c1) := hV 3 (by decide)
        have e4 : x 4 = (.slice (some ⟨g2, o2, none⟩) n d) := hV 4 (by decide)
        have e5 : x 5 = (.int .i64 (k)) := hV 5 (by decide)
        have e6 : x 6 = (.pointer (some ⟨g2, o2 + k, none⟩)) := hV 6 (by decide)
        have e7 : x 7 = (.slice A2 q c2) := hV 7 (by decide)
        have e8 : x 8 = (.bool true) := hV 8 (by decide)
        have q0 := hS.1; have q1 := hS.2.1
        go_simp
        exact hK.out _ _ _ rfl rfl rfl (Below.refl _ _)
      simp only [List.setIfInBounds_toArray, List.set_cons_zero, List.set_cons_succ]
      refine fun w' hS hV => ?_
      have e0 : x 0 = (.slice (some ⟨g, o, none⟩) n c) := hV 0 (by decide)
      have e1 : x 1 = (.int .i64 (k)) := hV 1 (by decide)
      have e2 : x 2 = (.pointer (some ⟨g, o + k, none⟩)) := hV 2 (by decide)
      have e3 : x 3 = (.slice A1 q c1) := hV 3 (by decide)
      have e4 : x 4 = (.slice (some ⟨g2, o2, none⟩) n d) := hV 4 (by decide)
      have e5 : x 5 = (.int .i64 (k)) := hV 5 (by decide)
      have e6 : x 6 = (.pointer (some ⟨g2, o2 + k, none⟩)) := hV 6 (by decide)
      have e7 : x 7 = (.slice A2 q c2) := hV 7 (by decide)
      have e8 : x 8 = (.bool true) := hV 8 (by decide)
      have e9 : x 9 = (.bool false) := hV 9 (by decide)
      simp only [e0, e1, e2, e3, e4, e5, e6, e7, e8, e9]
      clear e0 e1 e2 e3 e4 e5 e6 e7 e8 e9
      refine wpAny_done (by kernel_rfl) ?_ _
      have hB8 := hS.2.2
      go_wp2
      go_roundw
      case rel => exact ⟨k + 1, by omega, by go_num, hB8⟩
      case measure => simp [intOf]; omega
    · go_wp2
      go_ret
      exact ⟨rfl, hB⟩
end Go.Proofs.YtggigolkncckoaaGreat
