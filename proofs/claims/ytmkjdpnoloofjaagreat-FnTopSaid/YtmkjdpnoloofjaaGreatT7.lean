/-
  LawFnTop: part 7 of the texts that the proof needs. No condition.
-/
import Derived.Test.YtmkjdpnoloofjaaGreatT6
namespace Go.Proofs.YtmkjdpnoloofjaaGreat
/-- The rows of a matrix beside those of the unit matrix. -/
def wideM (M : List (List Int)) : List (List Int) := tab M.length fun i => M.getD i [] ++ unitRow M.length i
def invL (p : Int) (M : List (List Int)) : List (List Int) := tab (basisL p (wideM M)).length fun i => ((basisL p (wideM M)).getD i []).drop M.length
/-- The unit matrix plus k times a matrix. -/
def onePl (p : Int) (M : List (List Int)) (k : Int) : List (List Int) := tab M.length fun i => plusL p (unitRow M.length i) (M.getD i []) k
section
variable {p : Int} {n : Nat} {M : List (List Int)}
theorem unitRow_ent {n i k : Nat} (hi : i < n) (hk : k < n) : (unitRow n i).getD k 0 = if i = k then 1 else 0 := by
 rw [← unitM_ent hi hk]; unfold ent; rw [unitM_getD hi]
theorem wide_len (M : List (List Int)) : (wideM M).length = M.length := tab_len _ _
theorem wide_tab (hp : 2 ≤ p) (hT : Tab p n M) (hl : M.length = n) : Tab p (n + n) (wideM M) := Tab.tab fun i hi => by
 obtain ⟨h1, h2⟩ := hT.row hi
 refine ⟨by rw [List.length_append, h1, unitRow_len, hl], fun x hx => ?_⟩
 rcases List.mem_append.1 hx with h | h
 · exact h2 x h
 · exact unitRow_nums hp _ _ x h
theorem wide_left (hT : Tab p n M) {i q : Nat} (hi : i < M.length) (hq : q < n) : ent (wideM M) i q = ent M i q := by
 unfold ent wideM
 rw [tab_getD hi, getD_app_left 0 _ (by rw [(hT.row hi).1]; exact hq)]
theorem wide_right (hT : Tab p n M) (hl : M.length = n) {i q : Nat} (hi : i < M.length) (hq : q < n) : ent (wideM M) i (n + q) = if i = q then 1 else 0 := by
 unfold ent wideM
 rw [tab_getD hi]
 conv => lhs; rw [show n + q = (M.getD i []).length + q by rw [(hT.row hi).1]]
 rw [getD_app_right, hl, unitRow_ent (by omega) hq]
theorem wide_ind (hT : Tab p n M) (hl : M.length = n) : Ind p (n + n) (wideM M) := fun c hc i hi => by
 rw [wide_len, hl] at hi
 have h := hc (n + i) (by omega)
 rw [wide_len, hl] at h
 rwa [sumTo_one i hi fun k hk hne => by rw [wide_right hT hl (by omega) hi, if_neg hne, Int.mul_zero], wide_right hT hl (by omega) hi, if_pos rfl, Int.mul_one] at h
theorem wideB_len (hP : isP p = true) (hT : Tab p n M) (hl : M.length = n) : (basisL p (wideM M)).length = n := by
 have h3 := isP_ge hP
 rw [Ind.basis hP (wide_tab (by omega) hT hl) (wide_ind hT hl), wide_len, hl]
theorem wideB_tab (hP : isP p = true) (hT : Tab p n M) (hl : M.length = n) : Tab p (n + n) (basisL p (wideM M)) := by
 have h3 := isP_ge hP
 exact basisL_tab (by omega) _ (wide_tab (by omega) hT hl)
theorem inv_len (hP : isP p = true) (hT : Tab p n M) (hl : M.length = n) : (invL p M).length = n := by
 unfold invL; rw [tab_len, wideB_len hP hT hl]
theorem inv_tab (hP : isP p = true) (hT : Tab p n M) (hl : M.length = n) : Tab p n (invL p M) := Tab.tab fun i hi => by
 obtain ⟨h1, h2⟩ := (wideB_tab hP hT hl).row hi
 exact ⟨by rw [List.length_drop, h1, hl]; omega, fun x hx => h2 x (List.mem_of_mem_drop hx)⟩
theorem inv_ent (hP : isP p = true) (hT : Tab p n M) (hl : M.length = n) {i q : Nat} (hi : i < n) : ent (invL p M) i q = ent (basisL p (wideM M)) i (n + q) := by
 unfold ent invL
 rw [tab_getD (by rw [wideB_len hP hT hl]; exact hi), hl]
 simp only [List.getD_eq_getElem?_getD, List.getElem?_drop]
/-- Each row of the basis is made of rows of the matrix, by the numbers of its right half. -/
theorem wide_row (hP : isP p = true) (hT : Tab p n M) (hl : M.length = n) {i q : Nat} (hi : i < n) (hq : q < n) :
    ent (basisL p (wideM M)) i q % p = (sumTo n fun k => ent (basisL p (wideM M)) i (n + k) * ent M k q) % p := by
 have h3 := isP_ge hP
 have hW := wide_tab (by omega) hT hl
 obtain ⟨c, hc⟩ := (basisL_in hP _ hW).1 i (by rw [wideB_len hP hT hl]; exact hi)
 rw [wide_len, hl] at hc
 rw [hc q (by omega)]
 refine sumTo_mod p fun k hk => ?_
 have h1 := hc (n + k) (by omega)
 rw [sumTo_one k hk fun r hr hne => by rw [wide_right hT hl (by omega) hk, if_neg hne, Int.mul_zero], wide_right hT hl (by omega) hk, if_pos rfl, Int.mul_one] at h1
 rw [wide_left hT (by omega) hq]
 exact cg_mul h1.symm rfl
def Mt.mk' (hp : 0 < p) (hT : Tab p n M) (hl : M.length = n) : Mt p n := ⟨M, hl, hT, hp⟩
/-- If all places of leads lie in the left half, this is the unit matrix. -/
theorem inv_left (hP : isP p = true) (hp : 0 < p) (hn : 0 < n) (hT : Tab p n M) (hl : M.length = n) (h : ld (basisL p (wideM M)) (n - 1) < n) :
    Mt.mk' hp (inv_tab hP hT hl) (inv_len hP hT hl) * Mt.mk' hp hT hl = Mt.one hp := by
 have h3 := isP_ge hP
 have hW := wide_tab (by omega) hT hl
 have hR := basisL_red hP _ hW
 have hB := wideB_len hP hT hl
 have hge : ∀ i, i < n → i ≤ ld (basisL p (wideM M)) i := by
  intro i
  induction i with
  | zero => intro _; omega
  | succ i ih =>
   intro hi
   have h1 := ih (by omega)
   have h2 := hR.mono i (i + 1) (by omega) (by omega)
   omega
 have hle : ∀ k i, i + k = n - 1 → ld (basisL p (wideM M)) i + k < n := by
  intro k
  induction k with
  | zero => intro i hi; obtain rfl : i = n - 1 := by omega
            omega
  | succ k ih =>
   intro i hi
   have h1 := ih (i + 1) (by omega)
   have h2 := hR.mono i (i + 1) (by omega) (by omega)
   omega
 have hld : ∀ i, i < n → ld (basisL p (wideM M)) i = i := fun i hi => by
  have h1 := hge i hi
  have h2 := hle (n - 1 - i) i (by omega)
  omega
 refine Mt.same fun i j hi hj => ?_
 rw [Mt.mul_at _ _ hi hj, Mt.one_at hp hi hj]
 have e : (sumTo n fun k => (Mt.mk' hp (inv_tab hP hT hl) (inv_len hP hT hl)).at i k * (Mt.mk' hp hT hl).at k j) = sumTo n fun k => ent (basisL p (wideM M)) i (n + k) * ent M k j := by
  refine sumTo_congr fun k hk => ?_
  show ent (invL p M) i k * ent M k j = _
  rw [inv_ent hP hT hl hi]
 rw [e, ← wide_row hP hT hl hi hj]
 by_cases hij : i = j
 · subst hij
   rw [if_pos rfl]
   have h9 := hR.one i (by omega)
   rw [hld i hi] at h9
   rw [h9]
 · rw [if_neg hij]
   have h9 := hR.zero j i (by omega) (by omega) hij
   rw [hld j hj] at h9
   rw [h9]
theorem inv_iff (hP : isP p = true) (hn : 0 < n) (hT : Tab p n M) (hl : M.length = n) : ld (basisL p (wideM M)) (n - 1) < n ↔ detL p M ≠ 0 := by
 have h3 := isP_ge hP
 have hp : 0 < p := by omega
 have hW := wide_tab (by omega) hT hl
 have hR := basisL_red hP _ hW
 have hB := wideB_len hP hT hl
 constructor
 · intro h h0
   have e := inv_left hP hp hn hT hl h
   have h1 := Mt.det_mul hP hn (Mt.mk' hp (inv_tab hP hT hl) (inv_len hP hT hl)) (Mt.mk' hp hT hl)
   rw [e, Mt.det_one hP, show (Mt.mk' hp hT hl).det = 0 from h0, Int.mul_zero, Int.zero_emod, Int.emod_eq_of_lt (by omega) (by omega)] at h1
   omega
 · intro h0
   rcases Nat.lt_or_ge (ld (basisL p (wideM M)) (n - 1)) n with h | h
   · exact h
   · exfalso
     have hI := det_ind hP hn hT hl h0
     have hz : ∀ k, k < n → ent (basisL p (wideM M)) (n - 1) (n + k) % p = 0 := fun k hk => hI (fun k => ent (basisL p (wideM M)) (n - 1) (n + k)) (fun q hq => by
      rw [hl, ← wide_row hP hT hl (by omega) hq, hR.before (n - 1) q (by omega), Int.zero_emod]) k (by omega)
     have h1 := hR.one (n - 1) (by omega)
     have h2 := hR.lt (n - 1) (by omega)
     have h4 := hz (ld (basisL p (wideM M)) (n - 1) - n) (by omega)
     rw [show n + (ld (basisL p (wideM M)) (n - 1) - n) = ld (basisL p (wideM M)) (n - 1) by omega, h1, Int.emod_eq_of_lt (by omega) (by omega)] at h4
     omega
/-- The inverse, from both sides. -/
theorem inv_right (hP : isP p = true) (hp : 0 < p) (hn : 0 < n) (hT : Tab p n M) (hl : M.length = n) (h : detL p M ≠ 0) :
    Mt.mk' hp hT hl * Mt.mk' hp (inv_tab hP hT hl) (inv_len hP hT hl) = Mt.one hp := by
 have e := inv_left hP hp hn hT hl ((inv_iff hP hn hT hl).2 h)
 have hs := detL_small (p := p) (by have := isP_ge hP; omega) M
 refine Mt.cancel_r hP hn (x := Mt.mk' hp hT hl) ?_ ?_
 · show detL p M % p ≠ 0
   rw [Int.emod_eq_of_lt hs.1 hs.2]; exact h
 · rw [Mt.mul_assoc, e, Mt.mul_one, Mt.one_mul]
theorem onePl_len (p : Int) (M : List (List Int)) (k : Int) : (onePl p M k).length = M.length := tab_len _ _
theorem onePl_tab (hp : 0 < p) (hT : Tab p n M) (hl : M.length = n) (k : Int) : Tab p n (onePl p M k) := Tab.tab fun i hi => ⟨by rw [plusL_len, unitRow_len, hl], plusL_nums hp _ _ _⟩
theorem onePl_ent (hT : Tab p n M) (hl : M.length = n) (k : Int) {i q : Nat} (hi : i < n) (hq : q < n) : ent (onePl p M k) i q = ((if i = q then 1 else 0) + k * ent M i q) % p := by
 unfold ent onePl
 rw [tab_getD (by omega)]
 unfold plusL
 rw [tab_getD (by rw [unitRow_len]; omega), hl, unitRow_ent hi hq]
theorem plus_mk (hp : 0 < p) (hT : Tab p n M) (hl : M.length = n) : Mt.mk' hp (onePl_tab hp hT hl 1) ((onePl_len p M 1).trans hl) = Mt.plus hp (Mt.mk' hp hT hl) := Mt.same fun i j hi hj => by
 unfold Mt.plus
 rw [Mt.add_at _ _ hi hj, cg_add (Mt.one_at hp hi hj) rfl]
 show ent (onePl p M 1) i j % p = _
 rw [onePl_ent hT hl 1 hi hj, cg_self, Int.one_mul]; rfl
theorem minus_mk (hp : 0 < p) (hT : Tab p n M) (hl : M.length = n) : Mt.mk' hp (onePl_tab hp hT hl (-1)) ((onePl_len p M (-1)).trans hl) = Mt.minus hp (Mt.mk' hp hT hl) := Mt.same fun i j hi hj => by
 unfold Mt.minus
 rw [Mt.add_at _ _ hi hj, cg_add (Mt.one_at hp hi hj) (Mt.sm_at (-1) _ hi hj)]
 show ent (onePl p M (-1)) i j % p = _
 rw [onePl_ent hT hl (-1) hi hj, cg_self]; rfl
/-- What both programs compute: the inverse of 1 + m times 1 - m, and whether there is one. -/
def cayL (p : Int) (M : List (List Int)) : List (List Int) := timesM p (invL p (onePl p M 1)) (onePl p M (-1))
theorem cay_eq (hP : isP p = true) (hp : 0 < p) (hn : 0 < n) (hT : Tab p n M) (hl : M.length = n) (h : detL p (onePl p M 1) ≠ 0) :
    ∃ g : Mt p n, g.l = cayL p M ∧ Mt.plus hp (Mt.mk' hp hT hl) * g = Mt.minus hp (Mt.mk' hp hT hl) := by
 have hT1 := onePl_tab hp hT hl 1
 have hl1 := (onePl_len p M 1).trans hl
 refine ⟨Mt.mk' hp (inv_tab hP hT1 hl1) (inv_len hP hT1 hl1) * Mt.mk' hp (onePl_tab hp hT hl (-1)) ((onePl_len p M (-1)).trans hl), Mt.mul_l _ _ hn, ?_⟩
 rw [← plus_mk hp hT hl, ← minus_mk hp hT hl, ← Mt.mul_assoc, inv_right hP hp hn hT1 hl1 h, Mt.one_mul]
end
end Go.Proofs.YtmkjdpnoloofjaaGreat
namespace Go.Proofs.YtmkjdpnoloofjaaGreat
open Go.RowKit
set_option maxHeartbeats 1600000 in
set_option maxRecDepth 8000 in
theorem isTable_ok (p : Int) (A : Option Addr) (n c : Nat) (M : List (List Int)) (m : Nat) (w : World) (hp0 : 0 < p) (hp1 : p ≤ 13) (hn : n ≤ 16) (hm1 : 1 ≤ m) (hm : m ≤ 16) (ha : RdII w A n M) (hT : Tab p m M) :
    Calls Tryz.prog 158 #[.int .i64 p, .slice A n c] w fun e w' => e = .returned (.bool true) ∧ w = w' := by
 have HT := Lib.hid hT
 have t1 : decide ((16 : Int) < (n : Int)) = false := by simp; omega
 have t2 : decide ((m : Int) < 1) = false := by simp; omega
 have t3 : decide ((16 : Int) < (m : Int)) = false := by simp; omega
 have t4 : ((m : Int) != (m : Int)) = false := by simp
 clear hT
 go_enter Tryz.func158, Tryz.ntmps158
 go_wp2
 go_loopw [12] (fun i wr => ∃ k : Nat, k ≤ n ∧ i = .int .i64 k ∧ wr = w) (fun i _ => n - (intOf i).toNat)
 case atStart => exact ⟨0, by omega, rfl, rfl⟩
 case round =>
  obtain ⟨k, hk, rfl, rfl⟩ := hrel
  by_cases hlt : k < n
  · obtain ⟨g, o, rfl, hxk, A1, c1, hc1, hr1, -⟩ := ha.at_ hlt
    obtain ⟨g0, o0, e0, hx0, A0, c0, hc0, hr0, -⟩ := ha.at_ (show 0 < n by omega)
    cases e0
    obtain ⟨l1, n1⟩ := HT.out M[k] (List.getElem_mem hxk)
    obtain ⟨l0, -⟩ := HT.out M[0] (List.getElem_mem hx0)
    rw [l1] at hc1 hr1
    rw [l0] at hc0
    rw [Nat.add_zero] at hc0
    have his := is_b p A1 m c1 M[k] wr (by omega) (by omega) (by omega) hr1 (List.all_eq_true.2 fun x hx => by have := n1 x hx; simp [inR]; omega)
    clear hr1 hr0 l1 n1 l0 ha
    go_wp2_with fail
    refine his.mono ?_
    rintro e w1 ⟨rfl, rfl⟩
    go_wp2
    go_roundw
    case rel => exact ⟨k + 1, by omega, by go_num, by first | rfl | trivial⟩
    case measure => simp [intOf]; omega
  · go_wp2
    go_ret
    exact ⟨rfl, rfl⟩
set_option maxHeartbeats 800000 in
set_option maxRecDepth 8000 in
theorem isMatrix_ok (p : Int) (A : Option Addr) (n c : Nat) (M : List (List Int)) (m : Nat) (w : World) (hp0 : 0 < p) (hp1 : p ≤ 13) (hn0 : 0 < n) (hn : n ≤ 16) (hm1 : 1 ≤ m) (hm : m ≤ 16) (ha : RdII w A n M) (hT : Tab p m M) :
    Calls Tryz.prog 195 #[.int .i64 p, .slice A n c] w fun e w' => e = .returned (.bool true) ∧ w = w' := by
 have h := isTable_ok p A n c M m w hp0 hp1 hn hm1 hm ha hT
 have t1 : decide ((0 : Int) < (n : Int)) = true := by simp; omega
 clear hT
 go_enter Tryz.func195, Tryz.ntmps195
 go_wp2_with fail
 refine h.mono ?_
 rintro e w1 ⟨rfl, rfl⟩
 go_wp2
 go_ret
 exact ⟨rfl, rfl⟩
def MkO (w0 w : World) (A : Option Addr) (n c : Nat) (xss : List (List Int)) : Prop := ∃ rows, Mk w0 w 24 A n c rows ∧ rows.length = xss.length ∧
 ∀ (k : Nat) (h : k < xss.length), ∃ A' c', rows[k]? = some (.slice A' xss[k].length c') ∧ Own w 0 2 A' xss[k].length c' (ints xss[k])
theorem MkII.o {w0 w : World} {A : Option Addr} {n c : Nat} {xss : List (List Int)} (h : MkII w0 w A n c xss) : MkO w0 w A n c xss := by
 obtain ⟨rows, hm, hn⟩ := h
 exact ⟨rows, hm, hn.len, fun k hk => by obtain ⟨A', c', e, ho⟩ := hn.row k hk; exact ⟨A', c', e, ho.base (Nat.zero_le _)⟩⟩
theorem MkO.rd {w0 w : World} {A : Option Addr} {n c : Nat} {xss : List (List Int)} (h : MkO w0 w A n c xss) : RdII w A n xss := by
 obtain ⟨rows, hm, hl, hk⟩ := h
 exact ⟨rows, hm.rd, hl, fun k hlt => by obtain ⟨A', c', e, ho⟩ := hk k hlt; exact ⟨A', c', e, ho.rd, ho.cap⟩⟩
theorem MkO.b {w0 w : World} {A : Option Addr} {n c : Nat} {xss : List (List Int)} (h : MkO w0 w A n c xss) : Below w0.heap.size w0 w := by
 obtain ⟨_, hm, _⟩ := h; exact hm.1
theorem MkO.below {w0 w w' : World} {A : Option Addr} {n c : Nat} {xss : List (List Int)} (h : MkO w0 w A n c xss) (hb : Below w.heap.size w w') : MkO w0 w' A n c xss := by
 obtain ⟨rows, hm, hl, hk⟩ := h
 exact ⟨rows, hm.below hb, hl, fun k hlt => by obtain ⟨A', c', e, ho⟩ := hk k hlt; exact ⟨A', c', e, ho.below hb⟩⟩
theorem MkO.ne_blk {w0 w : World} {A : Option Addr} {n c g : Nat} {xss : List (List Int)} {t : TypeId} {cs : Array Value} (h : MkO w0 w A n c xss) (hb : Blk w g t cs) (hE : 24 ≠ t) : some g ≠ (Value.slice A n c).ownBlock := by
 obtain ⟨rows, hm, _⟩ := h
 exact hm.2.ne_blk hb hE
/-- A row that lies there is appended. -/
theorem wpList_appRowO {ops : Array Oper} {rest : List Oper} {o : Oper} {a : Act} {Q : Exit → Act → World → Prop} (w0 w1 : World)
    (hgd : o.guard = none) (s x : Operand) (ho : o.op = .call { callee := .builtin .append, args := #[s, x], argTypes := #[27, 27] })
    (A : Option Addr) (n c : Nat) (xss : List (List Int)) (A1 : Option Addr) (m c1 : Nat) (xs : List Int) (hM : MkO w0 w1 A n c xss) (hr : Own w1 0 2 A1 m c1 (ints xs)) (hn : n ≤ 1099511627776)
    (hs : a.eval s = .slice A n c) (hx : a.eval x = .slice (some ⟨w1.heap.size, 0, none⟩) 1 1)
    (h : ∀ A' c' w', MkO w0 w' A' (n + 1) c' (xss ++ [xs]) → w1.grownBy w' (Value.slice A n c).ownBlock → (∃ g, A' = some ⟨g, 0, none⟩ ∧ ((Value.slice A n c).ownBlock = some g ∨ w1.heap.size ≤ g)) → wpList Tryz.prog ops Q rest (a.put o.dst (.slice A' (n + 1) c')) w') :
    wpList Tryz.prog ops Q (o :: rest) a (w1.alloc (.cells #[.slice A1 m c1] 24)) := by
 obtain ⟨rows, hm, hl, hrow⟩ := hM
 have hml : xs.length = m := by have := hr.len; rwa [ints_length] at this
 subst hml
 refine wpList_app1 w0 w1 27 24 (.slice none 0 0) 24 Tryz.underlying27 info_s rfl (by omega) hgd s x ho A n c rows (.slice A1 xs.length c1) hm hn rfl hs hx ?_
 intro A' c' w' hM' hg hat
 refine h A' c' w' ⟨_, hM', by simp [hl], fun k hk => ?_⟩ hg hat
 by_cases hlt : k < xss.length
 · obtain ⟨A2, c2, e, ho2⟩ := hrow k hlt
   simp only [List.getElem_append_left hlt]
   exact ⟨A2, c2, by rw [List.getElem?_append_left (by omega)]; exact e, ho2.grown hg (ho2.ne hm.2 (by decide))⟩
 · have hk' : k = xss.length := by simp at hk; omega
   subst hk'
   simp only [List.getElem_append_right (Nat.le_refl _), Nat.sub_self, List.getElem_cons_zero]
   exact ⟨A1, c1, by rw [List.getElem?_append_right (by omega), hl, Nat.sub_self]; rfl, hr.grown hg (hr.ne hm.2 (by decide))⟩
end Go.Proofs.YtmkjdpnoloofjaaGreat
namespace Go.Proofs.YtmkjdpnoloofjaaGreat
theorem zeroL_iff (xs : List Int) : zeroL xs = true ↔ ∀ y ∈ xs, y = 0 := by
 unfold zeroL
 rw [beq_iff_eq]
 constructor
 · intro h y hy
   obtain ⟨i, hi, rfl⟩ := List.getElem_of_mem hy
   have := leadL_before xs i (by omega)
   rwa [getD_of_lt 0 hi] at this
 · intro h
   refine Classical.byContradiction fun hne => ?_
   have hlt : leadL xs < xs.length := by have := leadL_le xs; omega
   exact leadL_at xs hlt (h _ (getD_mem 0 hlt))
section
variable {p : Int} {n : Nat}
end
section
variable {P : Int} {sq xs v : List Int}
end
end Go.Proofs.YtmkjdpnoloofjaaGreat
namespace Go.Proofs.YtmkjdpnoloofjaaGreat
open Go.RowKit
def CK (w w' : World) : Prop := ∀ b i u, w.cell? ⟨b, i, none⟩ = some u → w'.cell? ⟨b, i, none⟩ = some u
theorem CK.refl (w : World) : CK w w := fun _ _ _ h => h
theorem Rd.ck {w w' : World} {A : Option Addr} {n : Nat} {us : List Value} (h : Rd w A n us) (k : CK w w') : Rd w' A n us := ⟨h.1, fun hn => by
 obtain ⟨g, o, e, hc⟩ := h.2 hn
 exact ⟨g, o, e, fun j u hu => k _ _ _ (hc j u hu)⟩⟩
theorem RdII.ck {w w' : World} {A : Option Addr} {n : Nat} {xss : List (List Int)} (h : RdII w A n xss) (k : CK w w') : RdII w' A n xss := by
 obtain ⟨rows, hr, hl, hk⟩ := h
 exact ⟨rows, hr.ck k, hl, fun j hj => by obtain ⟨A', c', e, h1, h2⟩ := hk j hj; exact ⟨A', c', e, h1.ck k, h2⟩⟩
theorem Rd.cut {w : World} {A : Option Addr} {n k : Nat} {us : List Value} (h : Rd w A n us) (hk : k ≤ n) : Rd w A k (us.take k) := ⟨by rw [List.length_take, h.1]; omega, fun hn => by
 obtain ⟨g, o, e, hc⟩ := h.2 (by omega)
 exact ⟨g, o, e, fun j u hu => hc j u (by
  rw [List.getElem?_take] at hu
  split at hu
  · exact hu
  · cases hu)⟩⟩
/-- A row that grows; it began as the empty block g; what lay in w is as it was. -/
def Grows (w wr : World) (g : Nat) (v : Value) : Prop := CK w wr ∧ w.heap.size ≤ wr.heap.size ∧ ∀ gb, v.ownBlock = some gb → gb = g ∨ w.heap.size ≤ gb
theorem Grows.step {w wr v1 w' : World} {g : Nat} {T : TypeId} {A A' : Option Addr} {n c n' c' : Nat} (h : Grows w wr g (.slice A n c)) (he : Blk w g T #[]) (hb : Below wr.heap.size wr v1) (hg : v1.grownBy w' (Value.slice A n c).ownBlock)
    (hat : ∃ g', A' = some ⟨g', 0, none⟩ ∧ ((Value.slice A n c).ownBlock = some g' ∨ v1.heap.size ≤ g')) : Grows w w' g (.slice A' n' c') := by
 obtain ⟨h1, h2, h3⟩ := h
 refine ⟨fun b i u hu => ?_, by have := hb.size; have := hg.size; omega, fun gb hgb => ?_⟩
 · refine hg.cell ((hb.cell (World.block_lt_of_cell? _ _ (h1 b i u hu))).trans (h1 b i u hu)) fun e => ?_
   rcases h3 b e.symm with rfl | hge
   · rw [he.cell] at hu; simp at hu
   · have hlt : b < w.heap.size := World.block_lt_of_cell? _ _ hu
     omega
 · obtain ⟨g', rfl, hor⟩ := hat
   simp only [Value.ownBlock, Option.some.injEq] at hgb
   subst hgb
   rcases hor with hor | hor
   · exact h3 _ hor
   · right; have := hb.size; omega
theorem ints_take (xs : List Int) (k : Nat) : (ints xs).take k = ints (xs.take k) := by unfold ints; rw [List.map_take]
end Go.Proofs.YtmkjdpnoloofjaaGreat
namespace Go.Proofs.YtmkjdpnoloofjaaGreat
section
variable {P : Int} {sq : List Int}
theorem regB_at {sq : List Int} {x : Int} (h : regB sq = true) (hx : x ∈ sq) : x ≠ 0 := fun e => by
 subst e
 unfold regB at h
 simp only [Bool.not_eq_true', List.contains_eq_mem, decide_eq_false_iff_not] at h
 exact h hx
end
/-- Is it a square matrix with n rows of numbers? -/
def frB (P : Int) (n : Nat) (M : List (List Int)) : Bool := M.length == n && M.all fun r => r.length == n && nums P r
theorem frB_iff {P : Int} {n : Nat} {M : List (List Int)} : frB P n M = true ↔ M.length = n ∧ Tab P n M := by
 unfold frB
 rw [Bool.and_eq_true, beq_iff_eq, List.all_eq_true]
 refine and_congr Iff.rfl ⟨fun h x hx => ?_, fun h x hx => ?_⟩
 · have := h x hx
   rw [Bool.and_eq_true, beq_iff_eq] at this
   exact ⟨this.1, nums_numsL this.2⟩
 · obtain ⟨h1, h2⟩ := h x hx
   rw [Bool.and_eq_true, beq_iff_eq]
   exact ⟨h1, List.all_eq_true.2 fun y hy => by have := h2 y hy; simp [inR]; omega⟩
/-- The code of a space and a matrix. -/
def codeF (P : Int) (sq : List Int) (M : List (List Int)) : Int := if isSp P sq then (if frB P sq.length M then (if regB sq then 0 else 5) else 2) else 1
def skewB (P : Int) (sq : List Int) (M : List (List Int)) : Bool := decide (∀ i, i < sq.length → ∀ k, k < sq.length → (sq.getD k 0 * ent M k i + sq.getD i 0 * ent M i k) % P = 0)
def isoB (P : Int) (sq : List Int) (M : List (List Int)) : Bool := frB P sq.length M && (decide (detL P M ≠ 0) && decide (∀ i, i < sq.length → ∀ k, k < sq.length → pairL P sq ((transL M).getD i []) ((transL M).getD k []) = if i = k then sq.getD i 0 else 0))
def cofR (P : Int) (sq : List Int) (M : List (List Int)) : List (List Int) × Int := if codeF P sq M = 0 then (if skewB P sq M && decide (detL P (onePl P M 1) ≠ 0) then (cayL P M, 0) else ([], 5)) else ([], codeF P sq M)
def cobR (P : Int) (sq : List Int) (M : List (List Int)) : List (List Int) × Int := if codeF P sq M = 0 then (if isoB P sq M && decide (detL P (onePl P M 1) ≠ 0) then (cayL P M, 0) else ([], 5)) else ([], codeF P sq M)
theorem codeF_zero {P : Int} {sq : List Int} {M : List (List Int)} (h : codeF P sq M = 0) : isSp P sq = true ∧ regB sq = true ∧ M.length = sq.length ∧ Tab P sq.length M := by
 unfold codeF at h
 by_cases h1 : isSp P sq = true
 · rw [if_pos h1] at h
   by_cases h2 : frB P sq.length M = true
   · rw [if_pos h2] at h
     by_cases h3 : regB sq = true
     · exact ⟨h1, h3, frB_iff.1 h2⟩
     · rw [if_neg h3] at h; omega
   · rw [if_neg h2] at h; omega
 · rw [if_neg h1] at h; omega
theorem codeF_mk {P : Int} {sq : List Int} {M : List (List Int)} (h1 : isSp P sq = true) (h2 : regB sq = true) (h3 : M.length = sq.length) (h4 : Tab P sq.length M) : codeF P sq M = 0 := by
 unfold codeF
 rw [if_pos h1, if_pos (frB_iff.2 ⟨h3, h4⟩), if_pos h2]
section
variable {p : Int} {sq : List Int} {M : List (List Int)}
/-- The squares as a matrix. -/
def Wm (hp : 0 < p) (sq : List Int) : Mt p sq.length := Mt.of hp fun i j => if i = j then sq.getD i 0 else 0
theorem Wm_at (hp : 0 < p) {i j : Nat} (hi : i < sq.length) (hj : j < sq.length) : (Wm hp sq).at i j % p = (if i = j then sq.getD i 0 else 0) % p := Mt.of_cg hp (fun i j => if i = j then sq.getD i 0 else 0) hi hj
theorem Wm_tr (hp : 0 < p) : (Wm hp sq).tr = Wm hp sq := Mt.same fun i j hi hj => by
 rw [Mt.tr_at _ hi hj, Wm_at hp hj hi, Wm_at hp hi hj]
 by_cases h : i = j
 · subst h; rfl
 · rw [if_neg h, if_neg fun e => h e.symm]
theorem Wm_mul (hp : 0 < p) (x : Mt p sq.length) {i j : Nat} (hi : i < sq.length) (hj : j < sq.length) : (Wm hp sq * x).at i j % p = (sq.getD i 0 * x.at i j) % p := by
 rw [Mt.mul_at _ _ hi hj]
 have h : (sumTo sq.length fun k => (Wm hp sq).at i k * x.at k j) % p = (sumTo sq.length fun k => (if i = k then sq.getD i 0 else 0) * x.at k j) % p := sumTo_mod p fun k hk => cg_mul (Wm_at hp hi hk) rfl
 rw [h, sumTo_one i hi fun k _ hne => by rw [if_neg fun e => hne e.symm, Int.zero_mul], if_pos rfl]
theorem mul_Wm (hp : 0 < p) (x : Mt p sq.length) {i j : Nat} (hi : i < sq.length) (hj : j < sq.length) : (x * Wm hp sq).at i j % p = (x.at i j * sq.getD j 0) % p := by
 rw [Mt.mul_at _ _ hi hj]
 have h : (sumTo sq.length fun k => x.at i k * (Wm hp sq).at k j) % p = (sumTo sq.length fun k => x.at i k * (if k = j then sq.getD k 0 else 0)) % p := sumTo_mod p fun k hk => cg_mul rfl (Wm_at hp hk hj)
 rw [h, sumTo_one j hj fun k _ hne => by rw [if_neg hne, Int.mul_zero], if_pos rfl]
theorem Wm_det (hP : isP p = true) (hp : 0 < p) (hn : 0 < sq.length) (hs : NumsL p sq) (hr : regB sq = true) : (Wm hp sq).det % p ≠ 0 := by
 have h3 := isP_ge hP
 have e : Wm hp sq * (Mt.of hp fun i j => if i = j then invF p (sq.getD i 0) else 0) = Mt.one hp := Mt.same fun i j hi hj => by
  rw [Wm_mul hp _ hi hj, Mt.one_at hp hi hj, cg_mul rfl (Mt.of_cg hp (fun i j => if i = j then invF p (sq.getD i 0) else 0) hi hj)]
  by_cases h : i = j
  · subst h
    rw [if_pos rfl, if_pos rfl, inv_one hP (hs.getD hp i) (regB_at hr (getD_mem 0 hi))]
  · rw [if_neg h, if_neg h, Int.mul_zero]
 intro h0
 have h1 := Mt.det_mul hP hn (Wm hp sq) (Mt.of hp fun i j => if i = j then invF p (sq.getD i 0) else 0)
 rw [e, Mt.det_one hP, Int.mul_emod, h0, Int.zero_mul, Int.zero_emod, Int.emod_eq_of_lt (by omega) (by omega)] at h1
 omega
theorem skew_iff (hp : 0 < p) (hT : Tab p sq.length M) (hl : M.length = sq.length) : skewB p sq M = true ↔ Wm hp sq * Mt.mk' hp hT hl = (-1 : Int) * ((Mt.mk' hp hT hl).tr * Wm hp sq) := by
 unfold skewB
 rw [decide_eq_true_iff]
 have key : ∀ {i k : Nat} (hi : i < sq.length) (hk : k < sq.length), (Wm hp sq * Mt.mk' hp hT hl).at k i % p = (sq.getD k 0 * ent M k i) % p ∧ ((-1 : Int) * ((Mt.mk' hp hT hl).tr * Wm hp sq)).at k i % p = (-(sq.getD i 0 * ent M i k)) % p := fun {i k} hi hk => by
  refine ⟨Wm_mul hp _ hk hi, ?_⟩
  rw [Mt.sm_at _ _ hk hi, cg_mul rfl (mul_Wm hp _ hk hi), ← Int.mul_assoc, cg_mul (cg_mul rfl (Mt.tr_at _ hk hi)) rfl]
  congr 1
  show -1 * ent M i k * sq.getD i 0 = _
  grind
 constructor
 · intro h
   refine Mt.same fun k i hk hi => ?_
   obtain ⟨e1, e2⟩ := key hi hk
   rw [e1, e2]
   obtain ⟨t, ht⟩ := cg_wit.1 ((h i hi k hk).trans (Int.zero_emod p).symm)
   exact cg_wit.2 ⟨t, by omega⟩
 · intro h i hi k hk
   obtain ⟨e1, e2⟩ := key hi hk
   rw [h, e2] at e1
   obtain ⟨t, ht⟩ := cg_wit.1 e1
   exact (cg_wit.2 ⟨-t, by grind⟩).trans (Int.zero_emod p)
theorem trans_row (hp : 0 < p) (hT : Tab p sq.length M) (hl : M.length = sq.length) {i : Nat} (hi : i < sq.length) : ((transL M).getD i []).length = sq.length ∧ NumsL p ((transL M).getD i []) := by
 obtain ⟨t1, t2⟩ := trans_ok hp hT hl (by omega)
 exact t1.row (by omega)
theorem pairL_range (hp : 0 < p) (v u : List Int) : 0 ≤ pairL p sq v u ∧ pairL p sq v u < p := by
 unfold pairL dotL
 exact ⟨Int.emod_nonneg _ (by omega), Int.emod_lt_of_pos _ hp⟩
theorem pair_cols (hp : 0 < p) (hT : Tab p sq.length M) (hl : M.length = sq.length) {i k : Nat} (hi : i < sq.length) (hk : k < sq.length) :
    pairL p sq ((transL M).getD i []) ((transL M).getD k []) % p = ((Mt.mk' hp hT hl).tr * Wm hp sq * Mt.mk' hp hT hl).at i k % p := by
 rw [pairL_bil (trans_row hp hT hl hi).1, Mt.mul_at _ _ hi hk]
 unfold bil
 refine sumTo_mod p fun r hr => ?_
 rw [cg_mul ((mul_Wm hp _ hi hr).trans (cg_mul (Mt.tr_at _ hi hr) rfl)) rfl]
 have e1 : ((transL M).getD i []).getD r 0 = ent M r i := trans_at hT hl (by omega) hi hr
 have e2 : ((transL M).getD k []).getD r 0 = ent M r k := trans_at hT hl (by omega) hk hr
 rw [e1, e2]
 show _ = (ent M r i * sq.getD r 0 * ent M r k) % p
 congr 1; grind
theorem iso_iff (hp : 0 < p) (hs : NumsL p sq) (hT : Tab p sq.length M) (hl : M.length = sq.length) : isoB p sq M = true ↔ detL p M ≠ 0 ∧ (Mt.mk' hp hT hl).tr * Wm hp sq * Mt.mk' hp hT hl = Wm hp sq := by
 unfold isoB
 rw [frB_iff.2 ⟨hl, hT⟩, Bool.true_and, Bool.and_eq_true, decide_eq_true_iff, decide_eq_true_iff]
 refine and_congr Iff.rfl ⟨fun h => Mt.same fun i k hi hk => ?_, fun h i hi k hk => ?_⟩
 · rw [← pair_cols hp hT hl hi hk, h i hi k hk, Wm_at hp hi hk]
 · have e := pair_cols hp hT hl hi hk
   rw [h, Wm_at hp hi hk] at e
   refine cg_eq (pairL_range hp _ _) ?_ e
   split
   · exact hs.getD hp i
   · omega
/-- Both directions of the law. -/
theorem cof_law {G : List (List Int)} (hc : codeF p sq M = 0) (hG : cofR p sq M = (G, 0)) : G.length = sq.length ∧ Tab p sq.length G ∧ isoB p sq G = true ∧ detL p G = 1 ∧ cobR p sq G = (M, 0) := by
 obtain ⟨hsp, hrg, hl, hT⟩ := codeF_zero hc
 obtain ⟨hP, hd1, hd2, hnum⟩ := isSp_dim hsp
 have h3 := isP_ge hP
 have hp : 0 < p := by omega
 have hs := nums_numsL hnum
 unfold cofR at hG
 rw [if_pos hc] at hG
 by_cases h : (skewB p sq M && decide (detL p (onePl p M 1) ≠ 0)) = true
 · rw [if_pos h] at hG
   rw [Bool.and_eq_true, decide_eq_true_iff] at h
   obtain ⟨h1, h2⟩ := h
   obtain ⟨g, e1, e2⟩ := cay_eq hP hp hd1 hT hl h2
   obtain rfl : G = g.l := by rw [e1]; exact (Prod.mk.inj hG).1.symm
   have hD : (Mt.plus hp (Mt.mk' hp hT hl)).det % p ≠ 0 := by
    rw [← plus_mk hp hT hl]
    show detL p (onePl p M 1) % p ≠ 0
    have := detL_small (p := p) (by omega) (onePl p M 1)
    rw [Int.emod_eq_of_lt this.1 this.2]; exact h2
   obtain ⟨c1, c2, c3, c4⟩ := cay_skew hP hp hd1 (Wm_tr hp) (Wm_det hP hp hd1 hs hrg) ((skew_iff hp hT hl).1 h1) hD e2
   have hiso : isoB p sq g.l = true := (iso_iff hp hs g.tab g.len).2 ⟨by show g.det ≠ 0; omega, c1⟩
   have hd' : detL p (onePl p g.l 1) ≠ 0 := fun e => c3 (by
    have e9 : Mt.plus hp g = Mt.mk' hp (onePl_tab hp g.tab g.len 1) ((onePl_len p g.l 1).trans g.len) := (plus_mk hp g.tab g.len).symm
    rw [e9]
    show detL p (onePl p g.l 1) % p = 0
    rw [e, Int.zero_emod])
   refine ⟨g.len, g.tab, hiso, c2, ?_⟩
   unfold cobR
   rw [if_pos (codeF_mk hsp hrg g.len g.tab), if_pos (by rw [hiso, Bool.true_and, decide_eq_true_iff]; exact hd')]
   obtain ⟨k, k1, k2⟩ := cay_eq hP hp hd1 g.tab g.len hd'
   have e5 : k = Mt.mk' hp hT hl := Mt.cancel_l hP hd1 c3 (k2.trans c4.symm)
   rw [← k1, e5]; rfl
 · rw [if_neg h] at hG
   exact absurd (Prod.mk.inj hG).2 (by omega)
theorem cofR_bad (h : codeF p sq M ≠ 0) : cofR p sq M = ([], codeF p sq M) := by unfold cofR; rw [if_neg h]
end
section
variable {p : Int} {n : Nat}
/-- A unit matrix with another row at a place. -/
theorem Alt.row {hp : 0 < p} {F : List (List Int) → Cl p (zs n)} (A : Alt hp F) (h2 : 2 ≤ p) {k : Nat} (hk : k < n) {r : List Int} (hr : r.length = n) (hrn : NumsL p r) : F ((unitM n).set k r) = r.getD k 0 * F (unitM n) := by
 have hul : (unitM n).length = n := unitM_len n
 have hv : ∀ j, j ≤ n → F ((unitM n).set k (tab n fun i => if i < j ∧ i ≠ k then 0 else r.getD i 0)) = F ((unitM n).set k r) := by
  intro j
  induction j with
  | zero =>
   intro _
   congr 2
   refine list_ext_getD 0 (by rw [tab_len, hr]) fun i hi => ?_
   rw [tab_len] at hi
   rw [tab_getD hi, if_neg (by omega)]
  | succ j ih =>
   intro hj
   rw [← ih (by omega)]
   by_cases e : j = k
   · congr 2
     refine tab_congr fun i hi => ?_
     have : (i < j + 1 ∧ i ≠ k) ↔ (i < j ∧ i ≠ k) := by omega
     simp only [this]
   · obtain ⟨v, hv⟩ : ∃ v, v = tab n fun i => if i < j ∧ i ≠ k then 0 else r.getD i 0 := ⟨_, rfl⟩
     have hvl : v.length = n := by rw [hv, tab_len]
     have hvn : NumsL p v := by
      rw [hv]
      refine NumsL.tab fun i hi => ?_
      split
      · omega
      · exact hrn.getD (by omega) i
     rw [← hv]
     have h1 := A.plus ((unitM n).set k v) ((unitM_tab h2 n).set k ⟨hvl, hvn⟩) (by rw [List.length_set, hul]) k j (-(r.getD j 0)) hk (by omega) (Ne.symm e)
     rw [← h1, List.set_set, getD_set, if_pos ⟨rfl, by omega⟩, getD_set, if_neg (by omega), unitM_getD (show j < n by omega)]
     congr 2
     refine list_ext_getD 0 (by rw [tab_len, plusL_len, hvl]) fun i hi => ?_
     rw [tab_len] at hi
     rw [tab_getD hi, plusL_getD _ _ (by omega), hv, tab_getD hi, unitRow_ent (by omega) hi]
     have hb := hrn.getD (p := p) (by omega) i
     by_cases hij : j = i
     · subst hij
       rw [if_pos ⟨by omega, e⟩, if_neg (by omega), if_pos rfl, show r.getD j 0 + -(r.getD j 0) * 1 = 0 by omega, Int.zero_emod]
     · rw [if_neg hij, Int.mul_zero, Int.add_zero]
       by_cases h9 : i < j ∧ i ≠ k
       · rw [if_pos ⟨by omega, h9.2⟩, if_pos h9, Int.zero_emod]
       · rw [if_neg (by omega), if_neg h9, Int.emod_eq_of_lt hb.1 hb.2]
 have h1 := hv n (Nat.le_refl n)
 have e : (tab n fun i => if i < n ∧ i ≠ k then 0 else r.getD i 0) = scaleL p ((unitM n).getD k []) (r.getD k 0) := by
  rw [unitM_getD hk]
  refine list_ext_getD 0 (by rw [tab_len, scaleL_len, unitRow_len]) fun i hi => ?_
  rw [tab_len] at hi
  rw [tab_getD hi, scaleL_getD _ (by rw [unitRow_len]; exact hi), unitRow_ent hk hi]
  have hb := hrn.getD (p := p) (by omega) k
  by_cases hik : k = i
  · subst hik
    rw [if_neg (by omega), if_pos rfl, Int.one_mul, Int.emod_eq_of_lt hb.1 hb.2]
  · rw [if_pos ⟨hi, fun e => hik e.symm⟩, if_neg hik, Int.zero_mul, Int.zero_emod]
 rw [← h1, e, A.scale _ (unitM_tab h2 n) hul k _ hk]
theorem det_row (hP : isP p = true) {k : Nat} (hk : k < n) {r : List Int} (hr : r.length = n) (hrn : NumsL p r) : detL p ((unitM n).set k r) = r.getD k 0 := by
 have h3 := isP_ge hP
 have hp : 0 < p := by omega
 have hT : Tab p n ((unitM n).set k r) := (unitM_tab (by omega) n).set k ⟨hr, hrn⟩
 have hl : ((unitM n).set k r).length = n := by rw [List.length_set, unitM_len]
 have h1 := (Alt.prod hp hP).row (by omega) hk hr hrn
 have h2 : (Cl.prod hp ((unitM n).set k r) : Cl p (zs n)) = detL p ((unitM n).set k r) * Cl.prod hp (unitM n) := prod_det hp hP hT hl
 have h4 := det_uniq hp (by omega) (h2.symm.trans h1)
 have b1 := detL_small (p := p) (by omega) ((unitM n).set k r)
 have b2 := hrn.getD hp k
 rwa [Int.emod_eq_of_lt b1.1 b1.2, Int.emod_eq_of_lt b2.1 b2.2] at h4
end
section
variable {p : Int} {sq : List Int}
/-- A column. -/
def Mt.col {n : Nat} (x : Mt p n) (i : Nat) : List Int := (transL x.l).getD i []
theorem Mt.col_ok {n : Nat} (x : Mt p n) {i : Nat} (hi : i < n) : (x.col i).length = n ∧ NumsL p (x.col i) := by
 obtain ⟨h1, h2⟩ := trans_ok x.pos x.tab x.len (by omega)
 exact h1.row (by omega)
theorem Mt.col_at {n : Nat} (x : Mt p n) {i j : Nat} (hi : i < n) (hj : j < n) : (x.col i).getD j 0 = x.at j i := trans_at x.tab x.len (by omega) hi hj
theorem Mt.ext_col {n : Nat} {x y : Mt p n} (h : ∀ i, i < n → x.col i = y.col i) : x = y := Mt.same fun i j hi hj => by
 rw [← Mt.col_at x hj hi, ← Mt.col_at y hj hi, h j hj]
theorem Mt.one_col {n : Nat} (hp : 2 ≤ p) {i : Nat} (hi : i < n) : (Mt.one (by omega) : Mt p n).col i = unitRow n i := by
 have hok := Mt.col_ok (Mt.one (p := p) (n := n) (by omega)) hi
 refine list_ext_getD 0 (by rw [hok.1, unitRow_len]) fun j hj => ?_
 rw [hok.1] at hj
 rw [Mt.col_at _ hi hj, unitRow_ent hi hj]
 refine cg_eq (Mt.small _ _ _) ?_ ?_
 · split <;> omega
 · rw [Mt.one_at (by omega) hj hi]
   by_cases h : i = j
   · subst h; rfl
   · rw [if_neg h, if_neg fun e => h e.symm]
/-- The matrix of a reflection. -/
def Mt.refl (hp : 2 ≤ p) (h0 : 0 < sq.length) (u : List Int) : Mt p sq.length := ⟨rmatL p sq sq.length u, rmatL_len hp sq h0 u, rmatL_tab hp sq sq.length u, by omega⟩
theorem Mt.refl_col (hp : 2 ≤ p) (h0 : 0 < sq.length) (u : List Int) {i : Nat} (hi : i < sq.length) : (Mt.refl hp h0 u).col i = rflL p sq u (unitRow sq.length i) := by
 have hok := Mt.col_ok (Mt.refl hp h0 u) hi
 refine list_ext_getD 0 (by rw [hok.1, rflL_len, unitRow_len]) fun j hj => ?_
 rw [hok.1] at hj
 rw [Mt.col_at _ hi hj]
 show ent (rmatL p sq sq.length u) j i = _
 unfold rmatL
 rw [trans_at (rcolsL_tab hp sq sq.length u) (rcolsL_len _ _ _ _) h0 hj hi]
 unfold ent rcolsL
 rw [tab_getD hi]
theorem bil_urow {u : List Int} {i : Nat} (hi : i < sq.length) : bil sq u (unitRow sq.length i) = u.getD i 0 * sq.getD i 0 := by
 unfold bil
 rw [sumTo_one i hi fun k hk hne => by rw [unitRow_ent hi hk, if_neg (fun e => hne e.symm), Int.mul_zero, Int.zero_mul], unitRow_ent hi hi, if_pos rfl, Int.mul_one]
theorem Mt.refl_at (hP : isP p = true) (hp : 2 ≤ p) (h0 : 0 < sq.length) {u : List Int} (hu : u.length = sq.length) {i j : Nat} (hi : i < sq.length) (hj : j < sq.length) :
    (Mt.refl hp h0 u).at i j % p = ((if i = j then 1 else 0) + -(2 * (u.getD j 0 * sq.getD j 0) * invF p (bil sq u u % p)) * u.getD i 0) % p := by
 rw [← Mt.col_at _ hj hi, Mt.refl_col hp h0 u hj, rflL_reflF hP hu]
 unfold reflF
 rw [plusL_getD _ _ (by rw [unitRow_len]; exact hi), cg_self, bil_urow hj, unitRow_ent hj hi]
 by_cases h : i = j
 · subst h; rfl
 · rw [if_neg h, if_neg fun e => h e.symm]
/-- A reflection's matrix times another one: its columns reflected. -/
theorem Mt.refl_mul (hP : isP p = true) (hp : 2 ≤ p) (h0 : 0 < sq.length) {u : List Int} (hu : u.length = sq.length) (x : Mt p sq.length) {j : Nat} (hj : j < sq.length) : (Mt.refl hp h0 u * x).col j = reflF p sq u (x.col j) := by
 have hok := Mt.col_ok (Mt.refl hp h0 u * x) hj
 have hox := Mt.col_ok x hj
 refine list_ext_getD 0 (by rw [hok.1, reflF_len, hox.1]) fun i hi => ?_
 rw [hok.1] at hi
 rw [Mt.col_at _ hj hi]
 have hn := reflF_nums (sq := sq) (show 0 < p by omega) u (x.col j)
 refine cg_eq (Mt.small _ _ _) (hn.getD (by omega) i) ?_
 unfold reflF
 rw [plusL_getD _ _ (by omega), cg_self, Mt.mul_at _ _ hi hj, Mt.col_at x hj hi]
 obtain ⟨v, hv⟩ : ∃ v, v = invF p (bil sq u u % p) := ⟨_, rfl⟩
 rw [← hv]
 have e1 : (sumTo sq.length fun q => (Mt.refl hp h0 u).at i q * x.at q j) % p = (sumTo sq.length fun q => (if i = q then x.at q j else 0) + (-(2 * v) * u.getD i 0) * (u.getD q 0 * (x.col j).getD q 0 * sq.getD q 0)) % p := sumTo_mod p fun q hq => by
  refine (cg_mul (Mt.refl_at hP hp h0 hu hi hq) rfl).trans ?_
  rw [← hv, Mt.col_at x hj hq]
  congr 1
  by_cases h : i = q
  · subst h; rw [if_pos rfl, if_pos rfl]; grind
  · rw [if_neg h, if_neg h]; grind
 rw [e1, sumTo_add, sumTo_mul, sumTo_one i hi fun q _ hne => by rw [if_neg fun e => hne e.symm], if_pos rfl]
 congr 1
 unfold bil
 obtain ⟨S, hS⟩ : ∃ S, S = sumTo sq.length fun i => u.getD i 0 * (x.col j).getD i 0 * sq.getD i 0 := ⟨_, rfl⟩
 rw [← hS]
 grind
/-- Twice the same reflection. -/
theorem Mt.refl_two (hP : isP p = true) (hp : 2 ≤ p) (h0 : 0 < sq.length) {u : List Int} (hu : u.length = sq.length) (hne : bil sq u u % p ≠ 0) : Mt.refl hp h0 u * Mt.refl hp h0 u = Mt.one (by omega) := Mt.ext_col fun i hi => by
 rw [Mt.refl_mul hP hp h0 hu _ hi, Mt.refl_col hp h0 u hi, rflL_reflF hP hu, refl_refl hP (unitRow_len _ _) (unitRow_nums hp _ _) hne, Mt.one_col hp hi]
/-- Its determinant. -/
theorem Mt.refl_det (hP : isP p = true) (hp : 2 ≤ p) (h0 : 0 < sq.length) {u : List Int} (hu : u.length = sq.length) (hun : NumsL p u) (hne : bil sq u u % p ≠ 0) : (Mt.refl hp h0 u).det % p = (-1) % p := by
 have h3 := isP_ge hP
 have hp0 : 0 < p := by omega
 -- a place with a number other than 0
 obtain ⟨k, hk, hk0⟩ : ∃ k, k < sq.length ∧ u.getD k 0 ≠ 0 := Classical.byContradiction fun h => hne (by
  unfold bil
  rw [sumTo_zero fun i hi => ?_, Int.zero_emod]
  have : u.getD i 0 = 0 := Classical.byContradiction fun h9 => h ⟨i, hi, h9⟩
  rw [this, Int.zero_mul, Int.zero_mul])
 obtain ⟨v, hv⟩ : ∃ v, v = invF p (bil sq u u % p) := ⟨_, rfl⟩
 obtain ⟨a, ha⟩ : ∃ a : Nat → Int, a = fun j => 2 * (u.getD j 0 * sq.getD j 0) * v := ⟨_, rfl⟩
 have hul : (unitM sq.length).length = sq.length := unitM_len _
 obtain ⟨b, hb⟩ : ∃ b, b = Go.Proofs.YtmkjdpnoloofjaaGreat.tab sq.length fun j => (if j = k then -1 else -a j) % p := ⟨_, rfl⟩
 have hbl : b.length = sq.length := by rw [hb, tab_len]
 have hbn : NumsL p b := by rw [hb]; exact NumsL.tab fun i _ => ⟨Int.emod_nonneg _ (by omega), Int.emod_lt_of_pos _ hp0⟩
 have hTA : Tab p sq.length ((unitM sq.length).set k u) := (unitM_tab hp _).set k ⟨hu, hun⟩
 have hTB : Tab p sq.length ((unitM sq.length).set k b) := (unitM_tab hp _).set k ⟨hbl, hbn⟩
 have hlA : ((unitM sq.length).set k u).length = sq.length := by rw [List.length_set, hul]
 have hlB : ((unitM sq.length).set k b).length = sq.length := by rw [List.length_set, hul]
 obtain ⟨X, hX⟩ : ∃ X : Mt p sq.length, X = Mt.mk' hp0 hTA hlA := ⟨_, rfl⟩
 obtain ⟨Y, hY⟩ : ∃ Y : Mt p sq.length, Y = Mt.mk' hp0 hTB hlB := ⟨_, rfl⟩
 have entS : ∀ (r : List Int) (i j : Nat), i < sq.length → j < sq.length → ent ((unitM sq.length).set k r) i j = if i = k then r.getD j 0 else if i = j then 1 else 0 := fun r i j hi hj => by
  unfold ent
  rw [getD_set]
  by_cases h : k = i
  · rw [if_pos ⟨h, by omega⟩, if_pos h.symm]
  · rw [if_neg fun e => h e.1, if_neg fun e => h e.symm, unitM_getD hi, unitRow_ent hi hj]
 have hXa : ∀ {i j : Nat}, i < sq.length → j < sq.length → X.tr.at i j % p = (if j = k then u.getD i 0 else if i = j then 1 else 0) % p := fun {i j} hi hj => by
  rw [Mt.tr_at _ hi hj, hX]
  show ent ((unitM sq.length).set k u) j i % p = _
  rw [entS u j i hj hi]
  by_cases h : j = k
  · rw [if_pos h, if_pos h]
  · rw [if_neg h, if_neg h]
    by_cases h9 : j = i
    · subst h9; rfl
    · rw [if_neg h9, if_neg fun e => h9 e.symm]
 have hYa : ∀ {i j : Nat}, i < sq.length → j < sq.length → Y.at i j % p = (if i = k then (if j = k then -1 else -a j) else if i = j then 1 else 0) % p := fun {i j} hi hj => by
  rw [hY]
  show ent ((unitM sq.length).set k b) i j % p = _
  rw [entS b i j hi hj]
  by_cases h : i = k
  · rw [if_pos h, if_pos h, hb, tab_getD hj, cg_self]
  · rw [if_neg h, if_neg h]
 have hRa : ∀ {i j : Nat}, i < sq.length → j < sq.length → (Mt.refl hp h0 u).at i j % p = ((if i = j then 1 else 0) + -(a j) * u.getD i 0) % p := fun {i j} hi hj => by
  rw [Mt.refl_at hP hp h0 hu hi hj, ha, hv]
 have hNv : bil sq u u * v % p = 1 % p := by rw [hv, inv_mod hP hne, Int.emod_eq_of_lt (by omega) (by omega)]
 have key : Mt.refl hp h0 u * X.tr = X.tr * Y := Mt.same fun i j hi hj => by
  rw [Mt.mul_at _ _ hi hj, Mt.mul_at _ _ hi hj]
  have e2 : (sumTo sq.length fun q => X.tr.at i q * Y.at q j) % p = (sumTo sq.length fun q => (if q = k then u.getD i 0 * (if j = k then -1 else -a j) else 0) + (if q = i then (if i = j ∧ i ≠ k then 1 else 0) else 0)) % p := sumTo_mod p fun q hq => by
   refine (cg_mul (hXa hi hq) (hYa hq hj)).trans ?_
   congr 1
   by_cases h1 : q = k
   · rw [if_pos h1, if_pos h1, if_pos h1]
     by_cases h2 : q = i
     · rw [if_pos h2, if_neg (show ¬ (i = j ∧ i ≠ k) from fun e => e.2 (h2.symm.trans h1)), Int.add_zero]
     · rw [if_neg h2, Int.add_zero]
   · rw [if_neg h1, if_neg h1, if_neg h1, Int.zero_add]
     by_cases h2 : q = i
     · subst h2
       rw [if_pos rfl, if_pos rfl, Int.one_mul]
       by_cases h4 : q = j
       · rw [if_pos h4, if_pos ⟨h4, h1⟩]
       · rw [if_neg h4, if_neg fun e => h4 e.1]
     · rw [if_neg h2, if_neg fun e => h2 e.symm, Int.zero_mul]
  rw [e2, sumTo_add, sumTo_one k hk fun q _ hq => if_neg hq, sumTo_one i hi fun q _ hq => if_neg hq, if_pos rfl, if_pos rfl]
  by_cases hjk : j = k
  · subst hjk
    rw [if_pos rfl, if_neg (by omega)]
    have e1 : (sumTo sq.length fun q => (Mt.refl hp h0 u).at i q * X.tr.at q j) % p = (sumTo sq.length fun q => (if i = q then u.getD q 0 else 0) + (-(2 * v) * u.getD i 0) * (u.getD q 0 * u.getD q 0 * sq.getD q 0)) % p := sumTo_mod p fun q hq => by
     refine (cg_mul (hRa hi hq) (hXa hq hj)).trans ?_
     rw [if_pos rfl, ha]
     congr 1
     by_cases h1 : i = q
     · rw [if_pos h1, if_pos h1]; grind
     · rw [if_neg h1, if_neg h1]; grind
    rw [e1, sumTo_add, sumTo_mul, sumTo_one i hi fun q _ hne => if_neg fun e => hne e.symm, if_pos rfl]
    obtain ⟨t, ht⟩ := cg_wit.1 hNv
    have hS : (sumTo sq.length fun q => u.getD q 0 * u.getD q 0 * sq.getD q 0) = bil sq u u := rfl
    rw [hS]
    obtain ⟨N, hN⟩ : ∃ N, N = bil sq u u := ⟨_, rfl⟩
    rw [← hN] at ht ⊢
    exact cg_wit.2 ⟨-2 * t * u.getD i 0, by grind⟩
  · rw [if_neg hjk]
    have e1 : (sumTo sq.length fun q => (Mt.refl hp h0 u).at i q * X.tr.at q j) % p = (sumTo sq.length fun q => if q = j then (if i = j then 1 else 0) + -(a j) * u.getD i 0 else 0) % p := sumTo_mod p fun q hq => by
     refine (cg_mul (hRa hi hq) (hXa hq hj)).trans ?_
     rw [if_neg hjk]
     congr 1
     by_cases h1 : q = j
     · subst h1; rw [if_pos rfl, if_pos rfl, Int.mul_one]
     · rw [if_neg h1, if_neg h1, Int.mul_zero]
    rw [e1, sumTo_one j hj fun q _ hne => if_neg hne, if_pos rfl]
    by_cases h1 : i = j
    · rw [if_pos h1, if_pos ⟨h1, by omega⟩]; congr 1; grind
    · rw [if_neg h1, if_neg fun e => h1 e.1]; congr 1; grind
 have hdX : X.tr.det % p = u.getD k 0 % p := by
  rw [Mt.det_tr hP h0, hX]
  show detL p ((unitM sq.length).set k u) % p = _
  rw [det_row hP hk hu hun]
 have hdY : Y.det % p = (-1) % p := by
  rw [hY]
  show detL p ((unitM sq.length).set k b) % p = _
  rw [det_row hP hk hbl hbn, hb, tab_getD hk, if_pos rfl, cg_self]
 have h1 := Mt.det_mul hP h0 (Mt.refl hp h0 u) X.tr
 rw [key, Mt.det_mul hP h0] at h1
 have h2 : (u.getD k 0 * -1) % p = ((Mt.refl hp h0 u).det * u.getD k 0) % p := (cg_mul hdX hdY).symm.trans (h1.trans (cg_mul rfl hdX))
 have hb := hun.getD hp0 k
 have hi := inv_one hP hb hk0
 obtain ⟨s, hs⟩ := cg_wit.1 hi
 obtain ⟨t, ht⟩ := cg_wit.1 h2
 obtain ⟨D, hD⟩ : ∃ D, D = (Mt.refl hp h0 u).det := ⟨_, rfl⟩
 obtain ⟨U, hU⟩ : ∃ U, U = u.getD k 0 := ⟨_, rfl⟩
 rw [← hU] at hs
 rw [← hU, ← hD] at ht
 rw [← hD]
 obtain ⟨I, hI⟩ : ∃ I, I = invF p U := ⟨_, rfl⟩
 rw [← hI] at hs
 exact cg_wit.2 ⟨-(t * I) - s * (D + 1), by grind⟩
end
end Go.Proofs.YtmkjdpnoloofjaaGreat
namespace Go.Proofs.YtmkjdpnoloofjaaGreat
open Go.RowKit
set_option maxHeartbeats 1600000 in
set_option maxRecDepth 8000 in
theorem matrixBy_any (f : FuncId) (p1 p2 : Addr) (G : Nat → List Int) (hcf : ∀ (args : Array Value) (w : World), (callFunc f args).run Tryz.prog w = .ok (.enter f args) w) (P : Int) (A : Option Addr) (n c : Nat) (w : World) (hp : 2 ≤ P) (hn : n ≤ 6) (h0 : 0 < n) (hG : ∀ k, k < n → (G k).length = n ∧ NumsL P (G k))
    (hof : ∀ (k : Nat) (w' : World) (Y : Option Addr) (cy : Nat), k < n → Below w.heap.size w w' → Rd w' Y n (ints (unitRow n k)) → n ≤ cy → Calls Tryz.prog f #[.slice Y n cy, .pointer (some p1), .pointer (some p2)] w' fun e w5 => ∃ A5 c5, e = .returned (.slice A5 n c5) ∧ MkI w' w5 A5 n c5 (G k)) :
    Calls Tryz.prog 99 #[.agg #[.int .i64 P, .slice A n c], .func (.func f) #[] #[.pointer (some p1), .pointer (some p2)]] w fun e w' => ∃ A' c', e = .returned (.slice A' n c') ∧ MkII w w' A' n c' (transL (tab n G)) := by
 have hB0 : Below w.heap.size w (w.alloc (.cells #[.int .i64 P, .slice A n c] 26)) := zG.alloc (Nat.le_refl _) _
 have k0 : Blk (w.alloc (.cells #[.int .i64 P, .slice A n c] 26)) w.heap.size 26 #[.int .i64 P, .slice A n c] := Blk.new _ _ _
 have hB1 := hB0.alloc (by simp) (.cells #[] 24)
 have k1 := k0.alloc (.cells #[] 24)
 have hM1 : MkII w ((w.alloc (.cells #[.int .i64 P, .slice A n c] 26)).alloc (.cells #[] 24)) (some ⟨w.heap.size + 1, 0, none⟩) 0 0 [] := by
  have := MkII.empty hB0
  simpa using this
 clear k0
 obtain ⟨q0, q1⟩ := k1.two
 have HG := Lib.hid hG
 have HOF := Lib.hid hof
 clear hG hof
 go_enter Tryz.func99, Tryz.ntmps99
 go_wp2_with fail
 refine (dim_any _ _ _ _ _).mono ?_
 rintro e w2 ⟨rfl, hb2⟩
 have hM2 := hM1.below hb2
 have hB2 := hB1.trans (hb2.mono hB1.size)
 clear hM1 q0 q1 k1 hB0 hB1
 go_wp2_with fail
 refine (unit_any n _ (by omega)).mono ?_
 rintro e w3 ⟨U, cU, rfl, hU⟩
 have hM3 := hM2.below hU.b
 have hB3 := hB2.trans (hU.b.mono hB2.size)
 have hsz2 : w.heap.size + 1 < w2.heap.size := by have := hb2.size; simp at this; omega
 have hKp : Keeps w2 w3 w3 (.slice (some ⟨w.heap.size + 1, 0, none⟩) 0 0) := ⟨Nat.le_refl _, fun _ _ _ => rfl, fun gb e => .inl (lt_of_own e hsz2)⟩
 clear hM2 hB2 hb2 hsz2
 go_wp2
 go_loopw [5, 13] (fun out i wr => ∃ (k : Nat) (A' : Option Addr) (c' : Nat), k ≤ n ∧ i = .int .i64 k ∧ out = .slice A' k c' ∧ MkII w wr A' k c' (tab k G) ∧ Keeps w2 w3 wr (.slice A' k c')) (fun _ i _ => n - (intOf i).toNat)
 case atStart => exact ⟨0, _, _, by omega, rfl, rfl, by simpa [tab] using hM3, hKp⟩
 case round =>
  obtain ⟨k, A', c', hk, rfl, rfl, hM, hB4⟩ := hrel
  clear hM3 hKp
  by_cases hlt : k < n
  · obtain ⟨gu, ou, rfl, hxk, A1, c1, hcu, hru, hcc⟩ := (hU.keep hB4.2.1).at_ hlt
    have hrow := unitM_get n k hxk
    rw [hrow, unitRow_len] at hru hcu hcc
    have hcall := HOF.out k wr A1 c1 hlt hM.b hru hcc
    have HM := Lib.hid hM
    have HB4 := Lib.hid hB4
    clear hM hru hrow hB4
    go_wp2_with fail
    refine hcall.mono ?_
    rintro e w5 ⟨A5, c5, rfl, hM5⟩
    clear hcall
    go_wp2_with (at_builtin; refine wpList_appRowG w wr _ rfl _ _ rfl A' k c' _ A5 n c5 _ HM.out hM5 (by omega) rfl ?_ ?_; (go_simp); intro A6 c6 w6 hM6 hg6 hat6)
    go_roundw
    case rel => exact ⟨k + 1, A6, c6, by omega, by go_num, rfl, by rw [tab_succ]; exact hM6, HB4.out.step hM5.b hg6 hat6⟩
    case measure => simp [intOf]; omega
  · obtain rfl : k = n := by omega
    go_wp2_with fail
    refine (transpose_any P A' k c' (tab k G) k _ h0 (by omega) (by omega) hM.rd (Tab.tab HG.out)).mono ?_
    rintro e w5 ⟨A5, c5, rfl, hM5⟩
    go_wp2
    go_ret
    exact ⟨_, _, rfl, hM5.after hM.b⟩
/-- The columns of a versor's matrix, and the matrix. -/
def scolsL (P : Int) (sq : List Int) (n : Nat) (xs : List Int) : List (List Int) := tab n fun k => sandL P sq n xs (unitRow n k)
def vmatL (P : Int) (sq : List Int) (n : Nat) (xs : List Int) : List (List Int) := transL (scolsL P sq n xs)
theorem sandL_lens (P : Int) (sq : List Int) (n : Nat) (xs v : List Int) : (sandL P sq n xs v).length = n := by unfold sandL; rw [partL_len]
theorem scolsL_tab {P : Int} (hp : 2 ≤ P) (sq : List Int) (n : Nat) (xs : List Int) : Tab P n (scolsL P sq n xs) := Tab.tab fun _ _ => ⟨sandL_lens _ _ _ _ _, sandL_nums hp _ _ _ _⟩
theorem scolsL_len (P : Int) (sq : List Int) (n : Nat) (xs : List Int) : (scolsL P sq n xs).length = n := tab_len _ _
theorem vmatL_tab {P : Int} (hp : 2 ≤ P) (sq : List Int) (n : Nat) (xs : List Int) : Tab P n (vmatL P sq n xs) := by
 have := transL_tab (p := P) (by omega) (scolsL_tab hp sq n xs)
 rwa [scolsL_len] at this
theorem vmatL_len {P : Int} (hp : 2 ≤ P) (sq : List Int) {n : Nat} (h0 : 0 < n) (xs : List Int) : (vmatL P sq n xs).length = n := transL_len (scolsL_tab hp sq n xs) (by rw [scolsL_len]; exact h0)
/-- MatrixOfVersor. -/
def movR (P : Int) (sq xs : List Int) : List (List Int) × Int := if codeVr P sq xs = 0 then (vmatL P sq sq.length xs, 0) else ([], codeVr P sq xs)
set_option maxHeartbeats 1600000 in
set_option maxRecDepth 8000 in
theorem movCol_any (g gx : Nat) (P : Int) (A : Option Addr) (n c : Nat) (sq : List Int) (X : Option Addr) (cx : Nat) (xs : List Int) (Y : Option Addr) (cy : Nat) (v : List Int) (w : World) (hp : 2 ≤ P) (hp2 : P ≤ 13) (hn : n ≤ 6) (ha : Rd w A n (ints sq)) (hs : NumsL P sq) (hx : Rd w X (pw n) (ints xs)) (hxs : NumsL P xs) (hcx : pw n ≤ cx) (hy : Rd w Y n (ints v)) (hys : NumsL P v) (hcy : n ≤ cy) (kg : Blk w g 26 #[.int .i64 P, .slice A n c]) (kx : Blk w gx 24 #[.slice X (pw n) cx]) :
    Calls Tryz.prog 100 #[.slice Y n cy, .pointer (some ⟨g, 0, none⟩), .pointer (some ⟨gx, 0, none⟩)] w fun e w' => ∃ A' c', e = .returned (.slice A' n c') ∧ MkI w w' A' n c' (sandL P sq n xs v) := by
 obtain ⟨q0, q1⟩ := kg.two
 have qx := kx.cell 0
 simp only [zA, zC] at qx
 have hcall := sandwich_any P A n c sq X cx xs Y cy v w hp hp2 hn ha hs hx hxs hcx hy hys hcy
 go_enter Tryz.func100, Tryz.ntmps100
 go_wp2_with fail
 refine hcall.mono ?_
 rintro e w2 ⟨A2, c2, rfl, hM⟩
 go_wp2
 go_ret
 exact ⟨_, _, rfl, hM⟩
set_option maxHeartbeats 1600000 in
set_option maxRecDepth 8000 in
theorem MatrixOfVersor_any (P : Int) (A : Option Addr) (n c : Nat) (sq : List Int) (X : Option Addr) (m cx : Nat) (xs : List Int) (w : World) (hn : n ≤ 1048576) (hm : m ≤ 1048576) (ha : Rd w A n (ints sq)) (hx : Rd w X m (ints xs)) (hcx : m ≤ cx) :
    Calls Tryz.prog 21 #[.agg #[.int .i64 P, .slice A n c], .slice X m cx] w fun e w' => ∃ (A' : Option Addr) (k c' : Nat), e = .returned (.tuple #[.slice A' k c', .int .i64 (movR P sq xs).2]) ∧ MkII w w' A' k c' (movR P sq xs).1 := by
 have hB0 : Below w.heap.size w (w.alloc (.cells #[.int .i64 P, .slice A n c] 26)) := zG.alloc (Nat.le_refl _) _
 have k0 : Blk (w.alloc (.cells #[.int .i64 P, .slice A n c] 26)) w.heap.size 26 #[.int .i64 P, .slice A n c] := Blk.new _ _ _
 have hBx : Below w.heap.size w ((w.alloc (.cells #[.int .i64 P, .slice A n c] 26)).alloc (.cells #[.slice X m cx] 24)) := hB0.alloc (by simp) _
 have hB1 : Below w.heap.size w (((w.alloc (.cells #[.int .i64 P, .slice A n c] 26)).alloc (.cells #[.slice X m cx] 24)).alloc (.cells #[.slice X m cx] 24)) := hBx.alloc (by simp; omega) _
 have k1 : Blk (((w.alloc (.cells #[.int .i64 P, .slice A n c] 26)).alloc (.cells #[.slice X m cx] 24)).alloc (.cells #[.slice X m cx] 24)) w.heap.size 26 #[.int .i64 P, .slice A n c] := (k0.alloc _).alloc _
 have kx : Blk (((w.alloc (.cells #[.int .i64 P, .slice A n c] 26)).alloc (.cells #[.slice X m cx] 24)).alloc (.cells #[.slice X m cx] 24)) (w.heap.size + 1) 24 #[.slice X m cx] := Blk.alloc (Blk.newAt3 (by simp)) _
 have hreg := checkVersors_any P A (some ⟨w.heap.size + 2, 0, none⟩) none n c 1 1 0 0 sq [xs] [] (((w.alloc (.cells #[.int .i64 P, .slice A n c] 26)).alloc (.cells #[.slice X m cx] 24)).alloc (.cells #[.slice X m cx] 24)) hn (by omega) (by omega) (ha.below hB1) (rdII_one' (Blk.newAt3 (by simp)) (hx.below hB1) hcx) (all_one (by rw [hx.lenI]; exact hm)) (RdII.nil _ _) (by simp)
 rw [codeVs_nil] at hreg
 obtain ⟨r, hr⟩ : ∃ r, r = codeR P sq [xs] := ⟨_, rfl⟩
 have HR := Lib.hid hr
 by_cases hr0 : r = 0
 · have hcM := (codeR_zero (hr.symm.trans hr0)).1
   obtain ⟨HP, hp, hp2, hd1, hd2, hs, hms⟩ := codeM_spec hcM
   have hxl := hx.lenI
   have hsl := ha.lenI
   obtain ⟨hl1, hxs⟩ := hms xs (by simp)
   have hn6 : n ≤ 6 := by omega
   have hn0 : 0 < n := by omega
   have hmn : m = pw n := by rw [← hxl, hl1, hsl]
   subst hmn
   have HSL := Lib.hid hsl
   have HS := Lib.hid hs
   have HXS := Lib.hid hxs
   clear hxl hsl hms hl1 hd1 hd2 hcM hs hxs
   have HR0 := Lib.hid hr0
   have b0 := code_eq hr0
   clear hr hr0
   cases hv : versB P sq n xs
   all_goals
    have hcv := codeVr_eq (P := P) (sq := sq) (xs := xs) (by rw [← HR.out]; exact HR0.out)
    rw [HSL.out, hv] at hcv
    have HCV := Lib.hid hcv
    have HV := Lib.hid hv
    clear hv hcv
    go_enter Tryz.func21, Tryz.ntmps21
    go_wp2_with fail
    refine hreg.mono ?_
    rintro e w2 ⟨rfl, hb2⟩
    rw [← HR.out]
    have hB2 := hB1.trans (hb2.mono hB1.size)
    have k2 := k1.below hb2 k1.lt
    have kx2 := kx.below hb2 kx.lt
    obtain ⟨q0, q1⟩ := k2.two
    have qx := kx2.cell 0
    simp only [zA, zC] at qx
    clear k1 k0 kx hB0 hBx hB1 hb2
    go_wp2_with fail
    refine (isVersor_any P A n c sq X cx xs _ hp hp2 hn6 (ha.below hB2) HS.out (hx.below hB2) HXS.out hcx).mono ?_
    rintro e w3 ⟨rfl, hb3⟩
    rw [HV.out]
    have hB3 := hB2.trans (hb3.mono hB2.size)
    have k3 := k2.below hb3 k2.lt
    have kx3 := kx2.below hb3 kx2.lt
    clear q0 q1 qx
    obtain ⟨q0, q1⟩ := k3.two
    have HMV := Lib.hid (matrixBy_any 100 ⟨w.heap.size, 0, none⟩ ⟨w.heap.size + 1, 0, none⟩ (fun k => sandL P sq n xs (unitRow n k)) (fun _ _ => by rfl) P A n c w3 hp hn6 hn0 (fun _ _ => ⟨sandL_lens _ _ _ _ _, sandL_nums hp _ _ _ _⟩)
     (fun k w' Y cy _ hb hy hcy => movCol_any w.heap.size (w.heap.size + 1) P A n c sq X cx xs Y cy (unitRow n k) w' hp hp2 hn6 ((ha.below hB3).below hb) HS.out ((hx.below hB3).below hb) HXS.out hcx hy (unitRow_nums hp n k) hcy (k3.below hb k3.lt) (kx3.below hb kx3.lt)))
    go_wp2_with fail
   · go_ret2
     refine ⟨none, 0, 0, ret_tupS ?_, ?_⟩
     · unfold movR; rw [HCV.out]; rfl
     · unfold movR; rw [HCV.out]
       exact MkII.nil hB3
   · refine HMV.out.mono ?_
     rintro e w4 ⟨A4, c4, rfl, hM⟩
     go_wp2
     go_ret2
     exact ⟨_, _, _, ret_tupS (by unfold movR; rw [HCV.out]; rfl), by unfold movR; rw [HCV.out, HSL.out]; exact hM.after hB3⟩
 · have HR0 := Lib.hid hr0
   have b0 := code_ne hr0
   clear hr hr0
   go_enter Tryz.func21, Tryz.ntmps21
   go_wp2_with fail
   refine hreg.mono ?_
   rintro e w2 ⟨rfl, hb2⟩
   rw [← HR.out]
   have hB2 := hB1.trans (hb2.mono hB1.size)
   have k2 := k1.below hb2 k1.lt
   obtain ⟨q0, q1⟩ := k2.two
   clear k1 hB1 hb2
   go_wp2
   go_ret2
   have hv : codeVr P sq xs = r := by rw [codeVr_ne (by rw [← HR.out]; exact HR0.out), HR.out]
   refine ⟨none, 0, 0, ret_tupS ?_, ?_⟩
   · unfold movR; rw [hv, if_neg HR0.out]
   · unfold movR; rw [hv, if_neg HR0.out]
     exact MkII.nil hB2
end Go.Proofs.YtmkjdpnoloofjaaGreat
namespace Go.Proofs.YtmkjdpnoloofjaaGreat
/-- One step of the decomposition: the vectors so far, and what is left of the matrix. -/
def decW (n : Nat) (M : List (List Int)) (k : Nat) : List Int := (transL M).getD k []
def decS (p : Int) (sq : List Int) (n : Nat) (s : List (List Int) × List (List Int)) (k : Nat) : List (List Int) × List (List Int) :=
 if decW n s.2 k = unitRow n k then s
 else if pairL p sq (plusL p (decW n s.2 k) (unitRow n k) (-1)) (plusL p (decW n s.2 k) (unitRow n k) (-1)) = 0 then
  (s.1 ++ [plusL p (decW n s.2 k) (unitRow n k) 1, unitRow n k], timesM p (rmatL p sq n (unitRow n k)) (timesM p (rmatL p sq n (plusL p (decW n s.2 k) (unitRow n k) 1)) s.2))
 else (s.1 ++ [plusL p (decW n s.2 k) (unitRow n k) (-1)], timesM p (rmatL p sq n (plusL p (decW n s.2 k) (unitRow n k) (-1))) s.2)
def decTo (p : Int) (sq : List Int) (n : Nat) (M : List (List Int)) : Nat → List (List Int) × List (List Int)
 | 0 => ([], M)
 | k + 1 => decS p sq n (decTo p sq n M k) k
def decL (p : Int) (sq : List Int) (M : List (List Int)) : List (List Int) := (decTo p sq sq.length M sq.length).1
section
variable {p : Int} {sq : List Int}
/-- The product of the matrices of reflections. -/
def prodR (hp : 2 ≤ p) (h0 : 0 < sq.length) (L : List (List Int)) : Mt p sq.length := L.foldl (fun x u => x * Mt.refl hp h0 u) (Mt.one (by omega))
theorem prodR_from (hp : 2 ≤ p) (h0 : 0 < sq.length) (L : List (List Int)) : ∀ y : Mt p sq.length, L.foldl (fun x u => x * Mt.refl hp h0 u) y = y * prodR hp h0 L := by
 induction L with
 | nil => intro y; exact (Mt.mul_one _ y).symm
 | cons v vs ih =>
  intro y
  unfold prodR
  rw [List.foldl_cons, ih, List.foldl_cons, ih, Mt.one_mul, Mt.mul_assoc]
theorem prodR_cons (hp : 2 ≤ p) (h0 : 0 < sq.length) (v : List Int) (L : List (List Int)) : (prodR hp h0 (v :: L) : Mt p sq.length) = Mt.refl hp h0 v * prodR hp h0 L := by
 have := prodR_from hp h0 L (Mt.refl hp h0 v)
 rw [← this]
 unfold prodR
 rw [List.foldl_cons, Mt.one_mul]
theorem prodR_snoc (hp : 2 ≤ p) (h0 : 0 < sq.length) (L : List (List Int)) (v : List Int) : (prodR hp h0 (L ++ [v]) : Mt p sq.length) = prodR hp h0 L * Mt.refl hp h0 v := by
 unfold prodR
 rw [List.foldl_append]; rfl
theorem prodR_col (hP : isP p = true) (hp : 2 ≤ p) (h0 : 0 < sq.length) : ∀ (L : List (List Int)), Good p sq L → ∀ {i : Nat}, i < sq.length → (prodR hp h0 L).col i = refls p sq L (unitRow sq.length i)
 | [], _, i, hi => Mt.one_col hp hi
 | v :: L, hL, i, hi => by
  rw [prodR_cons, Mt.refl_mul hP hp h0 (hL v (List.mem_cons_self ..)).1 _ hi, prodR_col hP hp h0 L (fun u hu => hL u (List.mem_cons_of_mem _ hu)) hi]
  rfl
theorem prodR_det (hP : isP p = true) (hp : 2 ≤ p) (h0 : 0 < sq.length) : ∀ (L : List (List Int)), Good p sq L → (prodR hp h0 L).det % p = (if L.length % 2 = 0 then 1 else -1) % p
 | [], _ => by
  show (Mt.one (by omega) : Mt p sq.length).det % p = _
  rw [Mt.det_one hP]; rfl
 | v :: L, hL => by
  have hv := hL v (List.mem_cons_self ..)
  rw [prodR_cons, Mt.det_mul hP h0]
  refine (cg_mul (Mt.refl_det hP hp h0 hv.1 hv.2.1 hv.2.2) (prodR_det hP hp h0 L fun u hu => hL u (List.mem_cons_of_mem _ hu))).trans ?_
  rw [List.length_cons]
  congr 1
  by_cases h : L.length % 2 = 0
  · rw [if_pos h, if_neg (by omega)]; rfl
  · rw [if_neg h, if_pos (by omega)]; rfl
/-- Reflections keep products. -/
theorem refl_pair (hP : isP p = true) {v a b : List Int} (ha : a.length = sq.length) (hb : b.length = sq.length) (hv : bil sq v v % p ≠ 0) : bil sq (reflF p sq v a) (reflF p sq v b) % p = bil sq a b % p := by
 have h3 := (isP_ge hP).1
 have hi : bil sq v v * invF p (bil sq v v % p) % p = 1 % p := by rw [inv_mod hP hv, Int.emod_eq_of_lt (by omega) (by omega)]
 obtain ⟨i, hii⟩ : ∃ i, i = invF p (bil sq v v % p) := ⟨_, rfl⟩
 have e1 := bil_plus (p := p) (u := reflF p sq v b) (b := v) ha (-(2 * bil sq v a * invF p (bil sq v v % p)))
 have e2 := bil_plus (p := p) (u := a) (b := v) hb (-(2 * bil sq v b * invF p (bil sq v v % p)))
 have e3 := bil_plus (p := p) (u := v) (b := v) hb (-(2 * bil sq v b * invF p (bil sq v v % p)))
 change bil sq (reflF p sq v a) (reflF p sq v b) % p = _ at e1
 change bil sq (reflF p sq v b) a % p = _ at e2
 change bil sq (reflF p sq v b) v % p = _ at e3
 rw [bil_symm sq (reflF p sq v b), bil_symm sq b a] at e2
 rw [bil_symm sq (reflF p sq v b), bil_symm sq b v] at e3
 rw [← hii] at e1 e2 e3 hi
 obtain ⟨X, hX⟩ : ∃ X, X = bil sq (reflF p sq v a) (reflF p sq v b) := ⟨_, rfl⟩
 obtain ⟨Y, hY⟩ : ∃ Y, Y = bil sq a (reflF p sq v b) := ⟨_, rfl⟩
 obtain ⟨Z, hZ⟩ : ∃ Z, Z = bil sq v (reflF p sq v b) := ⟨_, rfl⟩
 obtain ⟨N, hN⟩ : ∃ N, N = bil sq v v := ⟨_, rfl⟩
 obtain ⟨Q, hQ⟩ : ∃ Q, Q = bil sq a b := ⟨_, rfl⟩
 obtain ⟨R, hR⟩ : ∃ R, R = bil sq v a := ⟨_, rfl⟩
 obtain ⟨S, hS⟩ : ∃ S, S = bil sq v b := ⟨_, rfl⟩
 rw [← hX, ← hY, ← hZ, ← hR] at e1
 rw [← hY, ← hQ, ← hR, ← hS] at e2
 rw [← hZ, ← hN, ← hS] at e3
 rw [← hX, ← hQ]
 rw [← hN] at hi
 obtain ⟨r1, e1⟩ := cg_wit.1 e1
 obtain ⟨r2, e2⟩ := cg_wit.1 e2
 obtain ⟨r3, e3⟩ := cg_wit.1 e3
 obtain ⟨r4, e4⟩ := cg_wit.1 hi
 clear hX hY hZ hN hQ hR hS hii hv
 exact cg_wit.2 ⟨r1 + r2 - 2 * R * i * r3 + 4 * R * S * i * r4, by grind⟩
/-- A reflection keeps what is orthogonal. -/
theorem refl_fix (hp : 0 < p) {v w : List Int} (hw : w.length = sq.length) (hwn : NumsL p w) (h : bil sq v w % p = 0) : reflF p sq v w = w := by
 unfold reflF
 have hc : (-(2 * bil sq v w * invF p (bil sq v v % p))) % p = 0 % p := by
  obtain ⟨k, hk⟩ := cg_wit.1 (h.trans (Int.zero_emod p).symm)
  exact cg_wit.2 ⟨-(2 * k * invF p (bil sq v v % p)), by rw [hk]; grind⟩
 rw [plusL_mod p w _ hc]
 refine list_ext_getD 0 (plusL_len _ _ _ _) fun i hi => ?_
 rw [plusL_len] at hi
 have hb := hwn.getD hp i
 rw [plusL_getD _ _ hi, Int.zero_mul, Int.add_zero, Int.emod_eq_of_lt hb.1 hb.2]
theorem plusL_swap {a b : List Int} (h : a.length = b.length) : plusL p a b 1 = plusL p b a 1 := by
 refine list_ext_getD 0 (by rw [plusL_len, plusL_len, h]) fun i hi => ?_
 rw [plusL_len] at hi
 rw [plusL_getD _ _ hi, plusL_getD _ _ (by omega), Int.one_mul, Int.one_mul, Int.add_comm]
/-- What holds ahead of each step. -/
structure Dec (hp : 2 ≤ p) (h0 : 0 < sq.length) (m : Mt p sq.length) (s : List (List Int) × List (List Int)) (k : Nat) : Prop where
 len : s.1.length ≤ 2 * k
 good : Good p sq s.1
 all : ∃ x : Mt p sq.length, s.2 = x.l ∧ prodR hp h0 s.1 * x = m ∧ (∀ i j, i < sq.length → j < sq.length → bil sq (x.col i) (x.col j) % p = (if i = j then sq.getD i 0 else 0) % p) ∧ ∀ j, j < k → x.col j = unitRow sq.length j
theorem Dec.step (hP : isP p = true) (hp : 2 ≤ p) (h0 : 0 < sq.length) (hs : NumsL p sq) (hr : regB sq = true) {m : Mt p sq.length} {s : List (List Int) × List (List Int)} {k : Nat} (hk : k < sq.length) (h : Dec hp h0 m s k) : Dec hp h0 m (decS p sq sq.length s k) (k + 1) := by
 obtain ⟨hlen, hgood, x, hx2, hx, hO, hF⟩ := h
 have hp0 : 0 < p := by omega
 have hw : decW sq.length s.2 k = x.col k := by unfold decW Mt.col; rw [hx2]
 obtain ⟨w, hwe⟩ : ∃ w, w = x.col k := ⟨_, rfl⟩
 obtain ⟨hwl, hwn⟩ := Mt.col_ok x hk
 rw [← hwe] at hwl hwn hw
 obtain ⟨e, hee⟩ : ∃ e, e = unitRow sq.length k := ⟨_, rfl⟩
 have hel : e.length = sq.length := by rw [hee, unitRow_len]
 have hen : NumsL p e := by rw [hee]; exact unitRow_nums hp _ _
 have hsk := hs.getD hp0 k
 have hsk0 : sq.getD k 0 ≠ 0 := regB_at hr (getD_mem 0 hk)
 have bee : bil sq e e = sq.getD k 0 := by rw [hee, bil_unit hk hk, if_pos rfl]
 have been : bil sq e e % p ≠ 0 := by rw [bee, Int.emod_eq_of_lt hsk.1 hsk.2]; exact hsk0
 have bww : bil sq w w % p = bil sq e e % p := by rw [bee, hwe, hO k k hk hk, if_pos rfl]
 have bwwn : bil sq w w % p ≠ 0 := by rw [bww]; exact been
 have bej : ∀ j, j < k → bil sq e (unitRow sq.length j) % p = 0 := fun j hj => by rw [hee, bil_unit hk (by omega), if_neg (by omega), Int.zero_emod]
 have bwj : ∀ j, j < k → bil sq w (unitRow sq.length j) % p = 0 := fun j hj => by
  have := hO k j hk (by omega)
  rw [if_neg (by omega), hF j hj, ← hwe] at this
  rw [this, Int.zero_emod]
 have bsj : ∀ t j, j < k → bil sq (plusL p w e t) (unitRow sq.length j) % p = 0 := fun t j hj => by
  rw [bil_plus hwl]
  refine (cg_add ((bwj j hj).trans (Int.zero_emod p).symm) (cg_mul rfl ((bej j hj).trans (Int.zero_emod p).symm))).trans ?_
  rw [Int.mul_zero, Int.add_zero, Int.zero_emod]
 -- one reflection ahead
 have one : ∀ (u : List Int), u.length = sq.length → bil sq u u % p ≠ 0 → (∀ j, j < k → bil sq u (unitRow sq.length j) % p = 0) → ∀ y : Mt p sq.length,
     (∀ i j, i < sq.length → j < sq.length → bil sq (y.col i) (y.col j) % p = (if i = j then sq.getD i 0 else 0) % p) → (∀ j, j < k → y.col j = unitRow sq.length j) →
     (∀ i j, i < sq.length → j < sq.length → bil sq ((Mt.refl hp h0 u * y).col i) ((Mt.refl hp h0 u * y).col j) % p = (if i = j then sq.getD i 0 else 0) % p) ∧ (∀ j, j < k → (Mt.refl hp h0 u * y).col j = unitRow sq.length j) := fun u hu hne hor y hOy hFy => by
  refine ⟨fun i j hi hj => ?_, fun j hj => ?_⟩
  · rw [Mt.refl_mul hP hp h0 hu y hi, Mt.refl_mul hP hp h0 hu y hj, refl_pair hP (Mt.col_ok y hi).1 (Mt.col_ok y hj).1 hne]
    exact hOy i j hi hj
  · rw [Mt.refl_mul hP hp h0 hu y (by omega), hFy j hj]
    exact refl_fix hp0 (unitRow_len _ _) (unitRow_nums hp _ _) (hor j hj)
 have hnew : ∀ (L : List (List Int)) (u : List Int), u.length = sq.length → bil sq u u % p ≠ 0 → ∀ y : Mt p sq.length, prodR hp h0 (L ++ [u]) * (Mt.refl hp h0 u * y) = prodR hp h0 L * y := fun L u hu hne y => by
  rw [prodR_snoc, Mt.mul_assoc, ← Mt.mul_assoc (Mt.refl hp h0 u), Mt.refl_two hP hp h0 hu hne, Mt.one_mul]
 have hl2 : ∀ (u : List Int) (y : Mt p sq.length), timesM p (rmatL p sq sq.length u) y.l = (Mt.refl hp h0 u * y).l := fun u y => (Mt.mul_l (Mt.refl hp h0 u) y h0).symm
 unfold decS
 rw [hw, ← hee]
 by_cases h1 : w = e
 · rw [if_pos h1]
   refine ⟨by omega, hgood, x, hx2, hx, hO, fun j hj => ?_⟩
   rcases Nat.lt_or_ge j k with h | h
   · exact hF j h
   · obtain rfl : j = k := by omega
     rw [← hwe, h1, hee]
 · rw [if_neg h1]
   have hdl : ∀ t, (plusL p w e t).length = sq.length := fun t => (plusL_len _ _ _ _).trans hwl
   have hdn : ∀ t, NumsL p (plusL p w e t) := fun t => plusL_nums hp0 _ _ _
   obtain ⟨d, hd⟩ : ∃ d, d = plusL p w e (-1) := ⟨_, rfl⟩
   rw [← hd]
   by_cases h2 : pairL p sq d d = 0
   · rw [if_pos h2]
     have hz : bil sq d d % p = 0 := (bil_same hP (by rw [hd]; exact hdl _)).1 h2
     have hz2 : bil sq (plusL p e w (-1)) (plusL p e w (-1)) % p = 0 := by
      have e1 := bil_plus2 (p := p) (v := e) hwl (-1)
      have e2 := bil_plus2 (p := p) (v := w) hel (-1)
      rw [← hd, hz, bil_symm sq e w] at e1
      rw [e2, e1]
      congr 1
      grind
     obtain ⟨hn3, hr3⟩ := (vb_refls hP hwl hwn hel hen bww bwwn).2 hz2
     obtain ⟨a, ha⟩ : ∃ a, a = plusL p w e 1 := ⟨_, rfl⟩
     have ha2 : plusL p e w 1 = a := by rw [ha]; exact plusL_swap (hel.trans hwl.symm)
     rw [ha2] at hn3 hr3
     rw [← ha]
     have hal : a.length = sq.length := by rw [ha]; exact hdl 1
     have han : NumsL p a := by rw [ha]; exact hdn 1
     obtain ⟨o1, f1⟩ := one a hal hn3 (by rw [ha]; exact bsj 1) x hO hF
     obtain ⟨o2, f2⟩ := one e hel been bej _ o1 f1
     refine ⟨by simp only [List.length_append, List.length_cons, List.length_nil]; omega, fun u hu => ?_, Mt.refl hp h0 e * (Mt.refl hp h0 a * x), ?_, ?_, o2, fun j hj => ?_⟩
     · rcases List.mem_append.1 hu with hu | hu
       · exact hgood u hu
       · rcases List.mem_cons.1 hu with rfl | hu
         · exact ⟨hal, han, hn3⟩
         · rw [List.mem_singleton.1 hu]; exact ⟨hel, hen, been⟩
     · show timesM p (rmatL p sq sq.length e) (timesM p (rmatL p sq sq.length a) s.2) = _
       rw [hx2, hl2, hl2]
     · show prodR hp h0 (s.1 ++ [a, e]) * _ = m
       rw [show s.1 ++ [a, e] = (s.1 ++ [a]) ++ [e] by simp, hnew _ e hel been, hnew _ a hal hn3, hx]
     · rcases Nat.lt_or_ge j k with h | h
       · exact f2 j h
       · obtain rfl : j = k := by omega
         rw [Mt.refl_mul hP hp h0 hel _ hk, Mt.refl_mul hP hp h0 hal _ hk, ← hwe, ← hee]
         exact hr3
   · rw [if_neg h2]
     have hdl0 : d.length = sq.length := by rw [hd]; exact hdl _
     have hz : bil sq d d % p ≠ 0 := fun h => h2 ((bil_same hP hdl0).2 h)
     have hr3 := (vb_refls hP hel hen hwl hwn bww.symm been).1 (by rw [← hd]; exact hz)
     rw [← hd] at hr3
     replace hr3 : reflF p sq d e = w := hr3
     obtain ⟨o1, f1⟩ := one d hdl0 hz (by rw [hd]; exact bsj (-1)) x hO hF
     refine ⟨by simp only [List.length_append, List.length_cons, List.length_nil]; omega, fun u hu => ?_, Mt.refl hp h0 d * x, ?_, ?_, o1, fun j hj => ?_⟩
     · rcases List.mem_append.1 hu with hu | hu
       · exact hgood u hu
       · rw [List.mem_singleton.1 hu]; exact ⟨hdl0, by rw [hd]; exact hdn _, hz⟩
     · show timesM p (rmatL p sq sq.length d) s.2 = _
       rw [hx2, hl2]
     · show prodR hp h0 (s.1 ++ [d]) * _ = m
       rw [hnew _ d hdl0 hz, hx]
     · rcases Nat.lt_or_ge j k with h | h
       · exact f1 j h
       · obtain rfl : j = k := by omega
         rw [Mt.refl_mul hP hp h0 hdl0 _ hk, ← hwe, ← hee, ← hr3]
         exact refl_refl hP hel hen hz
theorem isoB_dec {M : List (List Int)} (hP : isP p = true) (hp : 2 ≤ p) (h0 : 0 < sq.length) (hs : NumsL p sq) (hr : regB sq = true) (hT : Tab p sq.length M) (hl : M.length = sq.length) (hiso : isoB p sq M = true) : ∀ k, k ≤ sq.length → Dec hp h0 (Mt.mk' (by omega) hT hl) (decTo p sq sq.length M k) k
 | 0, _ => by
  refine ⟨by simp [decTo], fun u hu => by simp [decTo] at hu, Mt.mk' (by omega) hT hl, rfl, Mt.one_mul _ _, fun i j hi hj => ?_, fun j hj => absurd hj (by omega)⟩
  have h1 := (iso_iff (by omega) hs hT hl).1 hiso
  have h2 := pair_cols (by omega) hT hl hi hj
  rw [h1.2, Wm_at (by omega) hi hj] at h2
  rw [← h2, pairL_bil (trans_row (by omega) hT hl hi).1]
  rfl
 | k + 1, hk => (isoB_dec hP hp h0 hs hr hT hl hiso k (by omega)).step hP hp h0 hs hr (by omega)
/-- What the decomposition is. -/
theorem dec_all {M : List (List Int)} (hP : isP p = true) (h0 : 0 < sq.length) (hs : NumsL p sq) (hr : regB sq = true) (hT : Tab p sq.length M) (hl : M.length = sq.length) (hiso : isoB p sq M = true) :
    (decL p sq M).length ≤ 2 * sq.length ∧ Good p sq (decL p sq M) ∧ ∀ hp : 2 ≤ p, (prodR hp h0 (decL p sq M)).l = M := by
 have h3 := isP_ge hP
 obtain ⟨h1, h2, x, hx2, hx, -, hF⟩ := isoB_dec hP (by omega) h0 hs hr hT hl hiso sq.length (Nat.le_refl _)
 refine ⟨h1, h2, fun hp => ?_⟩
 have hone : x = Mt.one (by omega) := Mt.ext_col fun i hi => by rw [hF i hi, Mt.one_col (by omega) hi]
 rw [hone, Mt.mul_one] at hx
 show (prodR hp h0 (decTo p sq sq.length M sq.length).1).l = M
 rw [hx]; rfl
/-- The versor of the decomposition has the matrix. -/
theorem vmat_prod {L : List (List Int)} (hP : isP p = true) (hp : 2 ≤ p) (h0 : 0 < sq.length) (h6 : sq.length ≤ 6) (hL : Good p sq L) : vmatL p sq sq.length (versL p sq sq.length L) = (prodR hp h0 L).l := by
 have hT := vmatL_tab hp sq sq.length (versL p sq sq.length L)
 have hl := vmatL_len hp sq h0 (versL p sq sq.length L)
 have e : Mt.mk' (by omega) hT hl = prodR hp h0 L := Mt.ext_col fun i hi => by
  rw [prodR_col hP hp h0 L hL hi]
  have hS := scolsL_tab hp sq sq.length (versL p sq sq.length L)
  refine list_ext_getD 0 (by rw [(Mt.col_ok _ hi).1, refls_len, unitRow_len]) fun j hj => ?_
  rw [(Mt.col_ok _ hi).1] at hj
  rw [Mt.col_at _ hi hj]
  show ent (vmatL p sq sq.length (versL p sq sq.length L)) j i = _
  unfold vmatL
  rw [trans_at hS (scolsL_len _ _ _ _) h0 hj hi]
  unfold ent scolsL
  rw [tab_getD hi, sand_prod hP h6 L hL (unitRow_len _ _) (unitRow_nums hp _ _)]
 rw [← e]; rfl
end
end Go.Proofs.YtmkjdpnoloofjaaGreat
namespace Go.Proofs.YtmkjdpnoloofjaaGreat
open Go.RowKit
/-- All rows have m numbers. -/
def Rect (m : Nat) (M : List (List Int)) : Prop := ∀ r ∈ M, r.length = m
theorem Rect.tab {p : Int} {m : Nat} {M : List (List Int)} (h : Rect m M) (hn : (M.all fun r => nums p r) = true) : Tab p m M := fun r hr => ⟨h r hr, nums_numsL (List.all_eq_true.1 hn r hr)⟩
theorem Rect.of_tab {p : Int} {m : Nat} {M : List (List Int)} (h : Tab p m M) : Rect m M := fun r hr => (h r hr).1
theorem numsL_nums {p : Int} {xs : List Int} (h : NumsL p xs) : nums p xs = true := List.all_eq_true.2 fun x hx => by have := h x hx; simp [inR]; omega
theorem frB_rect {P : Int} {n m : Nat} {M : List (List Int)} (h : Rect m M) (h0 : 0 < M.length) : frB P n M = ((M.all fun r => nums P r) && (decide (M.length = n) && decide (m = n))) := by
 rw [Bool.eq_iff_iff, frB_iff, Bool.and_eq_true, Bool.and_eq_true, decide_eq_true_iff, decide_eq_true_iff]
 constructor
 · intro ⟨h1, h2⟩
   exact ⟨List.all_eq_true.2 fun r hr => numsL_nums (h2 r hr).2, h1, by rw [← h _ (getD_mem [] h0)]; exact (h2.row h0).1⟩
 · intro ⟨h1, h2, h3⟩
   exact ⟨h2, h3 ▸ h.tab h1⟩
theorem all_takeR {p : Int} {M : List (List Int)} {k : Nat} (hk : k < M.length) (h : ((M.take k).all fun r => nums p r) = true) (h1 : nums p M[k] = true) : ((M.take (k + 1)).all fun r => nums p r) = true := by
 rw [List.take_succ_eq_append_getElem hk, List.all_append, h]; simp [h1]
theorem all_stop {p : Int} {M : List (List Int)} {k : Nat} (hk : k < M.length) (h1 : nums p M[k] = false) : (M.all fun r => nums p r) = false :=
 List.all_eq_false.2 ⟨M[k], List.getElem_mem hk, by simp [h1]⟩
set_option maxHeartbeats 1600000 in
set_option maxRecDepth 8000 in
theorem isTable_any (p : Int) (A : Option Addr) (n c : Nat) (M : List (List Int)) (m : Nat) (w : World) (hp0 : 0 < p) (hp1 : p ≤ 13) (hn : n ≤ 16) (hm1 : 1 ≤ m) (hm : m ≤ 16) (ha : RdII w A n M) (hT : Rect m M) :
    Calls Tryz.prog 158 #[.int .i64 p, .slice A n c] w fun e w' => e = .returned (.bool (M.all fun r => nums p r)) ∧ w = w' := by
 have HT := Lib.hid hT
 have HLN := Lib.hid ha.len
 have t1 : decide ((16 : Int) < (n : Int)) = false := by simp; omega
 have t2 : decide ((m : Int) < 1) = false := by simp; omega
 have t3 : decide ((16 : Int) < (m : Int)) = false := by simp; omega
 have t4 : ((m : Int) != (m : Int)) = false := by simp
 obtain ⟨R, hR⟩ : ∃ b, b = M.all fun r => nums p r := ⟨_, rfl⟩
 rw [← hR]
 have HR := Lib.hid hR
 clear hT hR
 go_enter Tryz.func158, Tryz.ntmps158
 go_wp2
 go_loopw [12] (fun i wr => ∃ k : Nat, k ≤ n ∧ i = .int .i64 k ∧ wr = w ∧ Hid (((M.take k).all fun r => nums p r) = true)) (fun i _ => n - (intOf i).toNat)
 case atStart => exact ⟨0, by omega, rfl, rfl, Lib.hid (by simp)⟩
 case round =>
  obtain ⟨k, hk, rfl, rfl, HK⟩ := hrel
  by_cases hlt : k < n
  · obtain ⟨g, o, rfl, hxk, A1, c1, hc1, hr1, -⟩ := ha.at_ hlt
    obtain ⟨g0, o0, e0, hx0, A0, c0, hc0, hr0, -⟩ := ha.at_ (show 0 < n by omega)
    cases e0
    have l1 := HT.out M[k] (List.getElem_mem hxk)
    have l0 := HT.out M[0] (List.getElem_mem hx0)
    rw [l1] at hc1 hr1
    rw [l0] at hc0
    rw [Nat.add_zero] at hc0
    obtain ⟨b, hb⟩ : ∃ b, b = nums p M[k] := ⟨_, rfl⟩
    have his := is_b p A1 m c1 M[k] wr (by omega) (by omega) (by omega) hr1 hb.symm
    have HB : Hid ((b = true → ((M.take (k + 1)).all fun r => nums p r) = true) ∧ (b = false → (M.all fun r => nums p r) = false)) := Lib.hid ⟨fun h => all_takeR hxk HK.out (by rw [← hb, h]), fun h => all_stop hxk (by rw [← hb, h])⟩
    clear hr1 hr0 l1 l0 ha hb
    go_wp2_with fail
    refine his.mono ?_
    rintro e w1 ⟨rfl, rfl⟩
    cases b
    · obtain rfl : R = false := by rw [HR.out, HB.out.2 rfl]
      clear HB
      go_wp2
      go_ret
      exact ⟨rfl, rfl⟩
    · have HB1 := Lib.hid (HB.out.1 rfl)
      clear HB
      go_wp2
      go_roundw
      case rel => exact ⟨k + 1, by omega, by go_num, by first | rfl | trivial, HB1⟩
      case measure => simp [intOf]; omega
  · obtain rfl : k = n := by omega
    have hr := HK.out
    rw [List.take_of_length_le (by rw [HLN.out]; omega)] at hr
    obtain rfl : R = true := HR.out.trans hr
    clear hr
    go_wp2
    go_ret
    exact ⟨rfl, rfl⟩
set_option maxHeartbeats 800000 in
set_option maxRecDepth 8000 in
theorem isMatrix_any (p : Int) (A : Option Addr) (n c : Nat) (M : List (List Int)) (m : Nat) (w : World) (hp0 : 0 < p) (hp1 : p ≤ 13) (hn0 : 0 < n) (hn : n ≤ 16) (hm1 : 1 ≤ m) (hm : m ≤ 16) (ha : RdII w A n M) (hT : Rect m M) :
    Calls Tryz.prog 195 #[.int .i64 p, .slice A n c] w fun e w' => e = .returned (.bool (M.all fun r => nums p r)) ∧ w = w' := by
 have h := isTable_any p A n c M m w hp0 hp1 hn hm1 hm ha hT
 have t1 : decide ((0 : Int) < (n : Int)) = true := by simp; omega
 obtain ⟨R, hR⟩ : ∃ b, b = M.all fun r => nums p r := ⟨_, rfl⟩
 rw [← hR] at h ⊢
 clear hT hR
 go_enter Tryz.func195, Tryz.ntmps195
 go_wp2_with fail
 refine h.mono ?_
 rintro e w1 ⟨rfl, rfl⟩
 go_wp2
 go_ret
 exact ⟨rfl, rfl⟩
set_option maxHeartbeats 1600000 in
set_option maxRecDepth 8000 in
theorem isFrame_0 (P : Int) (A : Option Addr) (n c : Nat) (sq : List Int) (D : Option Addr) (r d : Nat) (M : List (List Int)) (m : Nat) (w : World) (hp0 : 0 < P) (hp1 : P ≤ 13) (hr0 : 0 < r) (hr : r ≤ 16) (hm1 : 1 ≤ m) (hm : m ≤ 16) (hd : RdII w D r M) (hM : Rect m M) (hb : (M.all fun r => nums P r) = false) :
    Calls Tryz.prog 232 #[.agg #[.int .i64 P, .slice A n c], .slice D r d] w fun e w' => e = .returned (.bool false) ∧ Below w.heap.size w w' := by
 have hB0 : Below w.heap.size w (w.alloc (.cells #[.int .i64 P, .slice A n c] 26)) := zG.alloc (Nat.le_refl _) _
 have k0 : Blk (w.alloc (.cells #[.int .i64 P, .slice A n c] 26)) w.heap.size 26 #[.int .i64 P, .slice A n c] := Blk.new _ _ _
 have HIM := Lib.hid fun w' (h : Below w.heap.size w w') => isMatrix_any P D r d M m w' hp0 hp1 hr0 hr hm1 hm (hd.below h) hM
 rw [hb] at HIM
 obtain ⟨g, o, rfl, hx0, A0, c0, hc0, -, -⟩ := (hd.below hB0).at_ hr0
 rw [hM M[0] (List.getElem_mem hx0), Nat.add_zero] at hc0
 clear hM hd hb
 obtain ⟨q0, q1⟩ := k0.two
 go_enter Tryz.func232, Tryz.ntmps232
 go_wp2
 refine wp_obs 21 [[],[0],[],[0,1,2],[0,1,2,3],[0,1,2,3,4],[0,1,2,3,4,5],[0,1,2,3,4],[0,1,2,3,4,7],[0,1,2,3,4,5,6,7,8],[0,1,2,3,4,5,6,7,8,9],[0,1,2,3,4,5,6,7,8,9,10],[0,1,2,3,4,5,6,7,8,9,10,11],[0,1,2,3,4,5,6,7,8,9,10,11,12],[0,1,2,3,4,5,6,7,8,9,10,11,12,13],[0,1,2,3,4,5,6,7,8,9,10,11,12,13,14],[0,1,2,3,4,5,6,7,8,9,10,11],[0,1,2,3,4,5,6,7,8,9,10,11,16],[0,1,2,3,4,5,6,7,8,9,10,11,12,13,14,15,16,17],[0,1,2,3,4,5,6,7,8,9,10,11,12,13,14,15,16,17,18],[0,1,2,3,4,5,6,7,8,9,10,11,12,13,14,15,16,17,18,19]] [VIs (.agg #[.int .i64 P, .slice A n c]), VIs (.int .i64 (P)), VIs (.slice (some ⟨g, o, none⟩) r d), VIs (.bool false), VIs (.bool false), VIs undef, VIs undef, VIs undef, VIs undef, VIs undef, VIs (.bool false), VIs (.bool false), VIs undef, VIs undef, VIs undef, VIs undef, VIs undef, VIs undef, VIs undef, VIs (.bool false), VIs (.bool false)] (fun w' => w'.cell? ⟨g, o, none⟩ = some (.slice A0 m c0) ∧ Blk w' w.heap.size 26 #[.int .i64 P, .slice A n c] ∧ Below w.heap.size w w') (by kernel_rfl) (by kernel_rfl) (fun _ _ h hb => ⟨(hb.cell (World.block_lt_of_cell? _ _ h.1)).trans h.1, h.2.1.below hb h.2.1.lt, h.2.2.trans (hb.mono h.2.2.size)⟩) (⟨hc0, k0.drew, hB0.drew⟩) (fun x => ?_)
 refine zS (fun w' hS hV K hK => ?_) ?_
 · have q2 := hS.1; obtain ⟨q0, q1⟩ := hS.2.1.two; go_simp; exact zO hK
 refine zS (fun w' hS hV K hK => ?_) ?_
 · have e0 := zQ hV 0; have q2 := hS.1; obtain ⟨q0, q1⟩ := hS.2.1.two; go_simp; refine (field_any _ _ _ _ _).mono ?_; rintro e v1 ⟨rfl, hb⟩; exact hK.out _ _ _ rfl rfl rfl hb
 refine zS (fun w' hS hV K hK => ?_) ?_
 · have q2 := hS.1; obtain ⟨q0, q1⟩ := hS.2.1.two; go_simp; exact zO hK
 refine zS (fun w' hS hV K hK => ?_) ?_
 · have e1 := zQ hV 1; have e2 := zQ hV 2; have q2 := hS.1; obtain ⟨q0, q1⟩ := hS.2.1.two; go_simp; refine (HIM.out _ hS.2.2).mono ?_; rintro e v1 ⟨rfl, rfl⟩; exact zO hK
 refine zS (fun w' hS hV K hK => ?_) ?_
 · have e3 := zQ hV 3; have q2 := hS.1; obtain ⟨q0, q1⟩ := hS.2.1.two; go_simp; exact zO hK
 refine zS (fun w' hS hV K hK => ?_) ?_
 · have e4 := zQ hV 4; have q2 := hS.1; obtain ⟨q0, q1⟩ := hS.2.1.two; go_simp; exact zO hK
 refine zS (fun w' hS hV K hK => ?_) ?_
 · have e4 := zQ hV 4; have e5 := zQ hV 5; have q2 := hS.1; obtain ⟨q0, q1⟩ := hS.2.1.two; go_simp; exact zO hK
 refine zS (fun w' hS hV K hK => ?_) ?_
 · have e4 := zQ hV 4; have q2 := hS.1; obtain ⟨q0, q1⟩ := hS.2.1.two; go_simp; exact zO hK
 refine zS (fun w' hS hV K hK => ?_) ?_
 · have e4 := zQ hV 4; have e7 := zQ hV 7; have q2 := hS.1; obtain ⟨q0, q1⟩ := hS.2.1.two; go_simp; exact zO hK
 refine zS (fun w' hS hV K hK => ?_) ?_
 · have e4 := zQ hV 4; have e6 := zQ hV 6; have e8 := zQ hV 8; have q2 := hS.1; obtain ⟨q0, q1⟩ := hS.2.1.two; go_simp; exact zO hK
 refine zS (fun w' hS hV K hK => ?_) ?_
 · have e4 := zQ hV 4; have e9 := zQ hV 9; have q2 := hS.1; obtain ⟨q0, q1⟩ := hS.2.1.two; go_simp; exact zO hK
 refine zS (fun w' hS hV K hK => ?_) ?_
 · have e10 := zQ hV 10; have q2 := hS.1; obtain ⟨q0, q1⟩ := hS.2.1.two; go_simp; exact zO hK
 refine zS (fun w' hS hV K hK => ?_) ?_
 · have e11 := zQ hV 11; have q2 := hS.1; obtain ⟨q0, q1⟩ := hS.2.1.two; go_simp; exact zO hK
 refine zS (fun w' hS hV K hK => ?_) ?_
 · have e11 := zQ hV 11; have e12 := zQ hV 12; have q2 := hS.1; obtain ⟨q0, q1⟩ := hS.2.1.two; go_simp; exact zO hK
 refine zS (fun w' hS hV K hK => ?_) ?_
 · have e11 := zQ hV 11; have e13 := zQ hV 13; have q2 := hS.1; obtain ⟨q0, q1⟩ := hS.2.1.two; go_simp; exact zO hK
 refine zS (fun w' hS hV K hK => ?_) ?_
 · have e11 := zQ hV 11; have e14 := zQ hV 14; have q2 := hS.1; obtain ⟨q0, q1⟩ := hS.2.1.two; go_simp; exact zO hK
 refine zS (fun w' hS hV K hK => ?_) ?_
 · have e11 := zQ hV 11; have q2 := hS.1; obtain ⟨q0, q1⟩ := hS.2.1.two; go_simp; exact zO hK
 refine zS (fun w' hS hV K hK => ?_) ?_
 · have e11 := zQ hV 11; have e16 := zQ hV 16; have q2 := hS.1; obtain ⟨q0, q1⟩ := hS.2.1.two; go_simp; exact zO hK
 refine zS (fun w' hS hV K hK => ?_) ?_
 · have e11 := zQ hV 11; have e15 := zQ hV 15; have e17 := zQ hV 17; have q2 := hS.1; obtain ⟨q0, q1⟩ := hS.2.1.two; go_simp; exact zO hK
 refine zS (fun w' hS hV K hK => ?_) ?_
 · have e11 := zQ hV 11; have e18 := zQ hV 18; have q2 := hS.1; obtain ⟨q0, q1⟩ := hS.2.1.two; go_simp; exact zO hK
 refine zS (fun w' hS hV K hK => ?_) ?_
 · have e19 := zQ hV 19; have q2 := hS.1; obtain ⟨q0, q1⟩ := hS.2.1.two; go_simp; exact zO hK
 refine fun w' hS hV => ?_
 have e0 := zT hV 0
 have e1 := zT hV 1
 have e2 := zT hV 2
 have e3 := zT hV 3
 have e4 := zT hV 4
 have e5 := zT hV 5
 have e6 := zT hV 6
 have e7 := zT hV 7
 have e8 := zT hV 8
 have e9 := zT hV 9
 have e10 := zT hV 10
 have e11 := zT hV 11
 have e12 := zT hV 12
 have e13 := zT hV 13
 have e14 := zT hV 14
 have e15 := zT hV 15
 have e16 := zT hV 16
 have e17 := zT hV 17
 have e18 := zT hV 18
 have e19 := zT hV 19
 have e20 := zT hV 20
 simp only [e0, e1, e2, e3, e4, e5, e6, e7, e8, e9, e10, e11, e12, e13, e14, e15, e16, e17, e18, e19, e20]
 clear e0 e1 e2 e3 e4 e5 e6 e7 e8 e9 e10 e11 e12 e13 e14 e15 e16 e17 e18 e19 e20
 refine wpAny_done (by kernel_rfl) ?_ _
 have hb9 := hS.2.2
 go_wp2
 go_ret
 exact ⟨rfl, hb9⟩
set_option maxHeartbeats 1600000 in
set_option maxRecDepth 8000 in
theorem isFrame_1 (P : Int) (A : Option Addr) (n c : Nat) (sq : List Int) (D : Option Addr) (r d : Nat) (M : List (List Int)) (m : Nat) (w : World) (hp0 : 0 < P) (hp1 : P ≤ 13) (hr0 : 0 < r) (hr : r ≤ 16) (hm1 : 1 ≤ m) (hm : m ≤ 16) (hd : RdII w D r M) (hM : Rect m M) (hb : (M.all fun r => nums P r) = true) (h1 : r ≠ n) :
    Calls Tryz.prog 232 #[.agg #[.int .i64 P, .slice A n c], .slice D r d] w fun e w' => e = .returned (.bool false) ∧ Below w.heap.size w w' := by
 have t4 : ((r : Int) == (n : Int)) = false := by rw [beq_eq_false_iff_ne]; omega
 have hB0 : Below w.heap.size w (w.alloc (.cells #[.int .i64 P, .slice A n c] 26)) := zG.alloc (Nat.le_refl _) _
 have k0 : Blk (w.alloc (.cells #[.int .i64 P, .slice A n c] 26)) w.heap.size 26 #[.int .i64 P, .slice A n c] := Blk.new _ _ _
 have HIM := Lib.hid fun w' (h : Below w.heap.size w w') => isMatrix_any P D r d M m w' hp0 hp1 hr0 hr hm1 hm (hd.below h) hM
 rw [hb] at HIM
 obtain ⟨g, o, rfl, hx0, A0, c0, hc0, -, -⟩ := (hd.below hB0).at_ hr0
 rw [hM M[0] (List.getElem_mem hx0), Nat.add_zero] at hc0
 clear hM hd hb
 obtain ⟨q0, q1⟩ := k0.two
 go_enter Tryz.func232, Tryz.ntmps232
 go_wp2
 refine wp_obs 21 [[],[0],[],[0,1,2],[0,1,2,3],[0,1,2,3,4],[0,1,2,3,4,5],[0,1,2,3,4],[0,1,2,3,4,7],[0,1,2,3,4,5,6,7,8],[0,1,2,3,4,5,6,7,8,9],[0,1,2,3,4,5,6,7,8,9,10],[0,1,2,3,4,5,6,7,8,9,10,11],[0,1,2,3,4,5,6,7,8,9,10,11,12],[0,1,2,3,4,5,6,7,8,9,10,11,12,13],[0,1,2,3,4,5,6,7,8,9,10,11,12,13,14],[0,1,2,3,4,5,6,7,8,9,10,11],[0,1,2,3,4,5,6,7,8,9,10,11,16],[0,1,2,3,4,5,6,7,8,9,10,11,12,13,14,15,16,17],[0,1,2,3,4,5,6,7,8,9,10,11,12,13,14,15,16,17,18],[0,1,2,3,4,5,6,7,8,9,10,11,12,13,14,15,16,17,18,19]] [VIs (.agg #[.int .i64 P, .slice A n c]), VIs (.int .i64 (P)), VIs (.slice (some ⟨g, o, none⟩) r d), VIs (.bool true), VIs (.bool true), VIs (.slice (some ⟨g, o, none⟩) r d), VIs (.int .i64 (r)), VIs (.agg #[.int .i64 P, .slice A n c]), VIs (.int .i64 (n)), VIs (.bool false), VIs (.bool false), VIs (.bool false), VIs undef, VIs undef, VIs undef, VIs undef, VIs undef, VIs undef, VIs undef, VIs (.bool false), VIs (.bool false)] (fun w' => w'.cell? ⟨g, o, none⟩ = some (.slice A0 m c0) ∧ Blk w' w.heap.size 26 #[.int .i64 P, .slice A n c] ∧ Below w.heap.size w w') (by kernel_rfl) (by kernel_rfl) (fun _ _ h hb => ⟨(hb.cell (World.block_lt_of_cell? _ _ h.1)).trans h.1, h.2.1.below hb h.2.1.lt, h.2.2.trans (hb.mono h.2.2.size)⟩) (⟨hc0, k0.drew, hB0.drew⟩) (fun x => ?_)
 refine zS (fun w' hS hV K hK => ?_) ?_
 · have q2 := hS.1; obtain ⟨q0, q1⟩ := hS.2.1.two; go_simp; exact zO hK
 refine zS (fun w' hS hV K hK => ?_) ?_
 · have e0 := zQ hV 0; have q2 := hS.1; obtain ⟨q0, q1⟩ := hS.2.1.two; go_simp; refine (field_any _ _ _ _ _).mono ?_; rintro e v1 ⟨rfl, hb⟩; exact hK.out _ _ _ rfl rfl rfl hb
 refine zS (fun w' hS hV K hK => ?_) ?_
 · have q2 := hS.1; obtain ⟨q0, q1⟩ := hS.2.1.two; go_simp; exact zO hK
 refine zS (fun w' hS hV K hK => ?_) ?_
 · have e1 := zQ hV 1; have e2 := zQ hV 2; have q2 := hS.1; obtain ⟨q0, q1⟩ := hS.2.1.two; go_simp; refine (HIM.out _ hS.2.2).mono ?_; rintro e v1 ⟨rfl, rfl⟩; exact zO hK
 refine zS (fun w' hS hV K hK => ?_) ?_
 · have e3 := zQ hV 3; have q2 := hS.1; obtain ⟨q0, q1⟩ := hS.2.1.two; go_simp; exact zO hK
 refine zS (fun w' hS hV K hK => ?_) ?_
 · have e4 := zQ hV 4; have q2 := hS.1; obtain ⟨q0, q1⟩ := hS.2.1.two; go_simp; exact zO hK
 refine zS (fun w' hS hV K hK => ?_) ?_
 · have e4 := zQ hV 4; have e5 := zQ hV 5; have q2 := hS.1; obtain ⟨q0, q1⟩ := hS.2.1.two; go_simp; exact zO hK
 refine zS (fun w' hS hV K hK => ?_) ?_
 · have e4 := zQ hV 4; have q2 := hS.1; obtain ⟨q0, q1⟩ := hS.2.1.two; go_simp; exact zO hK
 refine zS (fun w' hS hV K hK => ?_) ?_
 · have e4 := zQ hV 4; have e7 := zQ hV 7; have q2 := hS.1; obtain ⟨q0, q1⟩ := hS.2.1.two; go_simp; refine (dim_any _ _ _ _ _).mono ?_; rintro e v1 ⟨rfl, hb⟩; exact hK.out _ _ _ rfl rfl rfl hb
 refine zS (fun w' hS hV K hK => ?_) ?_
 · have e4 := zQ hV 4; have e6 := zQ hV 6; have e8 := zQ hV 8; have q2 := hS.1; obtain ⟨q0, q1⟩ := hS.2.1.two; go_simp; exact zO hK
 refine zS (fun w' hS hV K hK => ?_) ?_
 · have e4 := zQ hV 4; have e9 := zQ hV 9; have q2 := hS.1; obtain ⟨q0, q1⟩ := hS.2.1.two; go_simp; exact zO hK
 refine zS (fun w' hS hV K hK => ?_) ?_
 · have e10 := zQ hV 10; have q2 := hS.1; obtain ⟨q0, q1⟩ := hS.2.1.two; go_simp; exact zO hK
 refine zS (fun w' hS hV K hK => ?_) ?_
 · have e11 := zQ hV 11; have q2 := hS.1; obtain ⟨q0, q1⟩ := hS.2.1.two; go_simp; exact zO hK
 refine zS (fun w' hS hV K hK => ?_) ?_
 · have e11 := zQ hV 11; have e12 := zQ hV 12; have q2 := hS.1; obtain ⟨q0, q1⟩ := hS.2.1.two; go_simp; exact zO hK
 refine zS (fun w' hS hV K hK => ?_) ?_
 · have e11 := zQ hV 11; have e13 := zQ hV 13; have q2 := hS.1; obtain ⟨q0, q1⟩ := hS.2.1.two; go_simp; exact zO hK
 refine zS (fun w' hS hV K hK => ?_) ?_
 · have e11 := zQ hV 11; have e14 := zQ hV 14; have q2 := hS.1; obtain ⟨q0, q1⟩ := hS.2.1.two; go_simp; exact zO hK
 refine zS (fun w' hS hV K hK => ?_) ?_
 · have e11 := zQ hV 11; have q2 := hS.1; obtain ⟨q0, q1⟩ := hS.2.1.two; go_simp; exact zO hK
 refine zS (fun w' hS hV K hK => ?_) ?_
 · have e11 := zQ hV 11; have e16 := zQ hV 16; have q2 := hS.1; obtain ⟨q0, q1⟩ := hS.2.1.two; go_simp; exact zO hK
 refine zS (fun w' hS hV K hK => ?_) ?_
 · have e11 := zQ hV 11; have e15 := zQ hV 15; have e17 := zQ hV 17; have q2 := hS.1; obtain ⟨q0, q1⟩ := hS.2.1.two; go_simp; exact zO hK
 refine zS (fun w' hS hV K hK => ?_) ?_
 · have e11 := zQ hV 11; have e18 := zQ hV 18; have q2 := hS.1; obtain ⟨q0, q1⟩ := hS.2.1.two; go_simp; exact zO hK
 refine zS (fun w' hS hV K hK => ?_) ?_
 · have e19 := zQ hV 19; have q2 := hS.1; obtain ⟨q0, q1⟩ := hS.2.1.two; go_simp; exact zO hK
 refine fun w' hS hV => ?_
 have e0 := zT hV 0
 have e1 := zT hV 1
 have e2 := zT hV 2
 have e3 := zT hV 3
 have e4 := zT hV 4
 have e5 := zT hV 5
 have e6 := zT hV 6
 have e7 := zT hV 7
 have e8 := zT hV 8
 have e9 := zT hV 9
 have e10 := zT hV 10
 have e11 := zT hV 11
 have e12 := zT hV 12
 have e13 := zT hV 13
 have e14 := zT hV 14
 have e15 := zT hV 15
 have e16 := zT hV 16
 have e17 := zT hV 17
 have e18 := zT hV 18
 have e19 := zT hV 19
 have e20 := zT hV 20
 simp only [e0, e1, e2, e3, e4, e5, e6, e7, e8, e9, e10, e11, e12, e13, e14, e15, e16, e17, e18, e19, e20]
 clear e0 e1 e2 e3 e4 e5 e6 e7 e8 e9 e10 e11 e12 e13 e14 e15 e16 e17 e18 e19 e20
 refine wpAny_done (by kernel_rfl) ?_ _
 have hb9 := hS.2.2
 go_wp2
 go_ret
 exact ⟨rfl, hb9⟩
set_option maxHeartbeats 1600000 in
set_option maxRecDepth 8000 in
theorem isFrame_2 (P : Int) (A : Option Addr) (n c : Nat) (sq : List Int) (D : Option Addr) (r d : Nat) (M : List (List Int)) (m : Nat) (w : World) (hp0 : 0 < P) (hp1 : P ≤ 13) (hr0 : 0 < r) (hr : r ≤ 16) (hm1 : 1 ≤ m) (hm : m ≤ 16) (hd : RdII w D r M) (hM : Rect m M) (hb : (M.all fun r => nums P r) = true) (h1 : r = n) (h2 : m ≠ n) :
    Calls Tryz.prog 232 #[.agg #[.int .i64 P, .slice A n c], .slice D r d] w fun e w' => e = .returned (.bool false) ∧ Below w.heap.size w w' := by
 subst h1
 have t4 : ((r : Int) == (r : Int)) = true := by simp
 have t5 : ((m : Int) == (r : Int)) = false := by rw [beq_eq_false_iff_ne]; omega
 have hB0 : Below w.heap.size w (w.alloc (.cells #[.int .i64 P, .slice A r c] 26)) := zG.alloc (Nat.le_refl _) _
 have k0 : Blk (w.alloc (.cells #[.int .i64 P, .slice A r c] 26)) w.heap.size 26 #[.int .i64 P, .slice A r c] := Blk.new _ _ _
 have HIM := Lib.hid fun w' (h : Below w.heap.size w w') => isMatrix_any P D r d M m w' hp0 hp1 hr0 hr hm1 hm (hd.below h) hM
 rw [hb] at HIM
 obtain ⟨g, o, rfl, hx0, A0, c0, hc0, -, -⟩ := (hd.below hB0).at_ hr0
 rw [hM M[0] (List.getElem_mem hx0), Nat.add_zero] at hc0
 clear hM hd hb
 obtain ⟨q0, q1⟩ := k0.two
 go_enter Tryz.func232, Tryz.ntmps232
 go_wp2
 refine wp_obs 21 [[],[0],[],[0,1,2],[0,1,2,3],[0,1,2,3,4],[0,1,2,3,4,5],[0,1,2,3,4],[0,1,2,3,4,7],[0,1,2,3,4,5,6,7,8],[0,1,2,3,4,5,6,7,8,9],[0,1,2,3,4,5,6,7,8,9,10],[0,1,2,3,4,5,6,7,8,9,10,11],[0,1,2,3,4,5,6,7,8,9,10,11,12],[0,1,2,3,4,5,6,7,8,9,10,11,12,13],[0,1,2,3,4,5,6,7,8,9,10,11,12,13,14],[0,1,2,3,4,5,6,7,8,9,10,11],[0,1,2,3,4,5,6,7,8,9,10,11,16],[0,1,2,3,4,5,6,7,8,9,10,11,12,13,14,15,16,17],[0,1,2,3,4,5,6,7,8,9,10,11,12,13,14,15,16,17,18],[0,1,2,3,4,5,6,7,8,9,10,11,12,13,14,15,16,17,18,19]] [VIs (.agg #[.int .i64 P, .slice A r c]), VIs (.int .i64 (P)), VIs (.slice (some ⟨g, o, none⟩) r d), VIs (.bool true), VIs (.bool true), VIs (.slice (some ⟨g, o, none⟩) r d), VIs (.int .i64 (r)), VIs (.agg #[.int .i64 P, .slice A r c]), VIs (.int .i64 (r)), VIs (.bool true), VIs (.bool true), VIs (.bool true), VIs (.slice (some ⟨g, o, none⟩) r d), VIs (.pointer (some ⟨g, o, none⟩)), VIs (.slice A0 m c0), VIs (.int .i64 (m)), VIs (.agg #[.int .i64 P, .slice A r c]), VIs (.int .i64 (r)), VIs (.bool false), VIs (.bool false), VIs (.bool false)] (fun w' => w'.cell? ⟨g, o, none⟩ = some (.slice A0 m c0) ∧ Blk w' w.heap.size 26 #[.int .i64 P, .slice A r c] ∧ Below w.heap.size w w') (by kernel_rfl) (by kernel_rfl) (fun _ _ h hb => ⟨(hb.cell (World.block_lt_of_cell? _ _ h.1)).trans h.1, h.2.1.below hb h.2.1.lt, h.2.2.trans (hb.mono h.2.2.size)⟩) (⟨hc0, k0.drew, hB0.drew⟩) (fun x => ?_)
 refine zS (fun w' hS hV K hK => ?_) ?_
 · have q2 := hS.1; obtain ⟨q0, q1⟩ := hS.2.1.two; go_simp; exact zO hK
 refine zS (fun w' hS hV K hK => ?_) ?_
 · have e0 := zQ hV 0; have q2 := hS.1; obtain ⟨q0, q1⟩ := hS.2.1.two; go_simp; refine (field_any _ _ _ _ _).mono ?_; rintro e v1 ⟨rfl, hb⟩; exact hK.out _ _ _ rfl rfl rfl hb
 refine zS (fun w' hS hV K hK => ?_) ?_
 · have q2 := hS.1; obtain ⟨q0, q1⟩ := hS.2.1.two; go_simp; exact zO hK
 refine zS (fun w' hS hV K hK => ?_) ?_
 · have e1 := zQ hV 1; have e2 := zQ hV 2; have q2 := hS.1; obtain ⟨q0, q1⟩ := hS.2.1.two; go_simp; refine (HIM.out _ hS.2.2).mono ?_; rintro e v1 ⟨rfl, rfl⟩; exact zO hK
 refine zS (fun w' hS hV K hK => ?_) ?_
 · have e3 := zQ hV 3; have q2 := hS.1; obtain ⟨q0, q1⟩ := hS.2.1.two; go_simp; exact zO hK
 refine zS (fun w' hS hV K hK => ?_) ?_
 · have e4 := zQ hV 4; have q2 := hS.1; obtain ⟨q0, q1⟩ := hS.2.1.two; go_simp; exact zO hK
 refine zS (fun w' hS hV K hK => ?_) ?_
 · have e4 := zQ hV 4; have e5 := zQ hV 5; have q2 := hS.1; obtain ⟨q0, q1⟩ := hS.2.1.two; go_simp; exact zO hK
 refine zS (fun w' hS hV K hK => ?_) ?_
 · have e4 := zQ hV 4; have q2 := hS.1; obtain ⟨q0, q1⟩ := hS.2.1.two; go_simp; exact zO hK
 refine zS (fun w' hS hV K hK => ?_) ?_
 · have e4 := zQ hV 4; have e7 := zQ hV 7; have q2 := hS.1; obtain ⟨q0, q1⟩ := hS.2.1.two; go_simp; refine (dim_any _ _ _ _ _).mono ?_; rintro e v1 ⟨rfl, hb⟩; exact hK.out _ _ _ rfl rfl rfl hb
 refine zS (fun w' hS hV K hK => ?_) ?_
 · have e4 := zQ hV 4; have e6 := zQ hV 6; have e8 := zQ hV 8; have q2 := hS.1; obtain ⟨q0, q1⟩ := hS.2.1.two; go_simp; exact zO hK
 refine zS (fun w' hS hV K hK => ?_) ?_
 · have e4 := zQ hV 4; have e9 := zQ hV 9; have q2 := hS.1; obtain ⟨q0, q1⟩ := hS.2.1.two; go_simp; exact zO hK
 refine zS (fun w' hS hV K hK => ?_) ?_
 · have e10 := zQ hV 10; have q2 := hS.1; obtain ⟨q0, q1⟩ := hS.2.1.two; go_simp; exact zO hK
 refine zS (fun w' hS hV K hK => ?_) ?_
 · have e11 := zQ hV 11; have q2 := hS.1; obtain ⟨q0, q1⟩ := hS.2.1.two; go_simp; exact zO hK
 refine zS (fun w' hS hV K hK => ?_) ?_
 · have e11 := zQ hV 11; have e12 := zQ hV 12; have q2 := hS.1; obtain ⟨q0, q1⟩ := hS.2.1.two; go_simp; exact zO hK
 refine zS (fun w' hS hV K hK => ?_) ?_
 · have e11 := zQ hV 11; have e13 := zQ hV 13; have q2 := hS.1; obtain ⟨q0, q1⟩ := hS.2.1.two; go_simp; exact zO hK
 refine zS (fun w' hS hV K hK => ?_) ?_
 · have e11 := zQ hV 11; have e14 := zQ hV 14; have q2 := hS.1; obtain ⟨q0, q1⟩ := hS.2.1.two; go_simp; exact zO hK
 refine zS (fun w' hS hV K hK => ?_) ?_
 · have e11 := zQ hV 11; have q2 := hS.1; obtain ⟨q0, q1⟩ := hS.2.1.two; go_simp; exact zO hK
 refine zS (fun w' hS hV K hK => ?_) ?_
 · have e11 := zQ hV 11; have e16 := zQ hV 16; have q2 := hS.1; obtain ⟨q0, q1⟩ := hS.2.1.two; go_simp; refine (dim_any _ _ _ _ _).mono ?_; rintro e v1 ⟨rfl, hb⟩; exact hK.out _ _ _ rfl rfl rfl hb
 refine zS (fun w' hS hV K hK => ?_) ?_
 · have e11 := zQ hV 11; have e15 := zQ hV 15; have e17 := zQ hV 17; have q2 := hS.1; obtain ⟨q0, q1⟩ := hS.2.1.two; go_simp; exact zO hK
 refine zS (fun w' hS hV K hK => ?_) ?_
 · have e11 := zQ hV 11; have e18 := zQ hV 18; have q2 := hS.1; obtain ⟨q0, q1⟩ := hS.2.1.two; go_simp; exact zO hK
 refine zS (fun w' hS hV K hK => ?_) ?_
 · have e19 := zQ hV 19; have q2 := hS.1; obtain ⟨q0, q1⟩ := hS.2.1.two; go_simp; exact zO hK
 refine fun w' hS hV => ?_
 have e0 := zT hV 0
 have e1 := zT hV 1
 have e2 := zT hV 2
 have e3 := zT hV 3
 have e4 := zT hV 4
 have e5 := zT hV 5
 have e6 := zT hV 6
 have e7 := zT hV 7
 have e8 := zT hV 8
 have e9 := zT hV 9
 have e10 := zT hV 10
 have e11 := zT hV 11
 have e12 := zT hV 12
 have e13 := zT hV 13
 have e14 := zT hV 14
 have e15 := zT hV 15
 have e16 := zT hV 16
 have e17 := zT hV 17
 have e18 := zT hV 18
 have e19 := zT hV 19
 have e20 := zT hV 20
 simp only [e0, e1, e2, e3, e4, e5, e6, e7, e8, e9, e10, e11, e12, e13, e14, e15, e16, e17, e18, e19, e20]
 clear e0 e1 e2 e3 e4 e5 e6 e7 e8 e9 e10 e11 e12 e13 e14 e15 e16 e17 e18 e19 e20
 refine wpAny_done (by kernel_rfl) ?_ _
 have hb9 := hS.2.2
 go_wp2
 go_ret
 exact ⟨rfl, hb9⟩
set_option maxHeartbeats 1600000 in
set_option maxRecDepth 8000 in
theorem isFrame_3 (P : Int) (A : Option Addr) (n c : Nat) (sq : List Int) (D : Option Addr) (r d : Nat) (M : List (List Int)) (m : Nat) (w : World) (hp0 : 0 < P) (hp1 : P ≤ 13) (hr0 : 0 < r) (hr : r ≤ 16) (hm1 : 1 ≤ m) (hm : m ≤ 16) (hd : RdII w D r M) (hM : Rect m M) (hb : (M.all fun r => nums P r) = true) (h1 : r = n) (h2 : m = n) :
    Calls Tryz.prog 232 #[.agg #[.int .i64 P, .slice A n c], .slice D r d] w fun e w' => e = .returned (.bool true) ∧ Below w.heap.size w w' := by
 subst h1; subst h2
 have t4 : ((m : Int) == (m : Int)) = true := by simp
 have hB0 : Below w.heap.size w (w.alloc (.cells #[.int .i64 P, .slice A m c] 26)) := zG.alloc (Nat.le_refl _) _
 have k0 : Blk (w.alloc (.cells #[.int .i64 P, .slice A m c] 26)) w.heap.size 26 #[.int .i64 P, .slice A m c] := Blk.new _ _ _
 have HIM := Lib.hid fun w' (h : Below w.heap.size w w') => isMatrix_any P D m d M m w' hp0 hp1 hr0 hr hm1 hm (hd.below h) hM
 rw [hb] at HIM
 obtain ⟨g, o, rfl, hx0, A0, c0, hc0, -, -⟩ := (hd.below hB0).at_ hr0
 rw [hM M[0] (List.getElem_mem hx0), Nat.add_zero] at hc0
 clear hM hd hb
 obtain ⟨q0, q1⟩ := k0.two
 go_enter Tryz.func232, Tryz.ntmps232
 go_wp2
 refine wp_obs 21 [[],[0],[],[0,1,2],[0,1,2,3],[0,1,2,3,4],[0,1,2,3,4,5],[0,1,2,3,4],[0,1,2,3,4,7],[0,1,2,3,4,5,6,7,8],[0,1,2,3,4,5,6,7,8,9],[0,1,2,3,4,5,6,7,8,9,10],[0,1,2,3,4,5,6,7,8,9,10,11],[0,1,2,3,4,5,6,7,8,9,10,11,12],[0,1,2,3,4,5,6,7,8,9,10,11,12,13],[0,1,2,3,4,5,6,7,8,9,10,11,12,13,14],[0,1,2,3,4,5,6,7,8,9,10,11],[0,1,2,3,4,5,6,7,8,9,10,11,16],[0,1,2,3,4,5,6,7,8,9,10,11,12,13,14,15,16,17],[0,1,2,3,4,5,6,7,8,9,10,11,12,13,14,15,16,17,18],[0,1,2,3,4,5,6,7,8,9,10,11,12,13,14,15,16,17,18,19]] [VIs (.agg #[.int .i64 P, .slice A m c]), VIs (.int .i64 (P)), VIs (.slice (some ⟨g, o, none⟩) m d), VIs (.bool true), VIs (.bool true), VIs (.slice (some ⟨g, o, none⟩) m d), VIs (.int .i64 (m)), VIs (.agg #[.int .i64 P, .slice A m c]), VIs (.int .i64 (m)), VIs (.bool true), VIs (.bool true), VIs (.bool true), VIs (.slice (some ⟨g, o, none⟩) m d), VIs (.pointer (some ⟨g, o, none⟩)), VIs (.slice A0 m c0), VIs (.int .i64 (m)), VIs (.agg #[.int .i64 P, .slice A m c]), VIs (.int .i64 (m)), VIs (.bool true), VIs (.bool true), VIs (.bool true)] (fun w' => w'.cell? ⟨g, o, none⟩ = some (.slice A0 m c0) ∧ Blk w' w.heap.size 26 #[.int .i64 P, .slice A m c] ∧ Below w.heap.size w w') (by kernel_rfl) (by kernel_rfl) (fun _ _ h hb => ⟨(hb.cell (World.block_lt_of_cell? _ _ h.1)).trans h.1, h.2.1.below hb h.2.1.lt, h.2.2.trans (hb.mono h.2.2.size)⟩) (⟨hc0, k0.drew, hB0.drew⟩) (fun x => ?_)
 refine zS (fun w' hS hV K hK => ?_) ?_
 · have q2 := hS.1; obtain ⟨q0, q1⟩ := hS.2.1.two; go_simp; exact zO hK
 refine zS (fun w' hS hV K hK => ?_) ?_
 · have e0 := zQ hV 0; have q2 := hS.1; obtain ⟨q0, q1⟩ := hS.2.1.two; go_simp; refine (field_any _ _ _ _ _).mono ?_; rintro e v1 ⟨rfl, hb⟩; exact hK.out _ _ _ rfl rfl rfl hb
 refine zS (fun w' hS hV K hK => ?_) ?_
 · have q2 := hS.1; obtain ⟨q0, q1⟩ := hS.2.1.two; go_simp; exact zO hK
 refine zS (fun w' hS hV K hK => ?_) ?_
 · have e1 := zQ hV 1; have e2 := zQ hV 2; have q2 := hS.1; obtain ⟨q0, q1⟩ := hS.2.1.two; go_simp; refine (HIM.out _ hS.2.2).mono ?_; rintro e v1 ⟨rfl, rfl⟩; exact zO hK
 refine zS (fun w' hS hV K hK => ?_) ?_
 · have e3 := zQ hV 3; have q2 := hS.1; obtain ⟨q0, q1⟩ := hS.2.1.two; go_simp; exact zO hK
 refine zS (fun w' hS hV K hK => ?_) ?_
 · have e4 := zQ hV 4; have q2 := hS.1; obtain ⟨q0, q1⟩ := hS.2.1.two; go_simp; exact zO hK
 refine zS (fun w' hS hV K hK => ?_) ?_
 · have e4 := zQ hV 4; have e5 := zQ hV 5; have q2 := hS.1; obtain ⟨q0, q1⟩ := hS.2.1.two; go_simp; exact zO hK
 refine zS (fun w' hS hV K hK => ?_) ?_
 · have e4 := zQ hV 4; have q2 := hS.1; obtain ⟨q0, q1⟩ := hS.2.1.two; go_simp; exact zO hK
 refine zS (fun w' hS hV K hK => ?_) ?_
 · have e4 := zQ hV 4; have e7 := zQ hV 7; have q2 := hS.1; obtain ⟨q0, q1⟩ := hS.2.1.two; go_simp; refine (dim_any _ _ _ _ _).mono ?_; rintro e v1 ⟨rfl, hb⟩; exact hK.out _ _ _ rfl rfl rfl hb
 refine zS (fun w' hS hV K hK => ?_) ?_
 · have e4 := zQ hV 4; have e6 := zQ hV 6; have e8 := zQ hV 8; have q2 := hS.1; obtain ⟨q0, q1⟩ := hS.2.1.two; go_simp; exact zO hK
 refine zS (fun w' hS hV K hK => ?_) ?_
 · have e4 := zQ hV 4; have e9 := zQ hV 9; have q2 := hS.1; obtain ⟨q0, q1⟩ := hS.2.1.two; go_simp; exact zO hK
 refine zS (fun w' hS hV K hK => ?_) ?_
 · have e10 := zQ hV 10; have q2 := hS.1; obtain ⟨q0, q1⟩ := hS.2.1.two; go_simp; exact zO hK
 refine zS (fun w' hS hV K hK => ?_) ?_
 · have e11 := zQ hV 11; have q2 := hS.1; obtain ⟨q0, q1⟩ := hS.2.1.two; go_simp; exact zO hK
 refine zS (fun w' hS hV K hK => ?_) ?_
 · have e11 := zQ hV 11; have e12 := zQ hV 12; have q2 := hS.1; obtain ⟨q0, q1⟩ := hS.2.1.two; go_simp; exact zO hK
 refine zS (fun w' hS hV K hK => ?_) ?_
 · have e11 := zQ hV 11; have e13 := zQ hV 13; have q2 := hS.1; obtain ⟨q0, q1⟩ := hS.2.1.two; go_simp; exact zO hK
 refine zS (fun w' hS hV K hK => ?_) ?_
 · have e11 := zQ hV 11; have e14 := zQ hV 14; have q2 := hS.1; obtain ⟨q0, q1⟩ := hS.2.1.two; go_simp; exact zO hK
 refine zS (fun w' hS hV K hK => ?_) ?_
 · have e11 := zQ hV 11; have q2 := hS.1; obtain ⟨q0, q1⟩ := hS.2.1.two; go_simp; exact zO hK
 refine zS (fun w' hS hV K hK => ?_) ?_
 · have e11 := zQ hV 11; have e16 := zQ hV 16; have q2 := hS.1; obtain ⟨q0, q1⟩ := hS.2.1.two; go_simp; refine (dim_any _ _ _ _ _).mono ?_; rintro e v1 ⟨rfl, hb⟩; exact hK.out _ _ _ rfl rfl rfl hb
 refine zS (fun w' hS hV K hK => ?_) ?_
 · have e11 := zQ hV 11; have e15 := zQ hV 15; have e17 := zQ hV 17; have q2 := hS.1; obtain ⟨q0, q1⟩ := hS.2.1.two; go_simp; exact zO hK
 refine zS (fun w' hS hV K hK => ?_) ?_
 · have e11 := zQ hV 11; have e18 := zQ hV 18; have q2 := hS.1; obtain ⟨q0, q1⟩ := hS.2.1.two; go_simp; exact zO hK
 refine zS (fun w' hS hV K hK => ?_) ?_
 · have e19 := zQ hV 19; have q2 := hS.1; obtain ⟨q0, q1⟩ := hS.2.1.two; go_simp; exact zO hK
 refine fun w' hS hV => ?_
 have e0 := zT hV 0
 have e1 := zT hV 1
 have e2 := zT hV 2
 have e3 := zT hV 3
 have e4 := zT hV 4
 have e5 := zT hV 5
 have e6 := zT hV 6
 have e7 := zT hV 7
 have e8 := zT hV 8
 have e9 := zT hV 9
 have e10 := zT hV 10
 have e11 := zT hV 11
 have e12 := zT hV 12
 have e13 := zT hV 13
 have e14 := zT hV 14
 have e15 := zT hV 15
 have e16 := zT hV 16
 have e17 := zT hV 17
 have e18 := zT hV 18
 have e19 := zT hV 19
 have e20 := zT hV 20
 simp only [e0, e1, e2, e3, e4, e5, e6, e7, e8, e9, e10, e11, e12, e13, e14, e15, e16, e17, e18, e19, e20]
 clear e0 e1 e2 e3 e4 e5 e6 e7 e8 e9 e10 e11 e12 e13 e14 e15 e16 e17 e18 e19 e20
 refine wpAny_done (by kernel_rfl) ?_ _
 have hb9 := hS.2.2
 go_wp2
 go_ret
 exact ⟨rfl, hb9⟩
theorem isFrame_any (P : Int) (A : Option Addr) (n c : Nat) (sq : List Int) (D : Option Addr) (r d : Nat) (M : List (List Int)) (m : Nat) (w : World) (hp0 : 0 < P) (hp1 : P ≤ 13) (hr0 : 0 < r) (hr : r ≤ 16) (hm1 : 1 ≤ m) (hm : m ≤ 16) (hd : RdII w D r M) (hM : Rect m M) :
    Calls Tryz.prog 232 #[.agg #[.int .i64 P, .slice A n c], .slice D r d] w fun e w' => e = .returned (.bool (frB P n M)) ∧ Below w.heap.size w w' := by
 have hl := hd.len
 have e := frB_rect (P := P) (n := n) hM (by omega)
 rw [hl] at e
 rw [e]
 cases hb : (M.all fun r => nums P r)
 · exact isFrame_0 P A n c sq D r d M m w hp0 hp1 hr0 hr hm1 hm hd hM hb
 · by_cases h1 : r = n
   · by_cases h2 : m = n
     · rw [decide_eq_true h1, decide_eq_true h2]; exact isFrame_3 P A n c sq D r d M m w hp0 hp1 hr0 hr hm1 hm hd hM hb h1 h2
     · rw [decide_eq_true h1, decide_eq_false h2]; exact isFrame_2 P A n c sq D r d M m w hp0 hp1 hr0 hr hm1 hm hd hM hb h1 h2
   · rw [decide_eq_false h1]; exact isFrame_1 P A n c sq D r d M m w hp0 hp1 hr0 hr hm1 hm hd hM hb h1
set_option maxHeartbeats 1600000 in
set_option maxRecDepth 8000 in
theorem checkFrame_any (P : Int) (A : Option Addr) (n c : Nat) (sq : List Int) (D : Option Addr) (r d : Nat) (M : List (List Int)) (m : Nat) (w : World) (hr0 : 0 < r) (hr : r ≤ 16) (hm1 : 1 ≤ m) (hm : m ≤ 16) (hn : n ≤ 1048576) (ha : Rd w A n (ints sq)) (hd : RdII w D r M) (hM : Rect m M) :
    Calls Tryz.prog 128 #[.agg #[.int .i64 P, .slice A n c], .slice D r d] w fun e w' => e = .returned (.int .i64 (codeF P sq M)) ∧ Below w.heap.size w w' := by
 have hB0 : Below w.heap.size w (w.alloc (.cells #[.int .i64 P, .slice A n c] 26)) := zG.alloc (Nat.le_refl _) _
 have k0 : Blk (w.alloc (.cells #[.int .i64 P, .slice A n c] 26)) w.heap.size 26 #[.int .i64 P, .slice A n c] := Blk.new _ _ _
 have hsl := ha.lenI
 have his := IsSpace_any P A n c sq (w.alloc (.cells #[.int .i64 P, .slice A n c] 26)) (by omega) (ha.below hB0)
 have hrg := Lib.hid fun w' (h : Below w.heap.size w w') => regular_any P A n c sq w' (by omega) (ha.below h)
 by_cases h1 : isSp P sq = true
 · obtain ⟨HP, hd1, hd2, hnum⟩ := isSp_dim h1
   obtain ⟨hp3, hp2⟩ := isP_ge HP
   have hfr := Lib.hid fun w' (h : Below w.heap.size w w') => isFrame_any P A n c sq D r d M m w' (by omega) hp2 hr0 hr hm1 hm (hd.below h) hM
   have HC : Hid (codeF P sq M = if frB P n M then (if regB sq then 0 else 5) else 2) := Lib.hid (by unfold codeF; rw [if_pos h1, hsl])
   rw [h1] at his
   cases hf : frB P n M
   · rw [hf] at hfr HC
     obtain ⟨V, hV⟩ : ∃ V, V = codeF P sq M := ⟨_, rfl⟩
     rw [← hV] at HC ⊢
     obtain rfl : V = 2 := by rw [HC.out]; rfl
     clear hV HC h1 hM hd hsl hnum HP hf
     go_enter Tryz.func128, Tryz.ntmps128
     obtain ⟨q0, q1⟩ := k0.two
     go_wp2_with fail
     refine his.mono ?_
     rintro e w2 ⟨rfl, hb2⟩
     have hB2 := hB0.trans (hb2.mono hB0.size)
     have k2 := k0.below hb2 k0.lt
     clear q0 q1
     obtain ⟨q0, q1⟩ := k2.two
     go_wp2_with fail
     refine (hfr.out w2 hB2).mono ?_
     rintro e w3 ⟨rfl, hb3⟩
     have hB3 := hB2.trans (hb3.mono hB2.size)
     have k3 := k2.below hb3 k2.lt
     clear q0 q1
     go_wp2
     go_ret
     exact ⟨rfl, hB3⟩
   · rw [hf] at hfr HC
     cases hg : regB sq
     · rw [hg] at hrg HC
       obtain ⟨V, hV⟩ : ∃ V, V = codeF P sq M := ⟨_, rfl⟩
       rw [← hV] at HC ⊢
       obtain rfl : V = 5 := by rw [HC.out]; rfl
       clear hV HC h1 hM hd hsl hnum HP hf hg
       go_enter Tryz.func128, Tryz.ntmps128
       obtain ⟨q0, q1⟩ := k0.two
       go_wp2_with fail
       refine his.mono ?_
       rintro e w2 ⟨rfl, hb2⟩
       have hB2 := hB0.trans (hb2.mono hB0.size)
       have k2 := k0.below hb2 k0.lt
       clear q0 q1
       obtain ⟨q0, q1⟩ := k2.two
       go_wp2_with fail
       refine (hfr.out w2 hB2).mono ?_
       rintro e w3 ⟨rfl, hb3⟩
       have hB3 := hB2.trans (hb3.mono hB2.size)
       have k3 := k2.below hb3 k2.lt
       clear q0 q1
       obtain ⟨q0, q1⟩ := k3.two
       go_wp2_with fail
       refine (hrg.out w3 hB3).mono ?_
       rintro e w4 ⟨rfl, hb4⟩
       have hB4 := hB3.trans (hb4.mono hB3.size)
       have k4 := k3.below hb4 k3.lt
       clear q0 q1
       go_wp2
       go_ret
       exact ⟨rfl, hB4⟩
     · rw [hg] at hrg HC
       obtain ⟨V, hV⟩ : ∃ V, V = codeF P sq M := ⟨_, rfl⟩
       rw [← hV] at HC ⊢
       obtain rfl : V = 0 := by rw [HC.out]; rfl
       clear hV HC h1 hM hd hsl hnum HP hf hg
       go_enter Tryz.func128, Tryz.ntmps128
       obtain ⟨q0, q1⟩ := k0.two
       go_wp2_with fail
       refine his.mono ?_
       rintro e w2 ⟨rfl, hb2⟩
       have hB2 := hB0.trans (hb2.mono hB0.size)
       have k2 := k0.below hb2 k0.lt
       clear q0 q1
       obtain ⟨q0, q1⟩ := k2.two
       go_wp2_with fail
       refine (hfr.out w2 hB2).mono ?_
       rintro e w3 ⟨rfl, hb3⟩
       have hB3 := hB2.trans (hb3.mono hB2.size)
       have k3 := k2.below hb3 k2.lt
       clear q0 q1
       obtain ⟨q0, q1⟩ := k3.two
       go_wp2_with fail
       refine (hrg.out w3 hB3).mono ?_
       rintro e w4 ⟨rfl, hb4⟩
       have hB4 := hB3.trans (hb4.mono hB3.size)
       have k4 := k3.below hb4 k3.lt
       clear q0 q1
       go_wp2
       go_ret
       exact ⟨rfl, hB4⟩
 · have h1' : isSp P sq = false := by simpa using h1
   have HC : codeF P sq M = 1 := by unfold codeF; rw [if_neg h1]
   rw [HC]
   rw [h1'] at his
   clear HC h1 h1' hM hd hsl hrg
   go_enter Tryz.func128, Tryz.ntmps128
   obtain ⟨q0, q1⟩ := k0.two
   go_wp2_with fail
   refine his.mono ?_
   rintro e w2 ⟨rfl, hb2⟩
   have hB2 := hB0.trans (hb2.mono hB0.size)
   have k2 := k0.below hb2 k0.lt
   clear q0 q1
   go_wp2
   go_ret
   exact ⟨rfl, hB2⟩
section
variable {P : Int} {sq : List Int} {M : List (List Int)}
/-- The number that is 0 at each two places of a skew matrix. -/
def skZ (P : Int) (sq : List Int) (M : List (List Int)) (i k : Nat) : Int := (sq.getD k 0 * ent M k i + sq.getD i 0 * ent M i k) % P
def skTo (P : Int) (sq : List Int) (M : List (List Int)) (n i k : Nat) : Prop := (∀ a, a < i → ∀ b, b < n → skZ P sq M a b = 0) ∧ ∀ b, b < k → skZ P sq M i b = 0
theorem skTo.next {n i k : Nat} (h : skTo P sq M n i k) (h0 : skZ P sq M i k = 0) : skTo P sq M n i (k + 1) := ⟨h.1, fun b hb => by
 rcases Nat.lt_or_ge b k with h1 | h1
 · exact h.2 b h1
 · obtain rfl : b = k := by omega
   exact h0⟩
theorem skTo.row {n i : Nat} (h : skTo P sq M n i n) : skTo P sq M n (i + 1) 0 := ⟨fun a ha b hb => by
 rcases Nat.lt_or_ge a i with h1 | h1
 · exact h.1 a h1 b hb
 · obtain rfl : a = i := by omega
   exact h.2 b hb, fun b hb => absurd hb (by omega)⟩
theorem skTo.end_ (h : skTo P sq M sq.length sq.length 0) : skewB P sq M = true := by
 unfold skewB
 rw [decide_eq_true_iff]
 exact fun i hi k hk => h.1 i hi k hk
theorem sk_stop {i k : Nat} (hi : i < sq.length) (hk : k < sq.length) (h0 : skZ P sq M i k ≠ 0) : skewB P sq M = false := by
 unfold skewB
 rw [decide_eq_false_iff_not]
 exact fun h => h0 (h i hi k hk)
/-- The product of two columns, and what it is for an isometry. -/
def colP (P : Int) (sq : List Int) (M : List (List Int)) (i k : Nat) : Int := pairL P sq ((transL M).getD i []) ((transL M).getD k [])
def colW (sq : List Int) (i k : Nat) : Int := if i = k then sq.getD i 0 else 0
def isTo (P : Int) (sq : List Int) (M : List (List Int)) (f : Nat → Nat) (i k : Nat) : Prop := (∀ a, a < i → ∀ b, b < f a → colP P sq M a b = colW sq a b) ∧ ∀ b, b < k → colP P sq M i b = colW sq i b
theorem isTo.next {f : Nat → Nat} {i k : Nat} (h : isTo P sq M f i k) (h0 : colP P sq M i k = colW sq i k) : isTo P sq M f i (k + 1) := ⟨h.1, fun b hb => by
 rcases Nat.lt_or_ge b k with h1 | h1
 · exact h.2 b h1
 · obtain rfl : b = k := by omega
   exact h0⟩
theorem isTo.row {f : Nat → Nat} {i k : Nat} (h : isTo P sq M f i k) (hk : k = f i) : isTo P sq M f (i + 1) 0 := ⟨fun a ha b hb => by
 rcases Nat.lt_or_ge a i with h1 | h1
 · exact h.1 a h1 b hb
 · obtain rfl : a = i := by omega
   exact h.2 b (by omega), fun b hb => absurd hb (by omega)⟩
theorem isTo.full (h : isTo P sq M (fun _ => sq.length) sq.length 0) (hf : frB P sq.length M = true) (hd : detL P M ≠ 0) : isoB P sq M = true := by
 unfold isoB
 rw [hf, decide_eq_true hd, Bool.true_and, Bool.true_and, decide_eq_true_iff]
 exact fun i hi k hk => h.1 i hi k hk
theorem is_stop {i k : Nat} (hi : i < sq.length) (hk : k < sq.length) (h0 : colP P sq M i k ≠ colW sq i k) : isoB P sq M = false := by
 unfold isoB
 rw [Bool.and_eq_false_iff]
 right
 rw [Bool.and_eq_false_iff]
 right
 rw [decide_eq_false_iff_not]
 exact fun h => h0 (h i hi k hk)
theorem is_det (h0 : detL P M = 0) : isoB P sq M = false := by
 unfold isoB
 rw [Bool.and_eq_false_iff]
 right
 rw [Bool.and_eq_false_iff]
 left
 rw [decide_eq_false_iff_not]
 exact fun h => h h0
theorem is_frame (h0 : frB P sq.length M = false) : isoB P sq M = false := by unfold isoB; rw [h0]; rfl
end
set_option maxHeartbeats 3200000 in
set_option maxRecDepth 8000 in
theorem isSkew_any (P : Int) (A : Option Addr) (n c : Nat) (sq : List Int) (D : Option Addr) (d : Nat) (M : List (List Int)) (w : World) (hp : 2 ≤ P) (hp2 : P ≤ 13) (hn : n ≤ 6) (ha : Rd w A n (ints sq)) (hs : NumsL P sq) (hd : RdII w D n M) (hM : Tab P n M) :
    Calls Tryz.prog 130 #[.agg #[.int .i64 P, .slice A n c], .slice D n d] w fun e w' => e = .returned (.bool (skewB P sq M)) ∧ Below w.heap.size w w' := by
 have hB0 : Below w.heap.size w (w.alloc (.cells #[.int .i64 P, .slice A n c] 26)) := zG.alloc (Nat.le_refl _) _
 have k0 : Blk (w.alloc (.cells #[.int .i64 P, .slice A n c] 26)) w.heap.size 26 #[.int .i64 P, .slice A n c] := Blk.new _ _ _
 have HM := Lib.hid hM
 have HSN := Lib.hid hs
 have HSL := Lib.hid ha.lenI
 obtain ⟨R, hR⟩ : ∃ b, b = skewB P sq M := ⟨_, rfl⟩
 rw [← hR]
 have HR := Lib.hid hR
 clear hM hs hR
 obtain ⟨q0, q1⟩ := k0.two
 go_enter Tryz.func130, Tryz.ntmps130
 go_wp2
 clear q0 q1
 go_loopw [9] (fun i wr => ∃ j : Nat, j ≤ n ∧ i = .int .i64 j ∧ Blk wr w.heap.size 26 #[.int .i64 P, .slice A n c] ∧ Below w.heap.size w wr ∧ Hid (skTo P sq M n j 0)) (fun i _ => n - (intOf i).toNat)
 case atStart => exact ⟨0, by omega, rfl, k0, hB0, Lib.hid ⟨fun a ha => absurd ha (by omega), fun b hb => absurd hb (by omega)⟩⟩
 case round =>
  obtain ⟨i, hi, rfl, k1, hB1, HI⟩ := hrel
  clear k0 hB0
  by_cases hlt : i < n
  · go_wp2
    go_loopw [14] (fun k wr => ∃ j : Nat, j ≤ n ∧ k = .int .i64 j ∧ Blk wr w.heap.size 26 #[.int .i64 P, .slice A n c] ∧ Below w.heap.size w wr ∧ Hid (skTo P sq M n i j)) (fun i _ => n - (intOf i).toNat)
    case atStart => exact ⟨0, by omega, rfl, k1, hB1, HI⟩
    case round =>
     obtain ⟨k, hk, rfl, kk, hB, HK⟩ := hrel
     clear k1 hB1
     by_cases hkt : k < n
     · have hcl : ∃ (ga oa g o gk ok gi oi ck ci : Nat) (sk si mki mik : Int), A = some ⟨ga, oa, none⟩ ∧ D = some ⟨g, o, none⟩ ∧ sk = sq.getD k 0 ∧ si = sq.getD i 0 ∧ mki = ent M k i ∧ mik = ent M i k ∧
           Hid (∀ w', Below wr.heap.size wr w' → w'.cell? ⟨ga, oa + k, none⟩ = some (.int .i64 sk) ∧ w'.cell? ⟨g, o + k, none⟩ = some (.slice (some ⟨gk, ok, none⟩) n ck) ∧ w'.cell? ⟨gk, ok + i, none⟩ = some (.int .i64 mki) ∧ w'.cell? ⟨ga, oa + i, none⟩ = some (.int .i64 si) ∧ w'.cell? ⟨g, o + i, none⟩ = some (.slice (some ⟨gi, oi, none⟩) n ci) ∧ w'.cell? ⟨gi, oi + k, none⟩ = some (.int .i64 mik)) := by
        obtain ⟨ga, oa, rfl, hxk, hck⟩ := (ha.below hB).int hkt
        obtain ⟨ga', oa', e1, hxi, hci⟩ := (ha.below hB).int hlt
        cases e1
        obtain ⟨g, o, rfl, hyk, Ak, ck, hdk, hrk, -⟩ := (hd.below hB).at_ hkt
        obtain ⟨g', o', e2, hyi, Ai, ci, hdi, hri, -⟩ := (hd.below hB).at_ hlt
        cases e2
        have lk := (HM.out M[k] (List.getElem_mem hyk)).1
        have li := (HM.out M[i] (List.getElem_mem hyi)).1
        rw [lk] at hdk hrk
        rw [li] at hdi hri
        obtain ⟨gk, ok, rfl, hzk, hek⟩ := hrk.int hlt
        obtain ⟨gi, oi, rfl, hzi, hei⟩ := hri.int hkt
        refine ⟨ga, oa, g, o, gk, ok, gi, oi, ck, ci, sq[k], sq[i], M[k][i], M[i][k], rfl, rfl, (getD_of_lt 0 hxk).symm, (getD_of_lt 0 hxi).symm, (ent_at hyk hzk).symm, (ent_at hyi hzi).symm, Lib.hid fun w' h => ⟨?_, ?_, ?_, ?_, ?_, ?_⟩⟩
        · exact (h.cell (World.block_lt_of_cell? _ _ hck)).trans hck
        · exact (h.cell (World.block_lt_of_cell? _ _ hdk)).trans hdk
        · exact (h.cell (World.block_lt_of_cell? _ _ hek)).trans hek
        · exact (h.cell (World.block_lt_of_cell? _ _ hci)).trans hci
        · exact (h.cell (World.block_lt_of_cell? _ _ hdi)).trans hdi
        · exact (h.cell (World.block_lt_of_cell? _ _ hei)).trans hei
       obtain ⟨ga, oa, g, o, gk, ok, gi, oi, ck, ci, sk, si, mki, mik, rfl, rfl, e1, e2, e3, e4, HC⟩ := hcl
       have b1 : 0 ≤ sk ∧ sk < P := by rw [e1]; exact HSN.out.getD (by omega) k
       have b2 : 0 ≤ si ∧ si < P := by rw [e2]; exact HSN.out.getD (by omega) i
       have b3 : 0 ≤ mki ∧ mki < P := by rw [e3]; exact HM.out.ent (by omega) k i
       have b4 : 0 ≤ mik ∧ mik < P := by rw [e4]; exact HM.out.ent (by omega) i k
       have hz0 : skZ P sq M i k = (sk * mki + si * mik) % P := by rw [e1, e2, e3, e4]; rfl
       obtain ⟨z, hz⟩ : ∃ z, z = (sk * mki + si * mik) % P := ⟨_, rfl⟩
       have m1 := mul_two_small hp2 b1 b3
       have m2 := mul_two_small hp2 b2 b4
       have W1 := i64_fit (sk * mki) (by omega) (by omega)
       have W2 := i64_fit (si * mik) (by omega) (by omega)
       have W3 := i64_fit (sk * mki + si * mik) (by omega) (by omega)
       have hnum9 := fun w' => num_any P (sk * mki + si * mik) w' (by omega) hp2 (by omega) (by omega)
       rw [← hz] at hnum9
       obtain ⟨b, hb0⟩ : ∃ b, b = (z != 0) := ⟨_, rfl⟩
       have HZ : Hid ((b = true → R = false) ∧ (b = false → skTo P sq M n i (k + 1))) := Lib.hid ⟨fun h => by rw [HR.out]; exact sk_stop (by rw [HSL.out]; exact hlt) (by rw [HSL.out]; exact hkt) (by rw [hz0, ← hz]; rw [h] at hb0; simpa using hb0.symm), fun h => HK.out.next (by rw [hz0, ← hz]; rw [h] at hb0; simpa using hb0.symm)⟩
       have hb1 : (z != 0) = b := hb0.symm
       clear e1 e2 e3 e4 hz0 hz m1 m2 b1 b2 b3 b4 hb0
       obtain ⟨q0, q1⟩ := kk.two
       go_wp2
       refine wp_obs 31 [[],[0],[],[2],[],[2,3,4],[2,3,4,5],[],[],[7,8],[7,8,9],[],[7,8,9,10,11],[7,8,9,10,11,12],[2,3,4,5,6,7,8,9,10,11,12,13],[],[15],[],[15,16,17],[15,16,17,18],[],[],[20,21],[20,21,22],[],[20,21,22,23,24],[20,21,22,23,24,25],[15,16,17,18,19,20,21,22,23,24,25,26],[2,3,4,5,6,7,8,9,10,11,12,13,14,15,16,17,18,19,20,21,22,23,24,25,26,27],[0,1,2,3,4,5,6,7,8,9,10,11,12,13,14,15,16,17,18,19,20,21,22,23,24,25,26,27,28],[0,1,2,3,4,5,6,7,8,9,10,11,12,13,14,15,16,17,18,19,20,21,22,23,24,25,26,27,28,29]] [VIs (.agg #[.int .i64 P, .slice (some ⟨ga, oa, none⟩) n c]), VIs (.int .i64 (P)), VIs (.pointer (some ⟨w.heap.size, 1, none⟩)), VIs (.slice (some ⟨ga, oa, none⟩) n c), VIs (.int .i64 (k)), VIs (.pointer (some ⟨ga, oa + k, none⟩)), VIs (.int .i64 (sk)), VIs (.slice (some ⟨g, o, none⟩) n d), VIs (.int .i64 (k)), VIs (.pointer (some ⟨g, o + k, none⟩)), VIs (.slice (some ⟨gk, ok, none⟩) n ck), VIs (.int .i64 (i)), VIs (.pointer (some ⟨gk, ok + i, none⟩)), VIs (.int .i64 (mki)), VIs (.int .i64 (sk * mki)), VIs (.pointer (some ⟨w.heap.size, 1, none⟩)), VIs (.slice (some ⟨ga, oa, none⟩) n c), VIs (.int .i64 (i)), VIs (.pointer (some ⟨ga, oa + i, none⟩)), VIs (.int .i64 (si)), VIs (.slice (some ⟨g, o, none⟩) n d), VIs (.int .i64 (i)), VIs (.pointer (some ⟨g, o + i, none⟩)), VIs (.slice (some ⟨gi, oi, none⟩) n ci), VIs (.int .i64 (k)), VIs (.pointer (some ⟨gi, oi + k, none⟩)), VIs (.int .i64 (mik)), VIs (.int .i64 (si * mik)), VIs (.int .i64 (sk * mki + si * mik)), VIs (.int .i64 (z)), VIs (.bool b)] (fun w' => Blk w' w.heap.size 26 #[.int .i64 P, .slice (some ⟨ga, oa, none⟩) n c] ∧ Below wr.heap.size wr w') (by kernel_rfl) (by kernel_rfl) (fun _ _ h hb => ⟨h.1.below hb h.1.lt, h.2.trans (hb.mono h.2.size)⟩) (⟨kk.drew, zG.drew⟩) (fun x => ?_)
       refine zS (fun w' hS hV K hK => ?_) ?_
       · obtain ⟨q0, q1⟩ := hS.1.two; obtain ⟨q2, q3, q4, q5, q6, q7⟩ := HC.out _ hS.2; go_simp; exact zO hK
       refine zS (fun w' hS hV K hK => ?_) ?_
       · have e0 := zQ hV 0; obtain ⟨q0, q1⟩ := hS.1.two; obtain ⟨q2, q3, q4, q5, q6, q7⟩ := HC.out _ hS.2; go_simp; refine (field_any _ _ _ _ _).mono ?_; rintro e v1 ⟨rfl, hb⟩; exact hK.out _ _ _ rfl rfl rfl hb
       refine zS (fun w' hS hV K hK => ?_) ?_
       · obtain ⟨q0, q1⟩ := hS.1.two; obtain ⟨q2, q3, q4, q5, q6, q7⟩ := HC.out _ hS.2; go_simp; exact zO hK
       refine zS (fun w' hS hV K hK => ?_) ?_
       · have e2 := zQ hV 2; obtain ⟨q0, q1⟩ := hS.1.two; obtain ⟨q2, q3, q4, q5, q6, q7⟩ := HC.out _ hS.2; go_simp; exact zO hK
       refine zS (fun w' hS hV K hK => ?_) ?_
       · obtain ⟨q0, q1⟩ := hS.1.two; obtain ⟨q2, q3, q4, q5, q6, q7⟩ := HC.out _ hS.2; go_simp; exact zO hK
       refine zS (fun w' hS hV K hK => ?_) ?_
       · have e3 := zQ hV 3; have e4 := zQ hV 4; obtain ⟨q0, q1⟩ := hS.1.two; obtain ⟨q2, q3, q4, q5, q6, q7⟩ := HC.out _ hS.2; go_simp; exact zO hK
       refine zS (fun w' hS hV K hK => ?_) ?_
       · have e5 := zQ hV 5; obtain ⟨q0, q1⟩ := hS.1.two; obtain ⟨q2, q3, q4, q5, q6, q7⟩ := HC.out _ hS.2; go_simp; exact zO hK
       refine zS (fun w' hS hV K hK => ?_) ?_
       · obtain ⟨q0, q1⟩ := hS.1.two; obtain ⟨q2, q3, q4, q5, q6, q7⟩ := HC.out _ hS.2; go_simp; exact zO hK
       refine zS (fun w' hS hV K hK => ?_) ?_
       · obtain ⟨q0, q1⟩ := hS.1.two; obtain ⟨q2, q3, q4, q5, q6, q7⟩ := HC.out _ hS.2; go_simp; exact zO hK
       refine zS (fun w' hS hV K hK => ?_) ?_
       · have e7 := zQ hV 7; have e8 := zQ hV 8; obtain ⟨q0, q1⟩ := hS.1.two; obtain ⟨q2, q3, q4, q5, q6, q7⟩ := HC.out _ hS.2; go_simp; exact zO hK
       refine zS (fun w' hS hV K hK => ?_) ?_
       · have e9 := zQ hV 9; obtain ⟨q0, q1⟩ := hS.1.two; obtain ⟨q2, q3, q4, q5, q6, q7⟩ := HC.out _ hS.2; go_simp; exact zO hK
       refine zS (fun w' hS hV K hK => ?_) ?_
       · obtain ⟨q0, q1⟩ := hS.1.two; obtain ⟨q2, q3, q4, q5, q6, q7⟩ := HC.out _ hS.2; go_simp; exact zO hK
       refine zS (fun w' hS hV K hK => ?_) ?_
       · have e10 := zQ hV 10; have e11 := zQ hV 11; obtain ⟨q0, q1⟩ := hS.1.two; obtain ⟨q2, q3, q4, q5, q6, q7⟩ := HC.out _ hS.2; go_simp; exact zO hK
       refine zS (fun w' hS hV K hK => ?_) ?_
       · have e12 := zQ hV 12; obtain ⟨q0, q1⟩ := hS.1.two; obtain ⟨q2, q3, q4, q5, q6, q7⟩ := HC.out _ hS.2; go_simp; exact zO hK
       refine zS (fun w' hS hV K hK => ?_) ?_
       · have e6 := zQ hV 6; have e13 := zQ hV 13; obtain ⟨q0, q1⟩ := hS.1.two; obtain ⟨q2, q3, q4, q5, q6, q7⟩ := HC.out _ hS.2; go_simp; exact zO hK
       refine zS (fun w' hS hV K hK => ?_) ?_
       · obtain ⟨q0, q1⟩ := hS.1.two; obtain ⟨q2, q3, q4, q5, q6, q7⟩ := HC.out _ hS.2; go_simp; exact zO hK
       refine zS (fun w' hS hV K hK => ?_) ?_
       · have e15 := zQ hV 15; obtain ⟨q0, q1⟩ := hS.1.two; obtain ⟨q2, q3, q4, q5, q6, q7⟩ := HC.out _ hS.2; go_simp; exact zO hK
       refine zS (fun w' hS hV K hK => ?_) ?_
       · obtain ⟨q0, q1⟩ := hS.1.two; obtain ⟨q2, q3, q4, q5, q6, q7⟩ := HC.out _ hS.2; go_simp; exact zO hK
       refine zS (fun w' hS hV K hK => ?_) ?_
       · have e16 := zQ hV 16; have e17 := zQ hV 17; obtain ⟨q0, q1⟩ := hS.1.two; obtain ⟨q2, q3, q4, q5, q6, q7⟩ := HC.out _ hS.2; go_simp; exact zO hK
       refine zS (fun w' hS hV K hK => ?_) ?_
       · have e18 := zQ hV 18; obtain ⟨q0, q1⟩ := hS.1.two; obtain ⟨q2, q3, q4, q5, q6, q7⟩ := HC.out _ hS.2; go_simp; exact zO hK
       refine zS (fun w' hS hV K hK => ?_) ?_
       · obtain ⟨q0, q1⟩ := hS.1.two; obtain ⟨q2, q3, q4, q5, q6, q7⟩ := HC.out _ hS.2; go_simp; exact zO hK
       refine zS (fun w' hS hV K hK => ?_) ?_
       · obtain ⟨q0, q1⟩ := hS.1.two; obtain ⟨q2, q3, q4, q5, q6, q7⟩ := HC.out _ hS.2; go_simp; exact zO hK
       refine zS (fun w' hS hV K hK => ?_) ?_
       · have e20 := zQ hV 20; have e21 := zQ hV 21; obtain ⟨q0, q1⟩ := hS.1.two; obtain ⟨q2, q3, q4, q5, q6, q7⟩ := HC.out _ hS.2; go_simp; exact zO hK
       refine zS (fun w' hS hV K hK => ?_) ?_
       · have e22 := zQ hV 22; obtain ⟨q0, q1⟩ := hS.1.two; obtain ⟨q2, q3, q4, q5, q6, q7⟩ := HC.out _ hS.2; go_simp; exact zO hK
       refine zS (fun w' hS hV K hK => ?_) ?_
       · obtain ⟨q0, q1⟩ := hS.1.two; obtain ⟨q2, q3, q4, q5, q6, q7⟩ := HC.out _ hS.2; go_simp; exact zO hK
       refine zS (fun w' hS hV K hK => ?_) ?_
       · have e23 := zQ hV 23; have e24 := zQ hV 24; obtain ⟨q0, q1⟩ := hS.1.two; obtain ⟨q2, q3, q4, q5, q6, q7⟩ := HC.out _ hS.2; go_simp; exact zO hK
       refine zS (fun w' hS hV K hK => ?_) ?_
       · have e25 := zQ hV 25; obtain ⟨q0, q1⟩ := hS.1.two; obtain ⟨q2, q3, q4, q5, q6, q7⟩ := HC.out _ hS.2; go_simp; exact zO hK
       refine zS (fun w' hS hV K hK => ?_) ?_
       · have e19 := zQ hV 19; have e26 := zQ hV 26; obtain ⟨q0, q1⟩ := hS.1.two; obtain ⟨q2, q3, q4, q5, q6, q7⟩ := HC.out _ hS.2; go_simp; exact zO hK
       refine zS (fun w' hS hV K hK => ?_) ?_
       · have e14 := zQ hV 14; have e27 := zQ hV 27; obtain ⟨q0, q1⟩ := hS.1.two; obtain ⟨q2, q3, q4, q5, q6, q7⟩ := HC.out _ hS.2; go_simp; exact zO hK
       refine zS (fun w' hS hV K hK => ?_) ?_
       · have e1 := zQ hV 1; have e28 := zQ hV 28; obtain ⟨q0, q1⟩ := hS.1.two; obtain ⟨q2, q3, q4, q5, q6, q7⟩ := HC.out _ hS.2; go_simp; refine (hnum9 _).mono ?_; rintro e v1 ⟨rfl, rfl⟩; exact zO hK
       refine zS (fun w' hS hV K hK => ?_) ?_
       · have e29 := zQ hV 29; obtain ⟨q0, q1⟩ := hS.1.two; obtain ⟨q2, q3, q4, q5, q6, q7⟩ := HC.out _ hS.2; go_simp; exact zO hK
       refine fun w' hS hV => ?_
       have e0 := zT hV 0
       have e1 := zT hV 1
       have e2 := zT hV 2
       have e3 := zT hV 3
       have e4 := zT hV 4
       have e5 := zT hV 5
       have e6 := zT hV 6
       have e7 := zT hV 7
       have e8 := zT hV 8
       have e9 := zT hV 9
       have e10 := zT hV 10
       have e11 := zT hV 11
       have e12 := zT hV 12
       have e13 := zT hV 13
       have e14 := zT hV 14
       have e15 := zT hV 15
       have e16 := zT hV 16
       have e17 := zT hV 17
       have e18 := zT hV 18
       have e19 := zT hV 19
       have e20 := zT hV 20
       have e21 := zT hV 21
       have e22 := zT hV 22
       have e23 := zT hV 23
       have e24 := zT hV 24
       have e25 := zT hV 25
       have e26 := zT hV 26
       have e27 := zT hV 27
       have e28 := zT hV 28
       have e29 := zT hV 29
       have e30 := zT hV 30
       simp only [e0, e1, e2, e3, e4, e5, e6, e7, e8, e9, e10, e11, e12, e13, e14, e15, e16, e17, e18, e19, e20, e21, e22, e23, e24, e25, e26, e27, e28, e29, e30]
       clear e0 e1 e2 e3 e4 e5 e6 e7 e8 e9 e10 e11 e12 e13 e14 e15 e16 e17 e18 e19 e20 e21 e22 e23 e24 e25 e26 e27 e28 e29 e30
       refine wpAny_done (by kernel_rfl) ?_ _
       have k8 := hS.1
       have hB8 := hB.trans (hS.2.mono hB.size)
       clear hS q0 q1 kk hB hb1
       cases b
       · have HZ1 := Lib.hid (HZ.out.2 rfl)
         clear HZ
         go_wp2
         go_roundw
         case rel => exact ⟨k + 1, by omega, by go_num, k8, hB8, HZ1⟩
         case measure => simp [intOf]; omega
       · obtain rfl : R = false := HZ.out.1 rfl
         clear HZ
         go_wp2
         go_ret
         exact ⟨rfl, hB8⟩
     · have HK1 : Hid (skTo P sq M n (i + 1) 0) := Lib.hid (by have h := HK.out; rw [show k = n by omega] at h; exact h.row)
       go_wp2
       go_roundw
       case rel => exact ⟨i + 1, by omega, by go_num, kk, hB, HK1⟩
       case measure => simp [intOf]; omega
  · obtain rfl : R = true := by
     rw [HR.out]
     have h := HI.out
     rw [show i = sq.length by rw [HSL.out]; omega, show n = sq.length from HSL.out.symm] at h
     exact h.end_
    go_wp2
    go_ret
    exact ⟨rfl, hB1⟩
end Go.Proofs.YtmkjdpnoloofjaaGreat
