/-
  LawFnDerivations: part 8 of the texts that the proof needs. No condition.
-/
import Derived.Test.YtaiegpggccdgoaaGreatD7
namespace Go.Proofs.YtaiegpggccdgoaaGreat
open Go Go.RowKit
theorem slice_mid {g o c m lo hi : Nat} (w : World) (h1 : lo ≤ hi) (h2 : hi ≤ c) (h3 : lo < c) : (Instr.slice 24 (.slice (some ⟨g, o, none⟩) m c) (some (.int .i64 (lo : Int))) (some (.int .i64 (hi : Int))) none).run Tryz.prog w = .ok (.slice (some ⟨g, o + lo, none⟩) (hi - lo) (c - lo)) w := by
 have h := run_slice_lh (P := Tryz.prog) (w := w) (t := 24) (a := some ⟨g, o, none⟩) (len := m) (cap := c) (ht := by kernel_rfl) (kl := .i64) (kh := .i64) (l := (lo : Int)) (h := (hi : Int)) (h0 := by omega) (h1 := by omega) (h2 := by omega)
 have hne : c ≠ lo := by omega
 rw [h]
 simp [go_sem, sliced, hne, Addr.add]
/-- A list of numbers as rows of n numbers. -/
def rowsL (xs : List Int) (n cnt : Nat) : List (List Int) := tab cnt fun i => (xs.drop (i * n)).take n
theorem rowsL_len (xs : List Int) (n cnt : Nat) : (rowsL xs n cnt).length = cnt := tab_len _ _
theorem rowsL_tab {p : Int} {xs : List Int} (hx : NumsL p xs) (n cnt : Nat) (hl : xs.length = cnt * n) : Tab p n (rowsL xs n cnt) := Tab.tab fun i hi => by
 refine ⟨?_, fun v hv => hx v (List.mem_of_mem_drop (List.mem_of_mem_take hv))⟩
 rw [List.length_take, List.length_drop, hl]
 have := Nat.mul_le_mul_right n (show i + 1 ≤ cnt by omega)
 rw [Nat.add_mul, Nat.one_mul] at this
 omega
theorem rowsL_ent {xs : List Int} {n cnt i j : Nat} (hi : i < cnt) (hj : j < n) : ent (rowsL xs n cnt) i j = xs.getD (i * n + j) 0 := by
 unfold ent rowsL
 rw [tab_getD hi, take_gD hj, drop_getD]
set_option maxHeartbeats 1600000 in
set_option maxRecDepth 8000 in
theorem rowsIn_any (X : Option Addr) (m cx : Nat) (xs : List Int) (n cnt : Nat) (w : World) (h0 : 0 < n) (hn : n ≤ 64) (hcnt : cnt ≤ 1000) (hm : m = cnt * n) (hcx : m ≤ cx) (hx : Rd w X m (ints xs)) :
    Calls Tryz.prog 75 #[.slice X m cx, .int .i64 n] w fun e w' => ∃ A' c', e = .returned (.slice A' cnt c') ∧ MkII w w' A' cnt c' (rowsL xs n cnt) := by
 have hM0 : MkII w (w.alloc (.cells #[] 24)) (some ⟨w.heap.size, 0, none⟩) 0 0 [] := MkII.empty zG
 have hmB : m ≤ 64000 := by rw [hm]; exact Nat.mul_le_mul hcnt hn
 have HM := Lib.hid hm
 have HXL := Lib.hid hx.lenI
 clear hm
 go_enter Tryz.func75, Tryz.ntmps75
 go_wp2
 go_loopw [5, 6] (fun out i wr => ∃ (j t : Nat) (A' : Option Addr) (c' : Nat), j ≤ cnt ∧ i = .int .i64 t ∧ Hid (t = j * n) ∧ t ≤ 64000 ∧ out = .slice A' j c' ∧ Hid (MkII w wr A' j c' (rowsL xs n j))) (fun _ i _ => m - (intOf i).toNat)
 case atStart => exact ⟨0, 0, _, _, by omega, rfl, Lib.hid (by simp), by omega, rfl, Lib.hid hM0⟩
 case round =>
  obtain ⟨j, t, A', c', hj, rfl, HTT, ht, rfl, HMM⟩ := hrel
  clear hM0
  by_cases hlt : t < m
  · have hjc : j < cnt := by
     refine Nat.lt_of_le_of_ne hj fun e => ?_
     have h1 := HTT.out
     have h2 := HM.out
     rw [e] at h1
     omega
    have htn : t + n ≤ m := by
     have h1 := HTT.out
     have h2 := HM.out
     have h3 := Nat.mul_le_mul_right n (show j + 1 ≤ cnt by omega)
     rw [Nat.add_mul, Nat.one_mul] at h3
     omega
    obtain ⟨gx, ox, rfl, hx2⟩ := (hx.below HMM.out.b).behind hlt
    have hx3 := hx2.cut (show n ≤ m - t by omega)
    rw [ints_drop, ints_take] at hx3
    have s1 := fun w => slice_mid (g := gx) (o := ox) (c := cx) (m := m) (lo := t) (hi := t + n) w (by omega) (by omega) (by omega)
    simp only [Nat.add_sub_cancel_left] at s1
    have e1 : ((t + n : Nat) : Int) = (t : Int) + (n : Int) := by omega
    rw [e1] at s1
    have hcl := clone_any (some ⟨gx, ox + t, none⟩) n (cx - t) ((xs.drop t).take n) wr (by omega) hx3
    have HT2 : Hid (t + n = (j + 1) * n) := Lib.hid (by rw [HTT.out, Nat.add_mul, Nat.one_mul])
    have HRO : Hid (rowsL xs n (j + 1) = rowsL xs n j ++ [(xs.drop t).take n]) := Lib.hid (by unfold rowsL; rw [tab_succ, ← HTT.out])
    clear hx hx2 hx3 e1
    go_wp2_with fail
    refine hcl.mono ?_
    rintro e w1 ⟨A1, c1, rfl, hM1⟩
    clear hcl
    go_wp2_with (at_builtin; refine wpList_appRow w wr _ rfl _ _ rfl A' j c' _ A1 n c1 _ HMM.out hM1 (by omega) rfl ?_ ?_; (go_simp); intro A4 c4 w4 hM4)
    go_roundw
    case rel => exact ⟨j + 1, t + n, A4, c4, by omega, by go_num, HT2, by omega, rfl, Lib.hid (by rw [HRO.out]; exact hM4)⟩
    case measure => simp [intOf]; omega
  · obtain rfl : j = cnt := by
     refine Nat.le_antisymm hj (Nat.le_of_not_lt fun h => hlt ?_)
     have h1 := HTT.out
     have h2 := HM.out
     have h3 := Nat.mul_le_mul_right n (show j + 1 ≤ cnt by omega)
     rw [Nat.add_mul, Nat.one_mul] at h3
     omega
    go_wp2
    go_ret
    exact ⟨_, _, rfl, HMM.out⟩
/-- A list of matrices, each of the call's own. -/
def MkM3 (w0 w : World) (A : Option Addr) (n c : Nat) (mss : List (List (List Int))) : Prop := ∃ rows, Mk w0 w 32 A n c rows ∧ rows.length = mss.length ∧
 ∀ (k : Nat) (h : k < mss.length), ∃ A' c', rows[k]? = some (.slice A' mss[k].length c') ∧ MkII w0 w A' mss[k].length c' mss[k]
theorem MkII.grownBy {w0 w w' : World} {A : Option Addr} {n c : Nat} {xss : List (List Int)} (h : MkII w0 w A n c xss) {B : Nat} {A2 : Option Addr} {n2 c2 : Nat} {us : List Value} (ho : Own w w0.heap.size 32 A2 n2 c2 us) (hg : w.grownBy w' (Value.slice A2 n2 c2).ownBlock) : MkII w0 w' A n c xss := by
 obtain ⟨rows, hm, hn⟩ := h
 exact ⟨rows, ⟨hm.1.grown hg hm.1.size (fun k hk => (ho.lt k hk).1), hm.2.grown hg (hm.2.ne ho (by decide))⟩, hn.grown ho (by decide) hg⟩
theorem MkM3.rd {w0 w : World} {A : Option Addr} {n c : Nat} {mss : List (List (List Int))} (h : MkM3 w0 w A n c mss) : RdM3 w A n mss := by
 obtain ⟨rows, hm, hl, hk⟩ := h
 exact ⟨rows, hm.rd, hl, fun k hlt => by
  obtain ⟨A', c', e, ho⟩ := hk k hlt
  exact ⟨A', c', e, ho.rd, by obtain ⟨us, hm⟩ := ho.outer; exact hm.2.cap⟩⟩
theorem MkM3.below {w0 w w' : World} {A : Option Addr} {n c : Nat} {mss : List (List (List Int))} (h : MkM3 w0 w A n c mss) (hb : Below w.heap.size w w') : MkM3 w0 w' A n c mss := by
 obtain ⟨rows, hm, hl, hk⟩ := h
 exact ⟨rows, hm.below hb, hl, fun k hlt => by obtain ⟨A', c', e, ho⟩ := hk k hlt; exact ⟨A', c', e, ho.below hb⟩⟩
theorem MkM3.b {w0 w : World} {A : Option Addr} {n c : Nat} {mss : List (List (List Int))} (h : MkM3 w0 w A n c mss) : Below w0.heap.size w0 w := by
 obtain ⟨_, hm, _⟩ := h; exact hm.1
theorem MkM3.empty {w0 w : World} (h : Below w0.heap.size w0 w) : MkM3 w0 (w.alloc (.cells #[] 32)) (some ⟨w.heap.size, 0, none⟩) 0 0 [] := ⟨[], Mk.lit h #[] (by simp), rfl, fun k hk => absurd hk (by simp)⟩
theorem info_ss : (Tryz.prog.info? 32).map (fun i => (i.zero, i.size, i.bytes)) = some (some (.slice none 0 0), 1, 24) := by kernel_rfl
/-- A new matrix is appended. -/
theorem wpList_appM {ops : Array Oper} {rest : List Oper} {o : Oper} {a : Act} {Q : Exit → Act → World → Prop} (w0 w1 : World)
    (hgd : o.guard = none) (s x : Operand) (ho : o.op = .call { callee := .builtin .append, args := #[s, x], argTypes := #[52, 52] })
    (A : Option Addr) (n c : Nat) (mss : List (List (List Int))) (A1 : Option Addr) (m c1 : Nat) (M : List (List Int)) (hM : MkM3 w0 w1 A n c mss) (hr : MkII w0 w1 A1 m c1 M) (hn : n ≤ 1099511627776)
    (hs : a.eval s = .slice A n c) (hx : a.eval x = .slice (some ⟨w1.heap.size, 0, none⟩) 1 1)
    (h : ∀ A' c' w', MkM3 w0 w' A' (n + 1) c' (mss ++ [M]) → w1.grownBy w' (Value.slice A n c).ownBlock → (∃ g, A' = some ⟨g, 0, none⟩ ∧ ((Value.slice A n c).ownBlock = some g ∨ w1.heap.size ≤ g)) → wpList Tryz.prog ops Q rest (a.put o.dst (.slice A' (n + 1) c')) w') :
    wpList Tryz.prog ops Q (o :: rest) a (w1.alloc (.cells #[.slice A1 m c1] 32)) := by
 obtain ⟨rows, hm, hl, hrow⟩ := hM
 have hml : M.length = m := hr.len
 subst hml
 refine wpList_app1 w0 w1 52 32 (.slice none 0 0) 24 Tryz.underlying52 info_ss rfl (by omega) hgd s x ho A n c rows (.slice A1 M.length c1) hm hn rfl hs hx ?_
 intro A' c' w' hM' hg hat
 refine h A' c' w' ⟨_, hM', by simp [hl], fun k hk => ?_⟩ hg hat
 by_cases hlt : k < mss.length
 · obtain ⟨A2, c2, e, ho2⟩ := hrow k hlt
   simp only [List.getElem_append_left hlt]
   exact ⟨A2, c2, by rw [List.getElem?_append_left (by omega)]; exact e, ho2.grownBy (B := 0) hm.2 hg⟩
 · have hk' : k = mss.length := by simp at hk; omega
   subst hk'
   simp only [List.getElem_append_right (Nat.le_refl _), Nat.sub_self, List.getElem_cons_zero]
   exact ⟨A1, c1, by rw [List.getElem?_append_right (by omega), hl, Nat.sub_self]; rfl, hr.grownBy (B := 0) hm.2 hg⟩
theorem MkM3.ne_blk {w0 w : World} {A : Option Addr} {n c g : Nat} {mss : List (List (List Int))} {t : TypeId} {cs : Array Value} (h : MkM3 w0 w A n c mss) (hb : Blk w g t cs) (hE : 32 ≠ t) : some g ≠ (Value.slice A n c).ownBlock := by
 obtain ⟨rows, hm, _⟩ := h
 exact hm.2.ne_blk hb hE
/-- The value is a slice of rows that lie anywhere. -/
def VO (w0 : World) (n : Nat) (L : List (List Int)) : VP := ⟨fun v w => ∃ A c, v = .slice A n c ∧ MkO w0 w A n c L, fun _ _ _ ⟨A, c, e, h⟩ hb => ⟨A, c, e, h.below hb⟩⟩
theorem isDb_unit {p : Int} {st : List Int} (h : isDb p st = true) : ∀ b, b < st.length → st.getD b 0 % p ≠ 0 := fun b hb => by
 obtain ⟨HP, -, hn⟩ := isDb_facts h
 have h0 : st.contains 0 = false := by
  unfold isDb at h
  simp only [Bool.and_eq_true] at h
  simpa using h.2
 have hm : st.getD b 0 ∈ st := getD_mem 0 hb
 have := hn _ hm
 have hz : st.getD b 0 ≠ 0 := fun e => by
  rw [e] at hm
  have : st.contains 0 = true := List.contains_iff_mem.2 hm
  rw [h0] at this; cases this
 rw [Int.emod_eq_of_lt this.1 this.2]
 exact hz
theorem derN_le : ∀ k, k < 4 → derN k ≤ 14 := by decide
/-- DerivationDimension. -/
def ddimR (p : Int) (st : List Int) : Int × Int := if codeT p st [] [] = 0 then ((derN st.length : Nat), 0) else (0, codeT p st [] [])
set_option maxHeartbeats 3200000 in
set_option maxRecDepth 8000 in
theorem l14Basis_any (p : Int) (HP : isP p = true) (k : Nat) (hk3 : k ≤ 3) (A : Option Addr) (c : Nat) (st : List Int) (w : World) (hc : k ≤ c) (ha : Rd w A k (ints st)) (hst : NumsL p st) :
    Calls Tryz.prog 74 #[.agg #[.int .i64 p, .slice A k c]] w fun e w' => ∃ A' c', e = .returned (.slice A' (dersL p k st).length c') ∧ MkO w w' A' (dersL p k st).length c' (dersL p k st) := by
 obtain ⟨hp3, hp2⟩ := isP_ge HP
 have hp : 2 ≤ p := by omega
 have hpk : pw k ≤ 8 := pw_le hk3
 have hB0 : Below w.heap.size w (w.alloc (.cells #[.int .i64 p, .slice A k c] 26)) := zG.alloc (Nat.le_refl _) _
 have k0 : Blk (w.alloc (.cells #[.int .i64 p, .slice A k c] 26)) w.heap.size 26 #[.int .i64 p, .slice A k c] := Blk.new _ _ _
 have heq := fun w' (h : Below w.heap.size w w') => l14Equations_any p hp hp2 k (by omega) A c st w' hk3 hc (ha.below h) hst
 have hsz := fun w' => l11Size_any p A k c w' (by omega)
 obtain ⟨EQ, hEQ⟩ : ∃ z, z = tab (pw k * pw k * pw k) (eqF p (pw k) (prodM p k st)) := ⟨_, rfl⟩
 obtain ⟨n, hn⟩ : ∃ n, n = pw k := ⟨_, rfl⟩
 obtain ⟨N, hN⟩ : ∃ N, N = n * n := ⟨_, rfl⟩
 obtain ⟨T0, hT0⟩ : ∃ N, N = n * n * n := ⟨_, rfl⟩
 have hN64 : N ≤ 64 := by rw [hN, hn]; exact Nat.mul_le_mul hpk hpk
 have hT5 : T0 ≤ 512 := by rw [hT0, ← hN]; exact Nat.mul_le_mul hN64 (show n ≤ 8 by rw [hn]; exact hpk)
 have HTB : Hid (Tab p N EQ) := Lib.hid (by rw [hEQ, hN, hn]; exact eqF_tab (by omega) _ _ _)
 rw [← hEQ, ← hn, ← hT0] at heq
 rw [← hn] at hsz hpk
 have hke : ∀ w' (A2 : Option Addr) (c2 : Nat), RdII w' A2 T0 EQ → Calls Tryz.prog 104 #[.int .i64 p, .int .i64 N, .slice A2 T0 c2] w' fun e w'' => ∃ A' c', e = .returned (.slice A' (dersL p k st).length c') ∧ MkO w' w'' A' (dersL p k st).length c' (dersL p k st) := fun w' A2 c2 h => by
  have := l12Kernel_any p A2 T0 c2 EQ N w' HP (by omega) (by omega) h HTB.out
  rw [show kernL p EQ N = dersL p k st by rw [hEQ, hN, hn]; rfl] at this
  exact this
 obtain ⟨ZZ, hZZ⟩ : ∃ z, z = dersL p k st := ⟨_, rfl⟩
 rw [← hZZ] at hke ⊢
 obtain ⟨ZL, hZL⟩ : ∃ z, z = ZZ.length := ⟨_, rfl⟩
 rw [← hZL] at hke ⊢
 have HEQ := Lib.hid heq
 have HKE := Lib.hid hke
 have fN2 : (n : Int) * (n : Int) = (N : Int) := by rw [← Int.natCast_mul, ← hN]
 obtain ⟨q0, q1⟩ := k0.two
 clear hEQ hn hN hT0 heq hke hZZ hZL HTB HP ha hst
 go_enter Tryz.func74, Tryz.ntmps74
 go_wp2_with fail
 refine (hsz _).mono ?_
 rintro e w1 ⟨rfl, hb1⟩
 have k1 := k0.below hb1 k0.lt
 have hB1 := hB0.trans (hb1.mono hB0.size)
 clear q0 q1 k0 hB0 hb1 hsz
 go_wp2
 refine wp_obs 9 [[],[0],[],[],[2,3],[],[5],[0,1,2,3,4,5,6],[0,1,2,3,4,5,6,7]] [VIs (.pointer (some ⟨w.heap.size, 0, none⟩)), VIs (.int .i64 (p)), VIs (.int .i64 (n)), VIs (.int .i64 (n)), VIs (.int .i64 (N)), VIs (.agg #[.int .i64 p, .slice A k c]), VMat w T0 EQ, VO w ZL ZZ, VO w ZL ZZ] (fun w' => Blk w' w.heap.size 26 #[.int .i64 p, .slice A k c] ∧ Below w.heap.size w w') (by kernel_rfl) (by kernel_rfl) (fun _ _ h hb => ⟨h.1.below hb h.1.lt, h.2.trans (hb.mono h.2.size)⟩) (⟨k1.drew, hB1.drew⟩) (fun x => ?_)
 refine zS (fun w' hS hV K hK => ?_) ?_
 · obtain ⟨q0, q1⟩ := hS.1.two; go_simp; exact zO hK
 refine zS (fun w' hS hV K hK => ?_) ?_
 · have e0 := zQ hV 0; obtain ⟨q0, q1⟩ := hS.1.two; go_simp; exact zO hK
 refine zS (fun w' hS hV K hK => ?_) ?_
 · obtain ⟨q0, q1⟩ := hS.1.two; go_simp; exact zO hK
 refine zS (fun w' hS hV K hK => ?_) ?_
 · obtain ⟨q0, q1⟩ := hS.1.two; go_simp; exact zO hK
 refine zS (fun w' hS hV K hK => ?_) ?_
 · have e2 := zQ hV 2; have e3 := zQ hV 3; obtain ⟨q0, q1⟩ := hS.1.two; go_simp; exact hK.out _ _ _ rfl rfl (by first | rfl | exact congrArg (Value.int .i64) (by omega) | exact congrArg (Value.int .i64) ((i64_fit _ (by omega) (by omega)).trans (by omega))) zG
 refine zS (fun w' hS hV K hK => ?_) ?_
 · obtain ⟨q0, q1⟩ := hS.1.two; go_simp; exact zO hK
 refine zS (fun w' hS hV K hK => ?_) ?_
 · have e5 := zQ hV 5; obtain ⟨q0, q1⟩ := hS.1.two; go_simp; refine (HEQ.out w' hS.2).mono ?_; rintro e v1 ⟨A9, c9, rfl, hM⟩; exact hK.out _ _ _ rfl rfl ⟨_, _, rfl, hM.after hS.2⟩ hM.b
 refine zS (fun w' hS hV K hK => ?_) ?_
 · have e1 := zQ hV 1; have e4 := zQ hV 4; obtain ⟨A6, c6, e6, h6⟩ := hV 6 (by decide); obtain ⟨q0, q1⟩ := hS.1.two; go_simp; refine (HKE.out w' A6 c6 h6.rd).mono ?_; rintro e v1 ⟨A9, c9, rfl, hM⟩; exact hK.out _ _ _ rfl rfl ⟨_, _, rfl, hM.after hS.2⟩ hM.b
 refine zS (fun w' hS hV K hK => ?_) ?_
 · obtain ⟨A6, c6, e6, h6⟩ := hV 6 (by decide); obtain ⟨A7, c7, e7, h7⟩ := hV 7 (by decide); obtain ⟨q0, q1⟩ := hS.1.two; go_simp; exact hK.out _ _ _ rfl rfl ⟨_, _, rfl, h7⟩ zG
 refine fun w' hS hV => ?_
 have e0 := zT hV 0
 have e1 := zT hV 1
 have e2 := zT hV 2
 have e3 := zT hV 3
 have e4 := zT hV 4
 have e5 := zT hV 5
 obtain ⟨A6, c6, e6, h6⟩ := hV 6 (by decide)
 obtain ⟨A7, c7, e7, h7⟩ := hV 7 (by decide)
 obtain ⟨A8, c8, e8, h8⟩ := hV 8 (by decide)
 simp only [e0, e1, e2, e3, e4, e5, e6, e7, e8]
 clear e0 e1 e2 e3 e4 e5 e6 e7 e8
 refine wpAny_done (by kernel_rfl) ?_ _
 go_wp2
 go_ret
 exact ⟨_, _, rfl, h8⟩
set_option maxHeartbeats 1600000 in
set_option maxRecDepth 8000 in
theorem specDerivationDimension_any (p : Int) (A : Option Addr) (k c : Nat) (st : List Int) (w : World) (hk6 : k ≤ 65536) (hc : k ≤ c) (ha : Rd w A k (ints st)) :
    Calls Tryz.prog 25 #[.agg #[.int .i64 p, .slice A k c]] w fun e w' => e = .returned (.tuple #[.int .i64 (ddimR p st).1, .int .i64 (ddimR p st).2]) ∧ Below w.heap.size w w' := by
 have hB0 : Below w.heap.size w (w.alloc (.cells #[.int .i64 p, .slice A k c] 26)) := zG.alloc (Nat.le_refl _) _
 have k0 : Blk (w.alloc (.cells #[.int .i64 p, .slice A k c] 26)) w.heap.size 26 #[.int .i64 p, .slice A k c] := Blk.new _ _ _
 have hck := l14Code_any p A k c st (w.alloc (.cells #[.int .i64 p, .slice A k c] 26)) (by omega) (ha.below hB0)
 obtain ⟨z, hz⟩ : ∃ z, z = ddimR p st := ⟨_, rfl⟩
 rw [← hz]
 unfold ddimR at hz
 obtain ⟨cd, hcd⟩ : ∃ cd, cd = codeT p st [] [] := ⟨_, rfl⟩
 rw [← hcd] at hck hz
 obtain ⟨q0, q1⟩ := k0.two
 by_cases h0 : cd = 0
 · rw [if_pos h0] at hz
   obtain ⟨hdb, hk3, -, -⟩ := codeT_zero (hcd.symm.trans h0)
   obtain ⟨HP, -, hst⟩ := isDb_facts hdb
   have hun := isDb_unit hdb
   rw [ha.lenI] at hk3 hz hun
   have hL := dersL_len HP hk3 (st := st) hun
   subst h0
   have hin := fun w' (h : Below w.heap.size w w') => l14Basis_any p HP k hk3 A c st w' hc (ha.below h) hst
   obtain ⟨M, hM⟩ : ∃ M, M = dersL p k st := ⟨_, rfl⟩
   rw [← hM] at hL hin
   rw [hL] at hin
   obtain ⟨dn, hdn⟩ : ∃ z, z = derN k := ⟨_, rfl⟩
   have hd14 : dn ≤ 14 := by rw [hdn]; exact derN_le k (by omega)
   rw [← hdn] at hin hz
   rw [hz]
   have HIN := Lib.hid hin
   clear hcd hz hM hdb HP hst ha hL hun hdn hin
   go_enter Tryz.func25, Tryz.ntmps25
   go_wp2_with fail
   refine hck.mono ?_
   rintro e w2 ⟨rfl, hb2⟩
   have k2 := k0.below hb2 k0.lt
   have hB2 := hB0.trans (hb2.mono hB0.size)
   clear q0 q1 hck k0 hb2
   obtain ⟨q0, q1⟩ := k2.two
   go_wp2_with fail
   refine (HIN.out _ hB2).mono ?_
   rintro e w3 ⟨A3, c3, rfl, hM3⟩
   go_wp2
   go_ret2
   exact ⟨rfl, hB2.trans (hM3.b.mono hB2.size)⟩
 · rw [if_neg h0] at hz
   have hne : (cd == 0) = false := by simpa using h0
   rw [hz]
   clear hcd hz
   go_enter Tryz.func25, Tryz.ntmps25
   go_wp2_with fail
   refine hck.mono ?_
   rintro e w2 ⟨rfl, hb2⟩
   go_wp2
   go_ret2
   exact ⟨rfl, hB0.trans (hb2.mono hB0.size)⟩
set_option maxHeartbeats 1600000 in
set_option maxRecDepth 8000 in
theorem DerivationDimension_any (p : Int) (A : Option Addr) (k c : Nat) (st : List Int) (w : World) (hk6 : k ≤ 65536) (hc : k ≤ c) (ha : Rd w A k (ints st)) :
    Calls Tryz.prog 24 #[.agg #[.int .i64 p, .slice A k c]] w fun e w' => e = .returned (.tuple #[.int .i64 (ddimR p st).1, .int .i64 (ddimR p st).2]) ∧ Below w.heap.size w w' := by
 have hB0 : Below w.heap.size w (w.alloc (.cells #[.int .i64 p, .slice A k c] 26)) := zG.alloc (Nat.le_refl _) _
 have k0 : Blk (w.alloc (.cells #[.int .i64 p, .slice A k c] 26)) w.heap.size 26 #[.int .i64 p, .slice A k c] := Blk.new _ _ _
 have hck := checkThree_any p A none none k c 0 0 0 0 st [] [] (w.alloc (.cells #[.int .i64 p, .slice A k c] 26)) hk6 (by omega) (by omega) (ha.below hB0) ⟨[], Rd.nil _ _, rfl, fun k h => absurd h (by simp)⟩ (fun ys hy => absurd hy (by simp)) (RdM3.nil _) (fun M hM => absurd hM (by simp))
 obtain ⟨z, hz⟩ : ∃ z, z = ddimR p st := ⟨_, rfl⟩
 rw [← hz]
 unfold ddimR at hz
 obtain ⟨cd, hcd⟩ : ∃ cd, cd = codeT p st [] [] := ⟨_, rfl⟩
 rw [← hcd] at hck hz
 obtain ⟨q0, q1⟩ := k0.two
 by_cases h0 : cd = 0
 · rw [if_pos h0] at hz
   obtain ⟨hdb, hk3, -, -⟩ := codeT_zero (hcd.symm.trans h0)
   obtain ⟨HP, -, hst⟩ := isDb_facts hdb
   have hun := isDb_unit hdb
   rw [ha.lenI] at hk3 hz hun
   have hL := dersL_len HP hk3 (st := st) hun
   subst h0
   have hin := fun w' (h : Below w.heap.size w w') => dderivations_any p HP k hk3 A c st w' hc (ha.below h) hst
   obtain ⟨M, hM⟩ : ∃ M, M = dersL p k st := ⟨_, rfl⟩
   rw [← hM] at hL hin
   rw [hL] at hin
   obtain ⟨dn, hdn⟩ : ∃ z, z = derN k := ⟨_, rfl⟩
   have hd14 : dn ≤ 14 := by rw [hdn]; exact derN_le k (by omega)
   rw [← hdn] at hin hz
   rw [hz]
   have HIN := Lib.hid hin
   clear hcd hz hM hdb HP hst ha hL hun hdn hin
   go_enter Tryz.func24, Tryz.ntmps24
   go_wp2_with fail
   refine hck.mono ?_
   rintro e w2 ⟨rfl, hb2⟩
   have k2 := k0.below hb2 k0.lt
   have hB2 := hB0.trans (hb2.mono hB0.size)
   clear q0 q1 hck k0 hb2
   obtain ⟨q0, q1⟩ := k2.two
   go_wp2_with fail
   refine (HIN.out _ hB2).mono ?_
   rintro e w3 ⟨A3, c3, rfl, hM3⟩
   go_wp2_with fail
   refine (lengthS_any _ _ _ _).mono ?_
   rintro e w4 ⟨rfl, rfl⟩
   go_wp2
   go_ret2
   exact ⟨rfl, hB2.trans (hM3.b.mono hB2.size)⟩
 · rw [if_neg h0] at hz
   have hne : (cd == 0) = false := by simpa using h0
   rw [hz]
   clear hcd hz
   go_enter Tryz.func24, Tryz.ntmps24
   go_wp2_with fail
   refine hck.mono ?_
   rintro e w2 ⟨rfl, hb2⟩
   go_wp2
   go_ret2
   exact ⟨rfl, hB0.trans (hb2.mono hB0.size)⟩
set_option maxHeartbeats 3200000 in
set_option maxRecDepth 8000 in
/-- DerivationBasis, of a doubling of at most three steps. -/
theorem DerivationBasis_ok (p : Int) (A : Option Addr) (k c : Nat) (st : List Int) (w : World) (hk6 : k ≤ 65536) (hc : k ≤ c) (ha : Rd w A k (ints st)) (h0 : codeT p st [] [] = 0) :
    Calls Tryz.prog 26 #[.agg #[.int .i64 p, .slice A k c]] w fun e w' => ∃ A' c', e = .returned (.tuple #[.slice A' (dersL p k st).length c', .int .i64 0]) ∧ MkM3 w w' A' (dersL p k st).length c' ((dersL p k st).map fun x => rowsL x (pw k) (pw k)) := by
 have hB0 : Below w.heap.size w (w.alloc (.cells #[.int .i64 p, .slice A k c] 26)) := zG.alloc (Nat.le_refl _) _
 have k0 : Blk (w.alloc (.cells #[.int .i64 p, .slice A k c] 26)) w.heap.size 26 #[.int .i64 p, .slice A k c] := Blk.new _ _ _
 have hck := checkThree_any p A none none k c 0 0 0 0 st [] [] (w.alloc (.cells #[.int .i64 p, .slice A k c] 26)) hk6 (by omega) (by omega) (ha.below hB0) ⟨[], Rd.nil _ _, rfl, fun k h => absurd h (by simp)⟩ (fun ys hy => absurd hy (by simp)) (RdM3.nil _) (fun M hM => absurd hM (by simp))
 rw [h0] at hck
 obtain ⟨hdb, hk3, -, -⟩ := codeT_zero h0
 obtain ⟨HP, -, hst⟩ := isDb_facts hdb
 obtain ⟨hp3, hp2⟩ := isP_ge HP
 rw [ha.lenI] at hk3
 have hpk : pw k ≤ 8 := pw_le hk3
 have hpos := pw_pos k
 have hin := fun w' (h : Below w.heap.size w w') => dderivations_any p HP k hk3 A c st w' hc (ha.below h) hst
 have hsz := fun w' => dsize_any p A k c w' (by omega)
 have hZT : Tab p (pw k * pw k) (dersL p k st) := kernL_tab (by omega) _ _
 have hZN : (dersL p k st).length ≤ pw k * pw k := kernL_len HP _ _
 obtain ⟨ZZ, hZZ⟩ : ∃ z, z = dersL p k st := ⟨_, rfl⟩
 rw [← hZZ] at hin hZT hZN ⊢
 obtain ⟨n, hn⟩ : ∃ n, n = pw k := ⟨_, rfl⟩
 rw [← hn] at hpk hpos hsz hZT hZN ⊢
 obtain ⟨N, hN⟩ : ∃ N, N = n * n := ⟨_, rfl⟩
 have HNN := Lib.hid hN
 rw [← hN] at hZT hZN
 have hN64 : N ≤ 64 := by rw [hN]; exact Nat.mul_le_mul hpk hpk
 have HZT := Lib.hid hZT
 obtain ⟨zl, hzl⟩ : ∃ z, z = ZZ.length := ⟨_, rfl⟩
 have HZL := Lib.hid hzl
 rw [← hzl] at hin hZN ⊢
 have HIN := Lib.hid hin
 obtain ⟨q0, q1⟩ := k0.two
 clear hdb HP hst ha hin hZT hZZ hn hN h0 hzl
 go_enter Tryz.func26, Tryz.ntmps26
 go_wp2_with fail
 refine hck.mono ?_
 rintro e w2 ⟨rfl, hb2⟩
 have k2 := (k0.below hb2 k0.lt).alloc (.cells #[] 32)
 have hB2 := hB0.trans (hb2.mono hB0.size)
 have hM2 : MkM3 w (w2.alloc (.cells #[] 32)) (some ⟨w2.heap.size, 0, none⟩) 0 0 [] := MkM3.empty hB2
 have hB3 := hB2.alloc hB2.size (.cells #[] 32)
 clear q0 q1 hck k0 hb2 hB0
 obtain ⟨q0, q1⟩ := k2.two
 go_wp2_with fail
 refine (HIN.out _ hB3).mono ?_
 rintro e w4 ⟨A4, c4, rfl, hM4⟩
 have HD := Lib.hid hM4
 have hO4 := hM2.below hM4.b
 have k4 := k2.below hM4.b k2.lt
 have hKp : Keeps (w2.alloc (.cells #[] 32)) w4 w4 (.slice (some ⟨w2.heap.size, 0, none⟩) 0 0) := ⟨Nat.le_refl _, fun _ _ _ => rfl, fun gb e => .inl (lt_of_own e (by simp))⟩
 clear hM2 k2 q0 q1 hB2 hB3 hM4
 go_wp2
 go_loopw [5, 17] (fun out i wr => ∃ (j : Nat) (A' : Option Addr) (c' : Nat), j ≤ zl ∧ i = .int .i64 j ∧ out = .slice A' j c' ∧ Hid (MkM3 w wr A' j c' ((ZZ.take j).map fun x => rowsL x n n)) ∧ Hid (Keeps (w2.alloc (.cells #[] 32)) w4 wr (.slice A' j c')) ∧ Blk wr w.heap.size 26 #[.int .i64 p, .slice A k c]) (fun _ i _ => zl - (intOf i).toNat)
 case atStart => exact ⟨0, _, _, by omega, rfl, rfl, Lib.hid hO4, Lib.hid hKp, k4⟩
 case round =>
  obtain ⟨j, A', c', hj, rfl, rfl, HO, HKP, kr⟩ := hrel
  clear hO4 hKp k4
  by_cases hlt : j < zl
  · obtain ⟨gd, od, rfl, hxj, Aj, cj, hcj, hrj, hcapj⟩ := (HD.out.keep HKP.out.2.1).at_ hlt
    obtain ⟨hlj, hnj⟩ := HZT.out _ (List.getElem_mem hxj)
    obtain ⟨row, hrow⟩ : ∃ z, z = ZZ[j] := ⟨_, rfl⟩
    have HTK : Hid (((ZZ.take (j + 1)).map fun x => rowsL x n n) = ((ZZ.take j).map fun x => rowsL x n n) ++ [rowsL row n n]) := Lib.hid (by rw [List.take_succ_eq_append_getElem hxj, List.map_append, hrow]; rfl)
    rw [← hrow] at hcj hrj hcapj hlj
    rw [hlj] at hcj hrj hcapj
    have HRJ := Lib.hid hrj
    obtain ⟨q0, q1⟩ := kr.two
    clear hrj hrow hxj hlj hnj
    go_wp2_with fail
    refine (hsz _).mono ?_
    rintro e w5 ⟨rfl, hb5⟩
    have hri := rowsIn_any Aj N cj row n n w5 hpos (by omega) (by omega) HNN.out hcapj (HRJ.out.below hb5)
    have k5 := kr.below hb5 kr.lt
    have HB5 := Lib.hid hb5
    clear q0 q1 hb5
    go_wp2_with fail
    refine hri.mono ?_
    rintro e w6 ⟨A6, c6, rfl, hM6⟩
    have HB6 := Lib.hid (HB5.out.trans (hM6.b.mono HB5.out.size))
    have HM6 := Lib.hid ((hM6.after HB5.out).after HO.out.b)
    have k6 := k5.below hM6.b k5.lt
    clear hri hM6 k5
    go_wp2_with (at_builtin; refine wpList_appM w w6 rfl _ _ rfl A' j c' _ A6 n c6 _ (HO.out.below HB6.out) HM6.out (by omega) rfl rfl ?_; intro A7 c7 w7 hM7 hg7 hat7)
    have k7 := k6.grown hg7 ((HO.out.below HB6.out).ne_blk k6 (by decide))
    have hks := HKP.out.step HB6.out hg7 hat7 (n' := j + 1) (c' := c7)
    go_roundw
    case rel => exact ⟨j + 1, A7, c7, by omega, by go_num, rfl, Lib.hid (by rw [HTK.out]; exact hM7), Lib.hid hks, k7⟩
    case measure => simp [intOf]; omega
  · obtain rfl : j = zl := by omega
    go_wp2
    go_ret2
    refine ⟨A', c', rfl, ?_⟩
    have := HO.out
    rw [List.take_of_length_le (by rw [← HZL.out]; exact Nat.le_refl _)] at this
    exact this
end Go.Proofs.YtaiegpggccdgoaaGreat
namespace Go.Proofs.YtaiegpggccdgoaaGreat
section
variable {p : Int} {n : Nat} {M : List (List Int)}
/-- Powers in the ring. -/
def Mt.pw (x : Mt p n) : Nat → Mt p n
 | 0 => Mt.one x.pos
 | k + 1 => Mt.pw x k * x
end
section
variable {p : Int} {sq : List Int} {M : List (List Int)}
end
end Go.Proofs.YtaiegpggccdgoaaGreat
namespace Go.Proofs.YtaiegpggccdgoaaGreat
open Go.RowKit
set_option maxHeartbeats 400000 in
set_option maxRecDepth 8000 in
theorem likeInts_any (A B : Option Addr) (n m c d : Nat) (xs ys : List Int) (w : World) (hn : n ≤ 1099511627776) (hm : m ≤ 1099511627776)
    (ha : Rd w A n (ints xs)) (hb : Rd w B m (ints ys)) :
    Calls Tryz.prog 71 #[.slice A n c, .slice B m d] w fun e w' => e = .returned (.bool (decide (xs = ys))) ∧ ∃ j, w' = w.drewN j := by
 have hxl : xs.length = n := by have := ha.1; rwa [ints_length] at this
 have hyl : ys.length = m := by have := hb.1; rwa [ints_length] at this
 by_cases hnm : n = m
 · subst hnm
   have Hx := Lib.hid hxl; clear hxl
   have Hy := Lib.hid hyl; clear hyl
   go_enter Tryz.func71, Tryz.ntmps71
   go_wp2
   go_loopw [5] (fun i wr => ∃ k j : Nat, k ≤ n ∧ i = .int .i64 k ∧ xs.take k = ys.take k ∧ wr = w.drewN j) (fun i _ => n - (intOf i).toNat)
   case atStart => exact ⟨0, 0, by omega, rfl, by simp, rfl⟩
   case round =>
    obtain ⟨k, j, hk, rfl, hxy, rfl⟩ := hrel
    have H := Lib.hid hxy; clear hxy
    by_cases hlt : k < n
    · obtain ⟨g, o, rfl, hx, hcx⟩ := ha.int hlt
      obtain ⟨g', o', rfl, hy, hcy⟩ := hb.int hlt
      clear ha hb
      go_wp2
      go_quiet (fail)
      go_wp2
      · go_ret
        exact ⟨ret_bool (ne_of_get xs ys k hx hy (by assumption)).symm, _, World.drewN_drewN _ _ _⟩
      · go_roundw
        case rel => exact ⟨k + 1, _, by omega, by go_num, take_succ_eq xs ys k hx hy H.out (by simpa using (by assumption : (xs[k] != ys[k]) = false)), rfl⟩
        case measure => simp [intOf]; omega
    · go_wp2
      go_ret
      refine ⟨ret_bool ?_, _, rfl⟩
      have := H.out
      rw [List.take_of_length_le (by rw [Hx.out]; omega), List.take_of_length_le (by rw [Hy.out]; omega)] at this
      rw [this]; simp
 · have hne : decide (xs = ys) = false := by
    rw [decide_eq_false_iff_not]; rintro rfl; omega
   have Hne := Lib.hid hne; clear hne hxl hyl
   have hb0 : ((n : Int) != (m : Int)) = true := by rw [bne_iff_ne]; omega
   go_enter Tryz.func71, Tryz.ntmps71
   go_wp2
   go_ret
   exact ⟨ret_bool Hne.out.symm, 0, rfl⟩
/-- The sum of a matrix and a multiple of another one. -/
def sumL (p : Int) (U M : List (List Int)) (k : Int) : List (List Int) := tab U.length fun i => plusL p (U.getD i []) (M.getD i []) k
theorem sumL_len (p : Int) (U M : List (List Int)) (k : Int) : (sumL p U M k).length = U.length := tab_len _ _
theorem sumL_take {p : Int} {U M : List (List Int)} {k : Nat} {j : Int} (h : k < U.length) : (sumL p U M j).take (k + 1) = (sumL p U M j).take k ++ [plusL p (U.getD k []) (M.getD k []) j] := by
 have hl : k < (sumL p U M j).length := by rw [sumL_len]; exact h
 rw [List.take_succ_eq_append_getElem hl]
 congr 2
 rw [← getD_of_lt [] hl]
 unfold sumL
 rw [tab_getD h]
set_option maxHeartbeats 3200000 in
set_option maxRecDepth 8000 in
theorem sumG_any (p : Int) (U : Option Addr) (n cu : Nat) (U0 : List (List Int)) (A : Option Addr) (c : Nat) (M : List (List Int)) (kk : Int) (w : World) (hp : 2 ≤ p) (hp2 : p ≤ 13) (hn : n ≤ 65536) (hu : RdII w U n U0) (hU : Tab p n U0) (ha : RdII w A n M) (hT : Tab p n M) (hk1 : -1000 ≤ kk) (hk2 : kk ≤ 1000) :
    Calls Tryz.prog 52 #[.int .i64 p, .slice U n cu, .slice A n c, .int .i64 kk] w fun e w' => ∃ (A' : Option Addr) (c' : Nat), e = .returned (.slice A' n c') ∧ MkII w w' A' n c' (sumL p U0 M kk) := by
 have HM := Lib.hid hT
 have HU := Lib.hid hU
 have HOL : Hid ((sumL p U0 M kk).length = n) := Lib.hid ((sumL_len p U0 M kk).trans hu.len)
 obtain ⟨w3, hw3⟩ : ∃ W, W = w.alloc (.cells #[] 24) := ⟨_, rfl⟩
 have hA0 : Below w.heap.size w w3 := by rw [hw3]; exact zG.alloc (Nat.le_refl _) _
 have hO3 : MkII w w3 (some ⟨w.heap.size, 0, none⟩) 0 0 [] := by rw [hw3]; exact MkII.empty zG
 have hE3 : Blk w3 w.heap.size 24 #[] := by rw [hw3]; exact Blk.new _ _ _
 have a3 := ha.below hA0
 have u3 := hu.below hA0
 have hgr0 : Grows w3 w3 w.heap.size (.slice (some ⟨w.heap.size, 0, none⟩) 0 0) := ⟨CK.refl _, Nat.le_refl _, fun gb h => .inl (by simpa [Value.ownBlock] using h.symm)⟩
 clear hT hU ha hu
 go_enter Tryz.func52, Tryz.ntmps52
 go_wp2
 rw [← hw3]
 obtain ⟨g3, hg3⟩ : ∃ g, g = w.heap.size := ⟨_, rfl⟩
 rw [← hg3] at hO3 hE3 hgr0 ⊢
 clear hw3 hg3
 go_loopw [9, 14] (fun out i wr => ∃ (k : Nat) (A' : Option Addr) (c' : Nat), k ≤ n ∧ i = .int .i64 k ∧ out = .slice A' k c' ∧ MkII w wr A' k c' ((sumL p U0 M kk).take k) ∧ Grows w3 wr g3 (.slice A' k c')) (fun _ i _ => n - (intOf i).toNat)
 case atStart => exact ⟨0, _, _, by omega, rfl, rfl, by simpa using hO3, hgr0⟩
 case round =>
  obtain ⟨k, A', c', hk, rfl, rfl, hM, hgr⟩ := hrel
  clear hO3 hgr0
  by_cases hlt : k < n
  · obtain ⟨ga, oa, rfl, hxk, Ak, ck, hck, hrk, hcc⟩ := (a3.ck hgr.1).at_ hlt
    obtain ⟨gu, ou, rfl, hxu, Uk, cu2, hcu, hru, hcuc⟩ := (u3.ck hgr.1).at_ hlt
    have hnk := HM.out M[k] (List.getElem_mem hxk)
    have hnu := HU.out U0[k] (List.getElem_mem hxu)
    rw [hnk.1] at hck hrk hcc
    rw [hnu.1] at hcu hru hcuc
    have HGD : Hid (M.getD k [] = M[k]) := Lib.hid (getD_of_lt [] hxk)
    have HGU : Hid (U0.getD k [] = U0[k]) := Lib.hid (getD_of_lt [] hxu)
    obtain ⟨X, hX⟩ : ∃ X, X = M[k] := ⟨_, rfl⟩
    obtain ⟨V, hV0⟩ : ∃ X, X = U0[k] := ⟨_, rfl⟩
    rw [← hX] at hrk hnk HGD
    rw [← hV0] at hru hnu HGU
    have HXL : Hid (k < U0.length) := Lib.hid hxu
    clear hX hV0 hxk hxu hcc hcuc
    have HPL := Lib.hid fun (w' : World) (h : Below wr.heap.size wr w') => plus_any p Uk n cu2 Ak n ck kk V X w' hp hp2 hn (Nat.le_refl _) (hru.below h) hnu.2 (hrk.below h) hnk.2 hk1 hk2
    obtain ⟨Y, hY⟩ : ∃ Y, Y = plusL p V X kk := ⟨_, rfl⟩
    have HAP : Hid ((sumL p U0 M kk).take (k + 1) = (sumL p U0 M kk).take k ++ [Y]) := Lib.hid (by rw [sumL_take HXL.out, HGU.out, HGD.out, hY])
    rw [← hY] at HPL
    have HMM := Lib.hid hM
    have HGR := Lib.hid hgr
    clear hrk hru hY hM hgr hnk hnu
    go_wp2
    refine wp_obs 13 [[],[],[],[],[2,3],[2,3,4],[],[],[6,7],[6,7,8],[],[1,2,3,4,5,6,7,8,9,10],[1,2,3,4,5,6,7,8,9,10,11],[0,1,2,3,4,5,6,7,8,9,10,11,12],[0,1,2,3,4,5,6,7,8,9,10,11,12,13]] [VIs (.slice A' k c'), VIs (.int .i64 (p)), VIs (.slice (some ⟨gu, ou, none⟩) n cu), VIs (.int .i64 (k)), VIs (.pointer (some ⟨gu, ou + k, none⟩)), VIs (.slice Uk n cu2), VIs (.slice (some ⟨ga, oa, none⟩) n c), VIs (.int .i64 (k)), VIs (.pointer (some ⟨ga, oa + k, none⟩)), VIs (.slice Ak n ck), VIs (.int .i64 (kk)), VSl wr n Y, VNew wr n Y] (fun w' => w'.cell? ⟨gu, ou + k, none⟩ = some (.slice Uk n cu2) ∧ w'.cell? ⟨ga, oa + k, none⟩ = some (.slice Ak n ck) ∧ Below wr.heap.size wr w') (by kernel_rfl) (by kernel_rfl) (fun _ _ h hb => ⟨(hb.cell (World.block_lt_of_cell? _ _ h.1)).trans h.1, (hb.cell (World.block_lt_of_cell? _ _ h.2.1)).trans h.2.1, h.2.2.trans (hb.mono h.2.2.size)⟩) (⟨hcu, hck, zG.drew⟩) (fun x => ?_)
    refine zS (fun w' hS hV K hK => ?_) ?_
    · have q0 := hS.1; have q1 := hS.2.1; go_simp; exact zO hK
    refine zS (fun w' hS hV K hK => ?_) ?_
    · have q0 := hS.1; have q1 := hS.2.1; go_simp; exact zO hK
    refine zS (fun w' hS hV K hK => ?_) ?_
    · have q0 := hS.1; have q1 := hS.2.1; go_simp; exact zO hK
    refine zS (fun w' hS hV K hK => ?_) ?_
    · have q0 := hS.1; have q1 := hS.2.1; go_simp; exact zO hK
    refine zS (fun w' hS hV K hK => ?_) ?_
    · have e2 := zQ hV 2; have e3 := zQ hV 3; have q0 := hS.1; have q1 := hS.2.1; go_simp; exact zO hK
    refine zS (fun w' hS hV K hK => ?_) ?_
    · have e4 := zQ hV 4; have q0 := hS.1; have q1 := hS.2.1; go_simp; exact zO hK
    refine zS (fun w' hS hV K hK => ?_) ?_
    · have q0 := hS.1; have q1 := hS.2.1; go_simp; exact zO hK
    refine zS (fun w' hS hV K hK => ?_) ?_
    · have q0 := hS.1; have q1 := hS.2.1; go_simp; exact zO hK
    refine zS (fun w' hS hV K hK => ?_) ?_
    · have e6 := zQ hV 6; have e7 := zQ hV 7; have q0 := hS.1; have q1 := hS.2.1; go_simp; exact zO hK
    refine zS (fun w' hS hV K hK => ?_) ?_
    · have e8 := zQ hV 8; have q0 := hS.1; have q1 := hS.2.1; go_simp; exact zO hK
    refine zS (fun w' hS hV K hK => ?_) ?_
    · have q0 := hS.1; have q1 := hS.2.1; go_simp; exact zO hK
    refine zS (fun w' hS hV K hK => ?_) ?_
    · have e1 := zQ hV 1; have e5 := zQ hV 5; have e9 := zQ hV 9; have e10 := zQ hV 10; have q0 := hS.1; have q1 := hS.2.1; go_simp; refine (HPL.out _ hS.2.2).mono ?_; rintro e v1 ⟨A9, c9, rfl, hM⟩; exact hK.out _ _ _ rfl rfl ⟨_, _, rfl, hM.after hS.2.2⟩ hM.b
    refine zS (fun w' hS hV K hK => ?_) ?_
    · obtain ⟨A11, c11, e11, h11⟩ := hV 11 (by decide); have q0 := hS.1; have q1 := hS.2.1; go_simp; exact hK.out _ _ _ rfl rfl ⟨_, _, _, rfl, Blk.new _ _ _, h11.below (zG.alloc (Nat.le_refl _) _)⟩ (zG.alloc (Nat.le_refl _) _)
    refine fun w' hS hV => ?_
    have e0 := zT hV 0
    have e1 := zT hV 1
    have e2 := zT hV 2
    have e3 := zT hV 3
    have e4 := zT hV 4
    have e5 := zT hV 5
    have e6 := zT hV 6
    have e7 := zT hV 7
    have e8 := zT hV 8
    have e9 := zT hV 9
    have e10 := zT hV 10
    obtain ⟨A11, c11, e11, h11⟩ := hV 11 (by decide)
    obtain ⟨g12, A12, c12, e12, b12, h12⟩ := hV 12 (by decide)
    simp only [e0, e1, e2, e3, e4, e5, e6, e7, e8, e9, e10, e11, e12]
    clear e0 e1 e2 e3 e4 e5 e6 e7 e8 e9 e10 e11 e12
    obtain ⟨-, -, s2⟩ := hS
    refine any_plain (j := 13) (by kernel_rfl) (Eq.trans (by simp only [zA, zB, zC]; exact rfl) rfl) rfl (fun K hK => ?_)
    refine wp_appRow w wr w' _ _ rfl A' k c' _ A12 n c12 _ HMM.out h12 (by omega) g12 b12 (by rfl) (by rfl) ?_
    intro A20 c20 w20 hM20 hg20 hat20
    refine hK.out _ _ ?_
    simp only [Act.put, zD, zE, zF]
    refine any_one (j := 14) (by kernel_rfl) (Eq.trans (by simp only [zA, zB, zC]; exact rfl) rfl) (fun K hK => ?_)
    go_simp
    refine hK.out _ _ (wpAny_done (by kernel_rfl) ?_ _)
    have hgr7 := HGR.out.step (n' := k + 1) (c' := c20) hE3 s2 hg20 hat20
    clear hg20 hat20 s2
    go_wp2
    go_roundw
    case rel => exact ⟨k + 1, A20, c20, by omega, by go_num, rfl, by rw [HAP.out]; exact hM20, hgr7⟩
    case measure => simp [intOf]; omega
  · obtain rfl : k = n := by omega
    rw [List.take_of_length_le (by rw [HOL.out]; omega)] at hM
    go_wp2
    go_ret
    exact ⟨_, _, rfl, hM⟩
end Go.Proofs.YtaiegpggccdgoaaGreat
namespace Go.Proofs.YtaiegpggccdgoaaGreat
open Go Go.RowKit
/-- A column of a matrix. -/
def dcolL (M : List (List Int)) (i : Nat) : List Int := tab M.length fun r => ent M r i
theorem dcolL_len (M : List (List Int)) (i : Nat) : (dcolL M i).length = M.length := tab_len _ _
theorem dcolL_nums {p : Int} (hp : 0 < p) {n : Nat} {M : List (List Int)} (hT : Tab p n M) (i : Nat) : NumsL p (dcolL M i) := NumsL.tab fun r _ => hT.ent hp r i
set_option maxHeartbeats 1600000 in
set_option maxRecDepth 8000 in
theorem column_any (p : Int) (A : Option Addr) (n c : Nat) (M : List (List Int)) (m : Nat) (i : Nat) (w : World) (hi : i < m) (hn : n ≤ 65536) (ha : RdII w A n M) (hT : Tab p m M) :
    Calls Tryz.prog 129 #[.slice A n c, .int .i64 i] w fun e w' => ∃ A' c', e = .returned (.slice A' n c') ∧ MkI w w' A' n c' (dcolL M i) := by
 have hM0 := Mk.lit (E := 2) (Below.refl w.heap.size w) #[] (by simp)
 have HE : Hid (dcolL M i = tab n fun r => ent M r i) := Lib.hid (by unfold dcolL; rw [ha.len])
 have HT := Lib.hid hT
 clear hT
 go_enter Tryz.func129, Tryz.ntmps129
 go_wp2
 go_loopw [5, 11] (fun out x wr => ∃ (j : Nat) (A' : Option Addr) (c' : Nat), j ≤ n ∧ x = .int .i64 j ∧ out = .slice A' j c' ∧ MkI w wr A' j c' (tab j fun r => ent M r i)) (fun _ x _ => n - (intOf x).toNat)
 case atStart => exact ⟨0, _, _, by omega, rfl, rfl, by simpa [MkI, ints, tab] using hM0⟩
 case round =>
  obtain ⟨j, A', c', hj, rfl, rfl, hM⟩ := hrel
  clear hM0
  by_cases hlt : j < n
  · obtain ⟨g, o, rfl, hxj, Aj, cj, hcj, hrj, -⟩ := (ha.below hM.b).at_ hlt
    have hlj : M[j].length = m := (HT.out M[j] (List.getElem_mem hxj)).1
    rw [hlj] at hcj hrj
    obtain ⟨gj, oj, rfl, hxi, hci⟩ := hrj.int hi
    obtain ⟨v, hv⟩ : ∃ v, v = M[j][i] := ⟨_, rfl⟩
    have HV : Hid ((tab (j + 1) fun r => ent M r i) = (tab j fun r => ent M r i) ++ [v]) := Lib.hid (by rw [tab_succ, ent_at hxj hxi, hv])
    rw [← hv] at hci
    have HM := Lib.hid hM
    clear hrj hlj hM ha hv hxi hxj
    go_wp2_with (at_builtin; refine wpList_app1 w _ 24 2 _ _ Tryz.underlying24 info_i rfl (by omega) rfl _ _ rfl A' j c' _ _ HM.out (by omega) rfl rfl rfl ?_; intro A4 c4 w4 hM4 _ _)
    go_roundw
    case rel => exact ⟨j + 1, A4, c4, by omega, by go_num, rfl, by rw [HV.out]; simpa [MkI, ints] using hM4⟩
    case measure => simp [intOf]; omega
  · obtain rfl : j = n := by omega
    go_wp2
    go_ret
    exact ⟨_, _, rfl, by rw [HE.out]; exact hM⟩
set_option maxHeartbeats 1600000 in
set_option maxRecDepth 8000 in
theorem delement_any (p : Int) (A : Option Addr) (k c : Nat) (i : Nat) (w : World) (hk : k ≤ 4) (hi : i < pw k) :
    Calls Tryz.prog 79 #[.agg #[.int .i64 p, .slice A k c], .int .i64 i] w fun e w' => ∃ A' c', e = .returned (.slice A' (pw k) c') ∧ MkI w w' A' (pw k) c' (unitRow (pw k) i) := by
 have hB0 : Below w.heap.size w (w.alloc (.cells #[.int .i64 p, .slice A k c] 26)) := zG.alloc (Nat.le_refl _) _
 have k0 : Blk (w.alloc (.cells #[.int .i64 p, .slice A k c] 26)) w.heap.size 26 #[.int .i64 p, .slice A k c] := Blk.new _ _ _
 have hpk : pw k ≤ 16 := pw_le hk
 have hsz := fun w' => dsize_any p A k c w' hk
 obtain ⟨n, hn⟩ : ∃ n, n = pw k := ⟨_, rfl⟩
 rw [← hn] at hpk hi hsz ⊢
 clear hn
 go_enter Tryz.func79, Tryz.ntmps79
 go_wp2_with fail
 refine (hsz _).mono ?_
 rintro e w2 ⟨rfl, hb2⟩
 have hB2 := hB0.trans (hb2.mono hB0.size)
 go_wp2_with fail
 refine (unit_any n _ (by omega)).mono ?_
 rintro e w3 ⟨U, cU, rfl, hU⟩
 obtain ⟨g, rfl, hx, A1, c1, hc1, hm1⟩ := hU.at_ hi
 have hrow := unitM_get n i hx
 rw [hrow, unitRow_len] at hc1 hm1
 have hM := Lib.hid (hm1.after hB2)
 have hcg : w3.cell? ⟨g, 0 + i, none⟩ = some (.slice A1 n c1) := by rw [Nat.zero_add]; exact hc1
 clear hU hm1 hrow hx hb2 hB2 k0 hB0
 go_wp2
 go_ret
 exact ⟨_, _, by simp [hc1], hM.out⟩
/-- The numbers of the norm. -/
def dgL (p : Int) (k : Nat) (st : List Int) : List Int := tab (pw k) fun i => dnormL p k st (unitRow (pw k) i)
theorem dgL_nums {p : Int} (hp : 0 < p) (k : Nat) (st : List Int) : NumsL p (dgL p k st) := NumsL.tab fun _ _ => (dblL_nums hp _ _ _ _).getD hp _
set_option maxHeartbeats 1600000 in
set_option maxRecDepth 8000 in
theorem ddiagonal_any (p : Int) (hp : 2 ≤ p) (hp2 : p ≤ 13) (k : Nat) (hk : k ≤ 4) (A : Option Addr) (c : Nat) (st : List Int) (w : World) (hc : k ≤ c) (ha : Rd w A k (ints st)) (hst : NumsL p st) :
    Calls Tryz.prog 118 #[.agg #[.int .i64 p, .slice A k c]] w fun e w' => ∃ A' c', e = .returned (.slice A' (pw k) c') ∧ MkI w w' A' (pw k) c' (dgL p k st) := by
 have hpk : pw k ≤ 16 := pw_le hk
 have hpos := pw_pos k
 have hB0 : Below w.heap.size w (w.alloc (.cells #[.int .i64 p, .slice A k c] 26)) := zG.alloc (Nat.le_refl _) _
 have k0 : Blk (w.alloc (.cells #[.int .i64 p, .slice A k c] 26)) w.heap.size 26 #[.int .i64 p, .slice A k c] := Blk.new _ _ _
 have k1 := k0.alloc (.cells #[] 2)
 have hM1 : MkI w ((w.alloc (.cells #[.int .i64 p, .slice A k c] 26)).alloc (.cells #[] 2)) (some ⟨w.heap.size + 1, 0, none⟩) 0 0 [] := by
  have := Mk.lit (E := 2) hB0 #[] (by simp)
  simpa [MkI, ints] using this
 obtain ⟨q0, q1⟩ := k1.two
 obtain ⟨n, hn⟩ : ∃ n, n = pw k := ⟨_, rfl⟩
 have hsz := fun w' => dsize_any p A k c w' hk
 obtain ⟨G, hG⟩ : ∃ G : Nat → Int, G = fun i => dnormL p k st (unitRow n i) := ⟨_, rfl⟩
 have hno : Hid (∀ (w' : World) (i : Nat) (X : Option Addr) (cx : Nat), Below w.heap.size w w' → n ≤ cx → Rd w' X n (ints (unitRow n i)) → Calls Tryz.prog 150 #[.agg #[.int .i64 p, .slice A k c], .slice X n cx] w' fun e w'' => e = .returned (.int .i64 (G i)) ∧ Below w'.heap.size w' w'') := Lib.hid fun w' i X cx hb hcx hX => by
  rw [hG]
  subst hn
  exact dnorm_any p hp hp2 k hk A c st X cx _ w' hc hcx (ha.below hb) hst hX (unitRow_nums hp _ _)
 have HPR : Hid (dgL p k st = tab n G) := Lib.hid (by rw [hG, hn]; rfl)
 rw [← hn] at hpk hpos hsz ⊢
 clear hn hG hst ha hB0 k0
 go_enter Tryz.func118, Tryz.ntmps118
 go_wp2_with fail
 refine (hsz _).mono ?_
 rintro e w2 ⟨rfl, hb2⟩
 have hM2 := hM1.below hb2
 have k2 := k1.below hb2 k1.lt
 clear q0 q1 k1
 go_wp2_with fail
 refine (unit_any n _ (by omega)).mono ?_
 rintro e w3 ⟨U, cU, rfl, hU⟩
 have hM3 := hM2.below hU.b
 have k3 := k2.below hU.b k2.lt
 have hsz2 : w.heap.size + 1 < w2.heap.size := by have := hb2.size; simp at this; omega
 have hKp : Keeps w2 w3 w3 (.slice (some ⟨w.heap.size + 1, 0, none⟩) 0 0) := ⟨Nat.le_refl _, fun _ _ _ => rfl, fun gb e => .inl (lt_of_own e hsz2)⟩
 have HU := Lib.hid hU
 clear hM1 hM2 k2 hb2 hsz2 hU
 go_wp2
 go_loopw [3, 11] (fun out i wr => ∃ (j : Nat) (A' : Option Addr) (c' : Nat), j ≤ n ∧ i = .int .i64 j ∧ out = .slice A' j c' ∧ Hid (MkI w wr A' j c' (tab j G)) ∧ Hid (Keeps w2 w3 wr (.slice A' j c')) ∧ Blk wr w.heap.size 26 #[.int .i64 p, .slice A k c]) (fun _ i _ => n - (intOf i).toNat)
 case atStart => exact ⟨0, _, _, by omega, rfl, rfl, Lib.hid (by simpa [tab] using hM3), Lib.hid hKp, k3⟩
 case round =>
  obtain ⟨j, A', c', hj, rfl, rfl, HM, HKP, kr⟩ := hrel
  clear hM3 hKp k3
  by_cases hlt : j < n
  · obtain ⟨gu, ou, rfl, hxk, A1, c1, hcu, hru, hcc⟩ := (HU.out.keep HKP.out.2.1).at_ hlt
    have hrow := unitM_get n j hxk
    rw [hrow, unitRow_len] at hru hcu hcc
    have hcall := hno.out wr j A1 c1 HM.out.b hcc hru
    obtain ⟨q0, q1⟩ := kr.two
    clear hru hrow hxk
    go_wp2_with fail
    refine hcall.mono ?_
    rintro e w7 ⟨rfl, hb7⟩
    have HB7 := Lib.hid hb7
    have k7 := kr.below hb7 kr.lt
    clear hcall q0 q1 hcu hb7
    go_wp2_with (at_builtin; refine wpList_app1 w _ 24 2 _ _ Tryz.underlying24 info_i rfl (by omega) rfl _ _ rfl A' j c' _ _ (HM.out.below HB7.out) (by omega) rfl rfl rfl ?_; intro A4 c4 w4 hM4 hg4 hat4)
    go_roundw
    case rel => exact ⟨j + 1, A4, c4, by omega, by go_num, rfl, Lib.hid (by rw [tab_succ]; simpa [MkI, ints] using hM4), Lib.hid (HKP.out.step HB7.out hg4 hat4), k7.grown hg4 ((HM.out.below HB7.out).2.ne_blk k7 (by decide))⟩
    case measure => simp [intOf]; omega
  · obtain rfl : j = n := by omega
    go_wp2
    go_ret
    exact ⟨_, _, rfl, by rw [HPR.out]; exact HM.out⟩
set_option maxHeartbeats 6400000 in
set_option maxRecDepth 8000 in
theorem disSkew_ok (p : Int) (hp : 2 ≤ p) (hp2 : p ≤ 13) (k : Nat) (hk : k ≤ 4) (A : Option Addr) (c : Nat) (st : List Int) (m : Option Addr) (cm : Nat) (M : List (List Int)) (w : World) (hc : k ≤ c) (ha : Rd w A k (ints st)) (hst : NumsL p st) (hm : RdII w m (pw k) M) (hT : Tab p (pw k) M) (hsk : ∀ i q, i < pw k → q < pw k → (ent M i q * (dgL p k st).getD i 0 + ent M q i * (dgL p k st).getD q 0) % p = 0) :
    Calls Tryz.prog 81 #[.agg #[.int .i64 p, .slice A k c], .slice m (pw k) cm] w fun e w' => e = .returned (.bool true) ∧ Below w.heap.size w w' := by
 have hpk : pw k ≤ 16 := pw_le hk
 have hpos := pw_pos k
 have hB0 : Below w.heap.size w (w.alloc (.cells #[.int .i64 p, .slice A k c] 26)) := zG.alloc (Nat.le_refl _) _
 have k0 : Blk (w.alloc (.cells #[.int .i64 p, .slice A k c] 26)) w.heap.size 26 #[.int .i64 p, .slice A k c] := Blk.new _ _ _
 have hdg := ddiagonal_any p hp hp2 k hk A c st (w.alloc (.cells #[.int .i64 p, .slice A k c] 26)) hc (ha.below hB0) hst
 have hDN := dgL_nums (show 0 < p by omega) k st
 obtain ⟨DG, hDG⟩ : ∃ z, z = dgL p k st := ⟨_, rfl⟩
 obtain ⟨n, hn⟩ : ∃ n, n = pw k := ⟨_, rfl⟩
 rw [← hDG] at hdg hDN hsk
 rw [← hn] at hpk hpos hdg hm hT hsk ⊢
 have HSK := Lib.hid hsk
 have HDN := Lib.hid hDN
 have HT := Lib.hid hT
 obtain ⟨q0, q1⟩ := k0.two
 obtain ⟨g, o, rfl, -⟩ := hm.at_ hpos
 clear hDG hn hsk hDN hT ha hst
 go_enter Tryz.func81, Tryz.ntmps81
 go_wp2_with fail
 refine hdg.mono ?_
 rintro e w2 ⟨D, cd, rfl, hD⟩
 have hB2 := hB0.trans (hD.b.mono hB0.size)
 have k2 := k0.below hD.b k0.lt
 obtain ⟨gd, od, rfl, -⟩ := hD.rd.int hpos
 have HD := Lib.hid hD.rd
 have HM := Lib.hid (hm.below hB2)
 clear q0 q1 hdg k0 hB0 hD hm
 go_wp2
 go_loopw [12] (fun i wr => ∃ j : Nat, j ≤ n ∧ i = .int .i64 j ∧ Hid (Below w2.heap.size w2 wr) ∧ Blk wr w.heap.size 26 #[.int .i64 p, .slice A k c]) (fun i _ => n - (intOf i).toNat)
 case atStart => exact ⟨0, by omega, rfl, Lib.hid zG, k2⟩
 case round =>
  obtain ⟨i, hi', rfl, HB, kr⟩ := hrel
  clear k2
  by_cases hlt : i < n
  · go_wp2
    go_loopw [17] (fun i wr => ∃ j : Nat, j ≤ n ∧ i = .int .i64 j ∧ Hid (Below w2.heap.size w2 wr) ∧ Blk wr w.heap.size 26 #[.int .i64 p, .slice A k c]) (fun i _ => n - (intOf i).toNat)
    case atStart => exact ⟨0, by omega, rfl, HB, kr⟩
    case round =>
     obtain ⟨q, hq', rfl, HB, kr⟩ := hrel
     by_cases hlq : q < n
     · obtain ⟨gi, oi, ci, c1, c2⟩ := (HM.out.below HB.out).grid HT.out hlt hlq
       obtain ⟨gq, oq, cq, c4, c5⟩ := (HM.out.below HB.out).grid HT.out hlq hlt
       obtain ⟨gd1, od1, e1, hx1, c3⟩ := (HD.out.below HB.out).int hlt
       obtain ⟨gd2, od2, e2, hx2, c6⟩ := (HD.out.below HB.out).int hlq
       injection e1 with e1; injection e1 with e11 e12 _
       injection e2 with e2; injection e2 with e21 e22 _
       subst e11 e12 e21 e22
       have hz0 := HSK.out i q hlt hlq
       rw [getD_of_lt 0 hx1, getD_of_lt 0 hx2] at hz0
       obtain ⟨b1, b2⟩ := HT.out.ent (show 0 < p by omega) i q
       obtain ⟨b3, b4⟩ := HT.out.ent (show 0 < p by omega) q i
       obtain ⟨b5, b6⟩ := HDN.out _ (List.getElem_mem hx1)
       obtain ⟨b7, b8⟩ := HDN.out _ (List.getElem_mem hx2)
       obtain ⟨x1, hx1e⟩ : ∃ z, z = ent M i q := ⟨_, rfl⟩
       obtain ⟨x2, hx2e⟩ : ∃ z, z = ent M q i := ⟨_, rfl⟩
       obtain ⟨d1, hd1e⟩ : ∃ z, z = DG[i] := ⟨_, rfl⟩
       obtain ⟨d2, hd2e⟩ : ∃ z, z = DG[q] := ⟨_, rfl⟩
       rw [← hx1e] at c2 hz0 b1 b2
       rw [← hx2e] at c5 hz0 b3 b4
       rw [← hd1e] at c3 hz0 b5 b6
       rw [← hd2e] at c6 hz0 b7 b8
       have m1 : 0 ≤ x1 * d1 := Int.mul_nonneg b1 b5
       have m2 : x1 * d1 ≤ 13 * 13 := Int.mul_le_mul (by omega) (by omega) b5 (by omega)
       have m3 : 0 ≤ x2 * d2 := Int.mul_nonneg b3 b7
       have m4 : x2 * d2 ≤ 13 * 13 := Int.mul_le_mul (by omega) (by omega) b7 (by omega)
       clear hx1e hx2e hd1e hd2e hx1 hx2 b1 b2 b3 b4 b5 b6 b7 b8
       go_wp2
       refine wp_obs 29 [[],[0],[],[],[2,3],[2,3,4],[],[2,3,4,5,6],[2,3,4,5,6,7],[],[],[9,10],[9,10,11],[2,3,4,5,6,7,8,9,10,11,12],[],[],[14,15],[14,15,16],[],[14,15,16,17,18],[14,15,16,17,18,19],[],[],[21,22],[21,22,23],[14,15,16,17,18,19,20,21,22,23,24],[2,3,4,5,6,7,8,9,10,11,12,13,14,15,16,17,18,19,20,21,22,23,24,25],[0,1,2,3,4,5,6,7,8,9,10,11,12,13,14,15,16,17,18,19,20,21,22,23,24,25,26],[0,1,2,3,4,5,6,7,8,9,10,11,12,13,14,15,16,17,18,19,20,21,22,23,24,25,26,27]] [VIs (.agg #[.int .i64 p, .slice A k c]), VIs (.int .i64 (p)), VIs (.slice (some ⟨g, o, none⟩) n cm), VIs (.int .i64 (i)), VIs (.pointer (some ⟨g, o + i, none⟩)), VIs (.slice (some ⟨gi, oi, none⟩) n ci), VIs (.int .i64 (q)), VIs (.pointer (some ⟨gi, oi + q, none⟩)), VIs (.int .i64 (x1)), VIs (.slice (some ⟨gd, od, none⟩) n cd), VIs (.int .i64 (i)), VIs (.pointer (some ⟨gd, od + i, none⟩)), VIs (.int .i64 (d1)), VIs (.int .i64 (x1 * d1)), VIs (.slice (some ⟨g, o, none⟩) n cm), VIs (.int .i64 (q)), VIs (.pointer (some ⟨g, o + q, none⟩)), VIs (.slice (some ⟨gq, oq, none⟩) n cq), VIs (.int .i64 (i)), VIs (.pointer (some ⟨gq, oq + i, none⟩)), VIs (.int .i64 (x2)), VIs (.slice (some ⟨gd, od, none⟩) n cd), VIs (.int .i64 (q)), VIs (.pointer (some ⟨gd, od + q, none⟩)), VIs (.int .i64 (d2)), VIs (.int .i64 (x2 * d2)), VIs (.int .i64 (x1 * d1 + x2 * d2)), VIs (.int .i64 (0)), VIs (.bool false)] (fun w' => Blk w' w.heap.size 26 #[.int .i64 p, .slice A k c] ∧ w'.cell? ⟨g, o + i, none⟩ = some (.slice (some ⟨gi, oi, none⟩) n ci) ∧ w'.cell? ⟨gi, oi + q, none⟩ = some (.int .i64 x1) ∧ w'.cell? ⟨gd, od + i, none⟩ = some (.int .i64 d1) ∧ w'.cell? ⟨g, o + q, none⟩ = some (.slice (some ⟨gq, oq, none⟩) n cq) ∧ w'.cell? ⟨gq, oq + i, none⟩ = some (.int .i64 x2) ∧ w'.cell? ⟨gd, od + q, none⟩ = some (.int .i64 d2) ∧ Below wr.heap.size wr w') (by kernel_rfl) (by kernel_rfl) (fun _ _ h hb => ⟨h.1.below hb h.1.lt, (hb.cell (World.block_lt_of_cell? _ _ h.2.1)).trans h.2.1, (hb.cell (World.block_lt_of_cell? _ _ h.2.2.1)).trans h.2.2.1, (hb.cell (World.block_lt_of_cell? _ _ h.2.2.2.1)).trans h.2.2.2.1, (hb.cell (World.block_lt_of_cell? _ _ h.2.2.2.2.1)).trans h.2.2.2.2.1, (hb.cell (World.block_lt_of_cell? _ _ h.2.2.2.2.2.1)).trans h.2.2.2.2.2.1, (hb.cell (World.block_lt_of_cell? _ _ h.2.2.2.2.2.2.1)).trans h.2.2.2.2.2.2.1, h.2.2.2.2.2.2.2.trans (hb.mono h.2.2.2.2.2.2.2.size)⟩) (⟨kr.drew, c1, c2, c3, c4, c5, c6, zG.drew⟩) (fun x => ?_)
       refine zS (fun w' hS hV K hK => ?_) ?_
       · obtain ⟨q0, q1⟩ := hS.1.two; have t1 := hS.2.1; have t2 := hS.2.2.1; have t3 := hS.2.2.2.1; have t4 := hS.2.2.2.2.1; have t5 := hS.2.2.2.2.2.1; have t6 := hS.2.2.2.2.2.2.1; go_simp; exact zO hK
       refine zS (fun w' hS hV K hK => ?_) ?_
       · have e0 := zQ hV 0; obtain ⟨q0, q1⟩ := hS.1.two; have t1 := hS.2.1; have t2 := hS.2.2.1; have t3 := hS.2.2.2.1; have t4 := hS.2.2.2.2.1; have t5 := hS.2.2.2.2.2.1; have t6 := hS.2.2.2.2.2.2.1; go_simp; refine (dfield_any p A k c w').mono ?_; rintro e v1 ⟨rfl, hb⟩; exact hK.out _ _ _ rfl rfl rfl hb
       refine zS (fun w' hS hV K hK => ?_) ?_
       · obtain ⟨q0, q1⟩ := hS.1.two; have t1 := hS.2.1; have t2 := hS.2.2.1; have t3 := hS.2.2.2.1; have t4 := hS.2.2.2.2.1; have t5 := hS.2.2.2.2.2.1; have t6 := hS.2.2.2.2.2.2.1; go_simp; exact zO hK
       refine zS (fun w' hS hV K hK => ?_) ?_
       · obtain ⟨q0, q1⟩ := hS.1.two; have t1 := hS.2.1; have t2 := hS.2.2.1; have t3 := hS.2.2.2.1; have t4 := hS.2.2.2.2.1; have t5 := hS.2.2.2.2.2.1; have t6 := hS.2.2.2.2.2.2.1; go_simp; exact zO hK
       refine zS (fun w' hS hV K hK => ?_) ?_
       · have e2 := zQ hV 2; have e3 := zQ hV 3; obtain ⟨q0, q1⟩ := hS.1.two; have t1 := hS.2.1; have t2 := hS.2.2.1; have t3 := hS.2.2.2.1; have t4 := hS.2.2.2.2.1; have t5 := hS.2.2.2.2.2.1; have t6 := hS.2.2.2.2.2.2.1; go_simp; exact zO hK
       refine zS (fun w' hS hV K hK => ?_) ?_
       · have e4 := zQ hV 4; obtain ⟨q0, q1⟩ := hS.1.two; have t1 := hS.2.1; have t2 := hS.2.2.1; have t3 := hS.2.2.2.1; have t4 := hS.2.2.2.2.1; have t5 := hS.2.2.2.2.2.1; have t6 := hS.2.2.2.2.2.2.1; go_simp; exact zO hK
       refine zS (fun w' hS hV K hK => ?_) ?_
       · obtain ⟨q0, q1⟩ := hS.1.two; have t1 := hS.2.1; have t2 := hS.2.2.1; have t3 := hS.2.2.2.1; have t4 := hS.2.2.2.2.1; have t5 := hS.2.2.2.2.2.1; have t6 := hS.2.2.2.2.2.2.1; go_simp; exact zO hK
       refine zS (fun w' hS hV K hK => ?_) ?_
       · have e5 := zQ hV 5; have e6 := zQ hV 6; obtain ⟨q0, q1⟩ := hS.1.two; have t1 := hS.2.1; have t2 := hS.2.2.1; have t3 := hS.2.2.2.1; have t4 := hS.2.2.2.2.1; have t5 := hS.2.2.2.2.2.1; have t6 := hS.2.2.2.2.2.2.1; go_simp; exact zO hK
       refine zS (fun w' hS hV K hK => ?_) ?_
       · have e7 := zQ hV 7; obtain ⟨q0, q1⟩ := hS.1.two; have t1 := hS.2.1; have t2 := hS.2.2.1; have t3 := hS.2.2.2.1; have t4 := hS.2.2.2.2.1; have t5 := hS.2.2.2.2.2.1; have t6 := hS.2.2.2.2.2.2.1; go_simp; exact zO hK
       refine zS (fun w' hS hV K hK => ?_) ?_
       · obtain ⟨q0, q1⟩ := hS.1.two; have t1 := hS.2.1; have t2 := hS.2.2.1; have t3 := hS.2.2.2.1; have t4 := hS.2.2.2.2.1; have t5 := hS.2.2.2.2.2.1; have t6 := hS.2.2.2.2.2.2.1; go_simp; exact zO hK
       refine zS (fun w' hS hV K hK => ?_) ?_
       · obtain ⟨q0, q1⟩ := hS.1.two; have t1 := hS.2.1; have t2 := hS.2.2.1; have t3 := hS.2.2.2.1; have t4 := hS.2.2.2.2.1; have t5 := hS.2.2.2.2.2.1; have t6 := hS.2.2.2.2.2.2.1; go_simp; exact zO hK
       refine zS (fun w' hS hV K hK => ?_) ?_
       · have e9 := zQ hV 9; have e10 := zQ hV 10; obtain ⟨q0, q1⟩ := hS.1.two; have t1 := hS.2.1; have t2 := hS.2.2.1; have t3 := hS.2.2.2.1; have t4 := hS.2.2.2.2.1; have t5 := hS.2.2.2.2.2.1; have t6 := hS.2.2.2.2.2.2.1; go_simp; exact zO hK
       refine zS (fun w' hS hV K hK => ?_) ?_
       · have e11 := zQ hV 11; obtain ⟨q0, q1⟩ := hS.1.two; have t1 := hS.2.1; have t2 := hS.2.2.1; have t3 := hS.2.2.2.1; have t4 := hS.2.2.2.2.1; have t5 := hS.2.2.2.2.2.1; have t6 := hS.2.2.2.2.2.2.1; go_simp; exact zO hK
       refine zS (fun w' hS hV K hK => ?_) ?_
       · have e8 := zQ hV 8; have e12 := zQ hV 12; obtain ⟨q0, q1⟩ := hS.1.two; have t1 := hS.2.1; have t2 := hS.2.2.1; have t3 := hS.2.2.2.1; have t4 := hS.2.2.2.2.1; have t5 := hS.2.2.2.2.2.1; have t6 := hS.2.2.2.2.2.2.1; go_simp; exact hK.out _ _ _ rfl rfl (by first | rfl | exact congrArg (Value.int .i64) (by omega) | exact congrArg (Value.int .i64) (i64_fit _ (by omega) (by omega))) zG
       refine zS (fun w' hS hV K hK => ?_) ?_
       · obtain ⟨q0, q1⟩ := hS.1.two; have t1 := hS.2.1; have t2 := hS.2.2.1; have t3 := hS.2.2.2.1; have t4 := hS.2.2.2.2.1; have t5 := hS.2.2.2.2.2.1; have t6 := hS.2.2.2.2.2.2.1; go_simp; exact zO hK
       refine zS (fun w' hS hV K hK => ?_) ?_
       · obtain ⟨q0, q1⟩ := hS.1.two; have t1 := hS.2.1; have t2 := hS.2.2.1; have t3 := hS.2.2.2.1; have t4 := hS.2.2.2.2.1; have t5 := hS.2.2.2.2.2.1; have t6 := hS.2.2.2.2.2.2.1; go_simp; exact zO hK
       refine zS (fun w' hS hV K hK => ?_) ?_
       · have e14 := zQ hV 14; have e15 := zQ hV 15; obtain ⟨q0, q1⟩ := hS.1.two; have t1 := hS.2.1; have t2 := hS.2.2.1; have t3 := hS.2.2.2.1; have t4 := hS.2.2.2.2.1; have t5 := hS.2.2.2.2.2.1; have t6 := hS.2.2.2.2.2.2.1; go_simp; exact zO hK
       refine zS (fun w' hS hV K hK => ?_) ?_
       · have e16 := zQ hV 16; obtain ⟨q0, q1⟩ := hS.1.two; have t1 := hS.2.1; have t2 := hS.2.2.1; have t3 := hS.2.2.2.1; have t4 := hS.2.2.2.2.1; have t5 := hS.2.2.2.2.2.1; have t6 := hS.2.2.2.2.2.2.1; go_simp; exact zO hK
       refine zS (fun w' hS hV K hK => ?_) ?_
       · obtain ⟨q0, q1⟩ := hS.1.two; have t1 := hS.2.1; have t2 := hS.2.2.1; have t3 := hS.2.2.2.1; have t4 := hS.2.2.2.2.1; have t5 := hS.2.2.2.2.2.1; have t6 := hS.2.2.2.2.2.2.1; go_simp; exact zO hK
       refine zS (fun w' hS hV K hK => ?_) ?_
       · have e17 := zQ hV 17; have e18 := zQ hV 18; obtain ⟨q0, q1⟩ := hS.1.two; have t1 := hS.2.1; have t2 := hS.2.2.1; have t3 := hS.2.2.2.1; have t4 := hS.2.2.2.2.1; have t5 := hS.2.2.2.2.2.1; have t6 := hS.2.2.2.2.2.2.1; go_simp; exact zO hK
       refine zS (fun w' hS hV K hK => ?_) ?_
       · have e19 := zQ hV 19; obtain ⟨q0, q1⟩ := hS.1.two; have t1 := hS.2.1; have t2 := hS.2.2.1; have t3 := hS.2.2.2.1; have t4 := hS.2.2.2.2.1; have t5 := hS.2.2.2.2.2.1; have t6 := hS.2.2.2.2.2.2.1; go_simp; exact zO hK
       refine zS (fun w' hS hV K hK => ?_) ?_
       · obtain ⟨q0, q1⟩ := hS.1.two; have t1 := hS.2.1; have t2 := hS.2.2.1; have t3 := hS.2.2.2.1; have t4 := hS.2.2.2.2.1; have t5 := hS.2.2.2.2.2.1; have t6 := hS.2.2.2.2.2.2.1; go_simp; exact zO hK
       refine zS (fun w' hS hV K hK => ?_) ?_
       · obtain ⟨q0, q1⟩ := hS.1.two; have t1 := hS.2.1; have t2 := hS.2.2.1; have t3 := hS.2.2.2.1; have t4 := hS.2.2.2.2.1; have t5 := hS.2.2.2.2.2.1; have t6 := hS.2.2.2.2.2.2.1; go_simp; exact zO hK
       refine zS (fun w' hS hV K hK => ?_) ?_
       · have e21 := zQ hV 21; have e22 := zQ hV 22; obtain ⟨q0, q1⟩ := hS.1.two; have t1 := hS.2.1; have t2 := hS.2.2.1; have t3 := hS.2.2.2.1; have t4 := hS.2.2.2.2.1; have t5 := hS.2.2.2.2.2.1; have t6 := hS.2.2.2.2.2.2.1; go_simp; exact zO hK
       refine zS (fun w' hS hV K hK => ?_) ?_
       · have e23 := zQ hV 23; obtain ⟨q0, q1⟩ := hS.1.two; have t1 := hS.2.1; have t2 := hS.2.2.1; have t3 := hS.2.2.2.1; have t4 := hS.2.2.2.2.1; have t5 := hS.2.2.2.2.2.1; have t6 := hS.2.2.2.2.2.2.1; go_simp; exact zO hK
       refine zS (fun w' hS hV K hK => ?_) ?_
       · have e20 := zQ hV 20; have e24 := zQ hV 24; obtain ⟨q0, q1⟩ := hS.1.two; have t1 := hS.2.1; have t2 := hS.2.2.1; have t3 := hS.2.2.2.1; have t4 := hS.2.2.2.2.1; have t5 := hS.2.2.2.2.2.1; have t6 := hS.2.2.2.2.2.2.1; go_simp; exact hK.out _ _ _ rfl rfl (by first | rfl | exact congrArg (Value.int .i64) (by omega) | exact congrArg (Value.int .i64) (i64_fit _ (by omega) (by omega))) zG
       refine zS (fun w' hS hV K hK => ?_) ?_
       · have e13 := zQ hV 13; have e25 := zQ hV 25; obtain ⟨q0, q1⟩ := hS.1.two; have t1 := hS.2.1; have t2 := hS.2.2.1; have t3 := hS.2.2.2.1; have t4 := hS.2.2.2.2.1; have t5 := hS.2.2.2.2.2.1; have t6 := hS.2.2.2.2.2.2.1; go_simp; exact hK.out _ _ _ rfl rfl (by first | rfl | exact congrArg (Value.int .i64) (by omega) | exact congrArg (Value.int .i64) (i64_fit _ (by omega) (by omega))) zG
       refine zS (fun w' hS hV K hK => ?_) ?_
       · have e1 := zQ hV 1; have e26 := zQ hV 26; obtain ⟨q0, q1⟩ := hS.1.two; have t1 := hS.2.1; have t2 := hS.2.2.1; have t3 := hS.2.2.2.1; have t4 := hS.2.2.2.2.1; have t5 := hS.2.2.2.2.2.1; have t6 := hS.2.2.2.2.2.2.1; go_simp; refine (num_any p (x1 * d1 + x2 * d2) w' (by omega) hp2 (by omega) (by omega)).mono ?_; rintro e v1 ⟨rfl, rfl⟩; exact hK.out _ _ _ rfl rfl (by rw [hz0]; rfl) zG
       refine zS (fun w' hS hV K hK => ?_) ?_
       · have e27 := zQ hV 27; obtain ⟨q0, q1⟩ := hS.1.two; have t1 := hS.2.1; have t2 := hS.2.2.1; have t3 := hS.2.2.2.1; have t4 := hS.2.2.2.2.1; have t5 := hS.2.2.2.2.2.1; have t6 := hS.2.2.2.2.2.2.1; go_simp; exact zO hK
       refine fun w' hS hV => ?_
       have e0 := zT hV 0
       have e1 := zT hV 1
       have e2 := zT hV 2
       have e3 := zT hV 3
       have e4 := zT hV 4
       have e5 := zT hV 5
       have e6 := zT hV 6
       have e7 := zT hV 7
       have e8 := zT hV 8
       have e9 := zT hV 9
       have e10 := zT hV 10
       have e11 := zT hV 11
       have e12 := zT hV 12
       have e13 := zT hV 13
       have e14 := zT hV 14
       have e15 := zT hV 15
       have e16 := zT hV 16
       have e17 := zT hV 17
       have e18 := zT hV 18
       have e19 := zT hV 19
       have e20 := zT hV 20
       have e21 := zT hV 21
       have e22 := zT hV 22
       have e23 := zT hV 23
       have e24 := zT hV 24
       have e25 := zT hV 25
       have e26 := zT hV 26
       have e27 := zT hV 27
       have e28 := zT hV 28
       simp only [e0, e1, e2, e3, e4, e5, e6, e7, e8, e9, e10, e11, e12, e13, e14, e15, e16, e17, e18, e19, e20, e21, e22, e23, e24, e25, e26, e27, e28]
       clear e0 e1 e2 e3 e4 e5 e6 e7 e8 e9 e10 e11 e12 e13 e14 e15 e16 e17 e18 e19 e20 e21 e22 e23 e24 e25 e26 e27 e28
       refine wpAny_done (by kernel_rfl) ?_ _
       obtain ⟨k7, -, -, -, -, -, -, s2⟩ := hS
       have HB7 := Lib.hid (HB.out.trans (s2.mono HB.out.size))
       clear hV s2 m1 m2 m3 m4 hz0 c1 c2 c3 c4 c5 c6
       go_wp2
       go_roundw
       case rel => exact ⟨q + 1, by omega, by go_num, HB7, k7⟩
       case measure => simp [intOf]; omega
     · obtain rfl : q = n := by omega
       go_wp2
       go_roundw
       case rel => exact ⟨i + 1, by omega, by go_num, HB, kr⟩
       case measure => simp [intOf]; omega
  · go_wp2
    go_ret
    exact ⟨rfl, hB2.trans (HB.out.mono hB2.size)⟩
/-- What is 0 for a derivation. -/
def dgapL (p : Int) (k : Nat) (st : List Int) (M : List (List Int)) (i q : Nat) : List Int :=
 plusL p (plusL p (dblL p k st (dcolL M i) (unitRow (pw k) q)) (dblL p k st (unitRow (pw k) i) (dcolL M q)) 1) (applyL p M (dblL p k st (unitRow (pw k) i) (unitRow (pw k) q))) (-1)
set_option maxHeartbeats 6400000 in
set_option maxRecDepth 8000 in
theorem disDerivation_ok (p : Int) (hp : 2 ≤ p) (hp2 : p ≤ 13) (k : Nat) (hk : k ≤ 4) (A : Option Addr) (c : Nat) (st : List Int) (m : Option Addr) (cm : Nat) (M : List (List Int)) (w : World) (hc : k ≤ c) (ha : Rd w A k (ints st)) (hst : NumsL p st) (hm : RdII w m (pw k) M) (hT : Tab p (pw k) M) (hdz : ∀ i q, i < pw k → q < pw k → zeroL (dgapL p k st M i q) = true) :
    Calls Tryz.prog 77 #[.agg #[.int .i64 p, .slice A k c], .slice m (pw k) cm] w fun e w' => e = .returned (.bool true) ∧ Below w.heap.size w w' := by
 have hpk : pw k ≤ 16 := pw_le hk
 have hpos := pw_pos k
 have hB0 : Below w.heap.size w (w.alloc (.cells #[.int .i64 p, .slice A k c] 26)) := zG.alloc (Nat.le_refl _) _
 have k0 : Blk (w.alloc (.cells #[.int .i64 p, .slice A k c] 26)) w.heap.size 26 #[.int .i64 p, .slice A k c] := Blk.new _ _ _
 have hsz := fun w' => dsize_any p A k c w' hk
 have hml := hm.len
 obtain ⟨TT, hTT⟩ : ∃ z : List Int → List Int → List Int, z = fun x y => dblL p k st x y := ⟨_, rfl⟩
 obtain ⟨n, hn⟩ : ∃ n, n = pw k := ⟨_, rfl⟩
 have HTI : Hid (∀ (w' : World) (x y : List Int) (X : Option Addr) (cx : Nat) (Y : Option Addr) (cy : Nat), Below w.heap.size w w' → n ≤ cx → n ≤ cy → Rd w' X n (ints x) → NumsL p x → Rd w' Y n (ints y) → NumsL p y → Calls Tryz.prog 108 #[.agg #[.int .i64 p, .slice A k c], .slice X n cx, .slice Y n cy] w' fun e w'' => ∃ A' c', e = .returned (.slice A' n c') ∧ MkI w' w'' A' n c' (TT x y)) := Lib.hid fun w' x y X cx Y cy hb h1 h2 hX hXn hY hYn => by
  rw [hTT]
  subst hn
  exact dtimes_any p hp hp2 k hk A c st X cx x Y cy y w' hc h1 h2 (ha.below hb) hst hX hXn hY hYn
 have HTN : Hid (∀ x y, NumsL p (TT x y)) := Lib.hid fun x y => by rw [hTT]; exact dblL_nums (by omega) _ _ _ _
 have HDZ : Hid (∀ i q, i < n → q < n → zeroL (plusL p (plusL p (TT (dcolL M i) (unitRow n q)) (TT (unitRow n i) (dcolL M q)) 1) (applyL p M (TT (unitRow n i) (unitRow n q))) (-1)) = true) := Lib.hid fun i q h1 h2 => by
  rw [hTT]
  subst hn
  exact hdz i q h1 h2
 rw [← hn] at hpk hpos hsz hm hT hml ⊢
 have HT := Lib.hid hT
 have HML := Lib.hid hml
 obtain ⟨q0, q1⟩ := k0.two
 clear hTT hn hdz hT ha hst hml
 go_enter Tryz.func77, Tryz.ntmps77
 go_wp2_with fail
 refine (dfield_any p A k c _).mono ?_
 rintro e w1 ⟨rfl, hb1⟩
 have hB1 := hB0.trans (hb1.mono hB0.size)
 have k1 := k0.below hb1 k0.lt
 clear q0 q1 hB0 k0 hb1
 obtain ⟨q0, q1⟩ := k1.two
 go_wp2_with fail
 refine (hsz _).mono ?_
 rintro e w2 ⟨rfl, hb2⟩
 have hB2 := hB1.trans (hb2.mono hB1.size)
 have k2 := k1.below hb2 k1.lt
 clear q0 q1 hB1 k1 hb2
 go_wp2_with fail
 refine (unit_any n _ (by omega)).mono ?_
 rintro e w3 ⟨U, cU, rfl, hU⟩
 have HB3 := Lib.hid (hB2.trans (hU.b.mono hB2.size))
 have k3 := k2.below hU.b k2.lt
 have HU := Lib.hid hU.rd
 clear hB2 k2 hU
 go_wp2
 go_loopw [17] (fun i wr => ∃ j : Nat, j ≤ n ∧ i = .int .i64 j ∧ Hid (Below w3.heap.size w3 wr) ∧ Blk wr w.heap.size 26 #[.int .i64 p, .slice A k c]) (fun i _ => n - (intOf i).toNat)
 case atStart => exact ⟨0, by omega, rfl, Lib.hid zG, k3⟩
 case round =>
  obtain ⟨i, hi', rfl, HB, kr⟩ := hrel
  clear k3
  by_cases hlt : i < n
  · obtain ⟨gu, ou, rfl, hxk, A1, c1, hcu, hru, hcx⟩ := (HU.out.below HB.out).at_ hlt
    have hrow := unitM_get n i hxk
    rw [hrow, unitRow_len] at hru hcu hcx
    have HX1 := Lib.hid hru
    obtain ⟨q0, q1⟩ := kr.two
    clear hru hrow hxk
    go_wp2_with fail
    refine (hsz _).mono ?_
    rintro e w4 ⟨rfl, hb4⟩
    have HX4 := Lib.hid (HX1.out.below hb4)
    have HB4 := Lib.hid (HB.out.trans (hb4.mono HB.out.size))
    have k4 := kr.below hb4 kr.lt
    clear q0 q1 hb4 HX1 HB kr hcu
    go_wp2_with fail
    refine (unit_any n _ (by omega)).mono ?_
    rintro e w5 ⟨U2, cU2, rfl, hU2⟩
    have HX5 := Lib.hid (HX4.out.below hU2.b)
    have HB5 := Lib.hid (HB4.out.trans (hU2.b.mono HB4.out.size))
    have k5 := k4.below hU2.b k4.lt
    have HU2 := Lib.hid hU2.rd
    clear hU2 HX4 HB4 k4
    go_wp2
    go_loopw [26] (fun i wr => ∃ j : Nat, j ≤ n ∧ i = .int .i64 j ∧ Hid (Below w5.heap.size w5 wr) ∧ Blk wr w.heap.size 26 #[.int .i64 p, .slice A k c]) (fun i _ => n - (intOf i).toNat)
    case atStart => exact ⟨0, by omega, rfl, Lib.hid zG, k5⟩
    case round =>
     obtain ⟨q, hq', rfl, HB, kr⟩ := hrel
     clear k5
     by_cases hlq : q < n
     · obtain ⟨gu2, ou2, rfl, hxk2, A3, c3, hcu2, hru2, hcy⟩ := (HU2.out.below HB.out).at_ hlq
       have hrow2 := unitM_get n q hxk2
       rw [hrow2, unitRow_len] at hru2 hcu2 hcy
       have HY := Lib.hid hru2
       have HXX := Lib.hid (HX5.out.below HB.out)
       have HBr := Lib.hid ((HB3.out.trans (HB5.out.mono HB3.out.size)).trans (HB.out.mono (HB3.out.trans (HB5.out.mono HB3.out.size)).size))
       have HMr := Lib.hid (hm.below HBr.out)
       have HUN := Lib.hid (unitRow_nums (p := p) hp n q)
       have HUM := Lib.hid (unitRow_nums (p := p) hp n i)
       have HCN := Lib.hid (dcolL_nums (show 0 < p by omega) HT.out i)
       have HCM := Lib.hid (dcolL_nums (show 0 < p by omega) HT.out q)
       clear hru2 hrow2 hxk2
       go_wp2
       refine wp_obs 15 [[],[],[],[],[2,3],[],[1,2,3,4,5],[],[],[],[],[9,10],[7,8,9,10,11],[0,1,2,3,4,5,6,7,8,9,10,11,12],[0,1,2,3,4,5,6,7,8,9,10,11,12,13]] [VIs (.int .i64 (p)), VIs (.agg #[.int .i64 p, .slice A k c]), VIs (.slice m n cm), VIs (.int .i64 (i)), VSl wr n (dcolL M i), VIs (.slice A3 n c3), VSl wr n (TT (dcolL M i) (unitRow n q)), VIs (.agg #[.int .i64 p, .slice A k c]), VIs (.slice A1 n c1), VIs (.slice m n cm), VIs (.int .i64 (q)), VSl wr n (dcolL M q), VSl wr n (TT (unitRow n i) (dcolL M q)), VSl wr n (plusL p (TT (dcolL M i) (unitRow n q)) (TT (unitRow n i) (dcolL M q)) 1), VSl wr n (plusL p (TT (dcolL M i) (unitRow n q)) (TT (unitRow n i) (dcolL M q)) 1)] (fun w' => Blk w' w.heap.size 26 #[.int .i64 p, .slice A k c] ∧ Below wr.heap.size wr w') (by kernel_rfl) (by kernel_rfl) (fun _ _ h hb => ⟨h.1.below hb h.1.lt, h.2.trans (hb.mono h.2.size)⟩) (⟨kr.drew, zG.drew⟩) (fun x => ?_)
       refine zS (fun w' hS hV K hK => ?_) ?_
       · obtain ⟨q0, q1⟩ := hS.1.two; go_simp; exact zO hK
       refine zS (fun w' hS hV K hK => ?_) ?_
       · obtain ⟨q0, q1⟩ := hS.1.two; go_simp; exact zO hK
       refine zS (fun w' hS hV K hK => ?_) ?_
       · obtain ⟨q0, q1⟩ := hS.1.two; go_simp; exact zO hK
       refine zS (fun w' hS hV K hK => ?_) ?_
       · obtain ⟨q0, q1⟩ := hS.1.two; go_simp; exact zO hK
       refine zS (fun w' hS hV K hK => ?_) ?_
       · have e2 := zQ hV 2; have e3 := zQ hV 3; obtain ⟨q0, q1⟩ := hS.1.two; go_simp; refine (column_any p m n cm M n i w' hlt (by omega) (HMr.out.below hS.2) HT.out).mono ?_; rintro e v1 ⟨A9, c9, rfl, hM⟩; exact hK.out _ _ _ rfl rfl ⟨_, _, rfl, hM.after hS.2⟩ hM.b
       refine zS (fun w' hS hV K hK => ?_) ?_
       · obtain ⟨q0, q1⟩ := hS.1.two; go_simp; exact zO hK
       refine zS (fun w' hS hV K hK => ?_) ?_
       · have e1 := zQ hV 1; obtain ⟨A4, c4, e4, h4⟩ := hV 4 (by decide); have e5 := zQ hV 5; obtain ⟨q0, q1⟩ := hS.1.two; go_simp; refine (HTI.out w' (dcolL M i) (unitRow n q) _ _ _ _ (HBr.out.trans (hS.2.mono HBr.out.size)) h4.2.cap hcy h4.rd HCN.out (HY.out.below hS.2) HUN.out).mono ?_; rintro e v1 ⟨A9, c9, rfl, hM⟩; exact hK.out _ _ _ rfl rfl ⟨_, _, rfl, hM.after hS.2⟩ hM.b
       refine zS (fun w' hS hV K hK => ?_) ?_
       · obtain ⟨q0, q1⟩ := hS.1.two; go_simp; exact zO hK
       refine zS (fun w' hS hV K hK => ?_) ?_
       · obtain ⟨q0, q1⟩ := hS.1.two; go_simp; exact zO hK
       refine zS (fun w' hS hV K hK => ?_) ?_
       · obtain ⟨q0, q1⟩ := hS.1.two; go_simp; exact zO hK
       refine zS (fun w' hS hV K hK => ?_) ?_
       · obtain ⟨q0, q1⟩ := hS.1.two; go_simp; exact zO hK
       refine zS (fun w' hS hV K hK => ?_) ?_
       · have e9 := zQ hV 9; have e10 := zQ hV 10; obtain ⟨q0, q1⟩ := hS.1.two; go_simp; refine (column_any p m n cm M n q w' hlq (by omega) (HMr.out.below hS.2) HT.out).mono ?_; rintro e v1 ⟨A9, c9, rfl, hM⟩; exact hK.out _ _ _ rfl rfl ⟨_, _, rfl, hM.after hS.2⟩ hM.b
       refine zS (fun w' hS hV K hK => ?_) ?_
       · have e7 := zQ hV 7; have e8 := zQ hV 8; obtain ⟨A11, c11, e11, h11⟩ := hV 11 (by decide); obtain ⟨q0, q1⟩ := hS.1.two; go_simp; refine (HTI.out w' (unitRow n i) (dcolL M q) _ _ _ _ (HBr.out.trans (hS.2.mono HBr.out.size)) hcx h11.2.cap (HXX.out.below hS.2) HUM.out h11.rd HCM.out).mono ?_; rintro e v1 ⟨A9, c9, rfl, hM⟩; exact hK.out _ _ _ rfl rfl ⟨_, _, rfl, hM.after hS.2⟩ hM.b
       refine zS (fun w' hS hV K hK => ?_) ?_
       · have e0 := zQ hV 0; obtain ⟨A4, c4, e4, h4⟩ := hV 4 (by decide); obtain ⟨A6, c6, e6, h6⟩ := hV 6 (by decide); obtain ⟨A11, c11, e11, h11⟩ := hV 11 (by decide); obtain ⟨A12, c12, e12, h12⟩ := hV 12 (by decide); obtain ⟨q0, q1⟩ := hS.1.two; go_simp; refine (plus_any p _ n _ _ n _ 1 (TT (dcolL M i) (unitRow n q)) (TT (unitRow n i) (dcolL M q)) w' hp hp2 (by omega) (Nat.le_refl _) h6.rd (HTN.out _ _) h12.rd (HTN.out _ _) (by omega) (by omega)).mono ?_; rintro e v1 ⟨A9, c9, rfl, hM⟩; exact hK.out _ _ _ rfl rfl ⟨_, _, rfl, hM.after hS.2⟩ hM.b
       refine zS (fun w' hS hV K hK => ?_) ?_
       · obtain ⟨A4, c4, e4, h4⟩ := hV 4 (by decide); obtain ⟨A6, c6, e6, h6⟩ := hV 6 (by decide); obtain ⟨A11, c11, e11, h11⟩ := hV 11 (by decide); obtain ⟨A12, c12, e12, h12⟩ := hV 12 (by decide); obtain ⟨A13, c13, e13, h13⟩ := hV 13 (by decide); obtain ⟨q0, q1⟩ := hS.1.two; go_simp; exact hK.out _ _ _ rfl rfl ⟨_, _, rfl, h13⟩ zG
       refine fun w' hS hV => ?_
       have e0 := zT hV 0
       have e1 := zT hV 1
       have e2 := zT hV 2
       have e3 := zT hV 3
       obtain ⟨A4, c4, e4, h4⟩ := hV 4 (by decide)
       have e5 := zT hV 5
       obtain ⟨A6, c6, e6, h6⟩ := hV 6 (by decide)
       have e7 := zT hV 7
       have e8 := zT hV 8
       have e9 := zT hV 9
       have e10 := zT hV 10
       obtain ⟨A11, c11, e11, h11⟩ := hV 11 (by decide)
       obtain ⟨A12, c12, e12, h12⟩ := hV 12 (by decide)
       obtain ⟨A13, c13, e13, h13⟩ := hV 13 (by decide)
       obtain ⟨A14, c14, e14, h14⟩ := hV 14 (by decide)
       simp only [e0, e1, e2, e3, e4, e5, e6, e7, e8, e9, e10, e11, e12, e13, e14]
       clear e0 e1 e2 e3 e4 e5 e6 e7 e8 e9 e10 e11 e12 e13 e14
       refine wpAny_done (by kernel_rfl) ?_ _
       obtain ⟨k7, s2⟩ := hS
       have HS7 := Lib.hid h14
       have HB7 := Lib.hid (HB.out.trans (s2.mono HB.out.size))
       have HW7 := Lib.hid (HBr.out.trans (s2.mono HBr.out.size))
       have HX7 := Lib.hid (HXX.out.below s2)
       have HY7 := Lib.hid (HY.out.below s2)
       have HM7 := Lib.hid (HMr.out.below s2)
       obtain ⟨w7, hw7⟩ : ∃ W, W = w' := ⟨_, rfl⟩
       rw [← hw7] at HS7 HB7 HW7 HX7 HY7 HM7 k7 ⊢
       obtain ⟨q0, q1⟩ := k7.two
       clear hV s2 hw7 hcu2 h4 h6 h11 h12 h13 h14
       go_wp2_with fail
       refine (HTI.out w7 (unitRow n i) (unitRow n q) _ _ _ _ HW7.out hcx hcy HX7.out HUM.out HY7.out HUN.out).mono ?_
       rintro e w8 ⟨A8, c8, rfl, hM8⟩
       go_wp2_with fail
       refine (apply_any p m n cm M A8 n c8 (TT (unitRow n i) (unitRow n q)) w8 hp hp2 (by omega) (by omega) (HM7.out.below hM8.b) HT.out hM8.rd (HTN.out _ _)).mono ?_
       rintro e w9 ⟨A9, c9, rfl, hM9⟩
       have HB89 := Lib.hid (hM8.b.trans (hM9.b.mono hM8.b.size))
       go_wp2_with fail
       refine (plus_any p _ n _ A9 n c9 (-1) _ _ w9 hp hp2 (by omega) (Nat.le_refl _) (HS7.out.rd.below HB89.out) (plusL_nums (by omega) _ _ _) hM9.rd (applyL_nums (by omega) _ _) (by omega) (by omega)).mono ?_
       rintro e wa ⟨Aa, ca, rfl, hMa⟩
       have HBa := Lib.hid (HB89.out.trans (hMa.b.mono HB89.out.size))
       have HRa := Lib.hid hMa.rd
       have kA := k7.below HBa.out k7.lt
       have HBB := Lib.hid (HB7.out.trans (HBa.out.mono HB7.out.size))
       have hiz := isZero_any Aa n ca _ wa (by omega) HRa.out
       rw [HDZ.out i q hlt hlq] at hiz
       clear hM8 hM9 hMa q0 q1 HB89 HBa
       go_wp2_with fail
       refine hiz.mono ?_
       rintro e wb ⟨rfl, rfl⟩
       clear hiz
       go_wp2
       go_roundw
       case rel => exact ⟨q + 1, by omega, by go_num, HBB, kA⟩
       case measure => simp [intOf]; omega
     · obtain rfl : q = n := by omega
       go_wp2
       go_roundw
       case rel => exact ⟨i + 1, by omega, by go_num, Lib.hid (HB5.out.trans (HB.out.mono HB5.out.size)), kr⟩
       case measure => simp [intOf]; omega
  · go_wp2
    go_ret
    exact ⟨rfl, HB3.out.trans (HB.out.mono HB3.out.size)⟩
theorem isMx_mk {p : Int} {k : Nat} {M : List (List Int)} (hk : k ≤ 3) (hl : M.length = pw k) (hT : Tab p (pw k) M) : isMx p k M = true := by
 have h8 : pw k ≤ 8 := pw_le hk
 have h0 := pw_pos k
 have hrow := (hT.row (show 0 < M.length by omega)).1
 unfold isMx isTb
 rw [hrow, hl]
 simp only [Bool.and_eq_true, decide_eq_true_eq, beq_self_eq_true, and_true]
 refine ⟨by omega, by omega, List.all_eq_true.2 fun x hx => ?_⟩
 obtain ⟨h1, h2⟩ := hT x hx
 unfold isTbR nums
 rw [h1]
 simp only [Bool.and_eq_true, decide_eq_true_eq, beq_self_eq_true, true_and]
 exact ⟨⟨by omega, by omega⟩, List.all_eq_true.2 fun v hv => by have := h2 v hv; simp [inR]; omega⟩
theorem codeT_mk {p : Int} {st : List Int} {yss : List (List Int)} {mss : List (List (List Int))} (h : isDb p st = true) (h3 : st.length ≤ 3) (hy : ∀ ys ∈ yss, ys.length = pw st.length ∧ NumsL p ys) (hm : ∀ M ∈ mss, M.length = pw st.length ∧ Tab p (pw st.length) M) : codeT p st yss mss = 0 := by
 unfold codeT
 rw [if_pos h, if_neg (by omega), codeD_mk h hy, if_neg]
 rintro (hh | hh)
 · exact hh rfl
 · obtain ⟨M, h1, e⟩ := List.any_eq_true.1 hh
   rw [isMx_mk h3 (hm M h1).1 (hm M h1).2] at e
   cases e
theorem rdM3_one {w : World} {g : Nat} {t : TypeId} {A : Option Addr} {n c : Nat} {M : List (List Int)} (k : Blk w g t #[.slice A n c]) (hx : RdII w A n M) (h1 : n ≤ c) : RdM3 w (some ⟨g, 0, none⟩) 1 [M] := by
 have e1 : M.length = n := hx.len
 subst e1
 refine ⟨[.slice A M.length c], ⟨rfl, fun _ => ⟨g, 0, rfl, fun i u hu => ?_⟩⟩, rfl, fun i hi => ?_⟩
 · match i, hu with
   | 0, hu => simp at hu; subst hu; exact k.cell 0
 · match i, hi with
   | 0, _ => exact ⟨A, c, rfl, hx, h1⟩
theorem rdM3_two {w : World} {g : Nat} {t : TypeId} {A B : Option Addr} {n m c d : Nat} {M N : List (List Int)} (k : Blk w g t #[.slice A n c, .slice B m d]) (hx : RdII w A n M) (hy : RdII w B m N) (h1 : n ≤ c) (h2 : m ≤ d) : RdM3 w (some ⟨g, 0, none⟩) 2 [M, N] := by
 have e1 : M.length = n := hx.len
 have e2 : N.length = m := hy.len
 subst e1; subst e2
 refine ⟨[.slice A M.length c, .slice B N.length d], ⟨rfl, fun _ => ⟨g, 0, rfl, fun i u hu => ?_⟩⟩, rfl, fun i hi => ?_⟩
 · match i, hu with
   | 0, hu => simp at hu; subst hu; exact k.cell 0
   | 1, hu => simp at hu; subst hu; exact k.cell 1
 · match i, hi with
   | 0, _ => exact ⟨A, c, rfl, hx, h1⟩
   | 1, _ => exact ⟨B, d, rfl, hy, h2⟩
theorem okM3_tab {p : Int} {k : Nat} {M : List (List Int)} (hk : k ≤ 3) (hl : M.length = pw k) (hT : Tab p (pw k) M) : okM3 M := by
 have h8 : pw k ≤ 8 := pw_le hk
 exact ⟨by omega, fun x hx => by have := (hT x hx).1; omega⟩
/-- The bracket of matrices. -/
def brMx (p : Int) (a b : List (List Int)) : List (List Int) := sumL p (timesM p a b) (timesM p b a) (-1)
set_option maxHeartbeats 1600000 in
set_option maxRecDepth 8000 in
theorem matrixBracket_any (p : Int) (A : Option Addr) (n c : Nat) (M : List (List Int)) (B : Option Addr) (d : Nat) (N : List (List Int)) (w : World) (hp : 2 ≤ p) (hp2 : p ≤ 13) (h0 : 0 < n) (hn : n ≤ 65536) (ha : RdII w A n M) (hM : Tab p n M) (hb : RdII w B n N) (hN : Tab p n N) :
    Calls Tryz.prog 63 #[.int .i64 p, .slice A n c, .slice B n d] w fun e w' => ∃ A' c', e = .returned (.slice A' n c') ∧ MkII w w' A' n c' (brMx p M N) := by
 have h1 := timesM_any p A n c M B d N w hp hp2 h0 hn ha hM hb hN
 have h2 := fun w' (h : Below w.heap.size w w') => timesM_any p B n d N A c M w' hp hp2 h0 hn (hb.below h) hN (ha.below h) hM
 have hT1 := timesM_tab (p := p) (n := n) (M := M) (by omega) h0 hN hb.len
 have hT2 := timesM_tab (p := p) (n := n) (M := N) (by omega) h0 hM ha.len
 have HMb := Lib.hid h2
 obtain ⟨X, hX⟩ : ∃ X, X = timesM p M N := ⟨_, rfl⟩
 obtain ⟨Y, hY⟩ : ∃ Y, Y = timesM p N M := ⟨_, rfl⟩
 have HBR : Hid (brMx p M N = sumL p X Y (-1)) := Lib.hid (by rw [hX, hY]; rfl)
 rw [← hX] at h1 hT1
 rw [← hY] at hT2 HMb
 have HT1 := Lib.hid hT1
 have HT2 := Lib.hid hT2
 clear h2 ha hM hb hN hX hY hT1 hT2
 go_enter Tryz.func63, Tryz.ntmps63
 go_wp2_with fail
 refine h1.mono ?_
 rintro e w1 ⟨A1, c1, rfl, hM1⟩
 have HM1 := Lib.hid hM1
 clear h1 hM1
 go_wp2_with fail
 refine (HMb.out _ HM1.out.b).mono ?_
 rintro e w2 ⟨A2, c2, rfl, hM2⟩
 have HM2 := Lib.hid hM2
 clear hM2
 go_wp2_with fail
 refine (sumG_any p A1 n c1 X A2 c2 Y (-1) w2 hp hp2 hn (HM1.out.below HM2.out.b).rd HT1.out HM2.out.rd HT2.out (by omega) (by omega)).mono ?_
 rintro e w3 ⟨A3, c3, rfl, hM3⟩
 go_wp2
 go_ret
 exact ⟨_, _, rfl, by rw [HBR.out]; exact hM3.after ((HM1.out.below HM2.out.b).b)⟩
set_option maxHeartbeats 1600000 in
set_option maxRecDepth 8000 in
/-- MatrixBracket, where the arguments are well-formed. -/
theorem MatrixBracket_ok (p : Int) (A : Option Addr) (k c : Nat) (st : List Int) (X : Option Addr) (cx : Nat) (M : List (List Int)) (Y : Option Addr) (cy : Nat) (N : List (List Int)) (w : World) (hdb : isDb p st = true) (hk3 : k ≤ 3) (hc : k ≤ c) (ha : Rd w A k (ints st)) (hM : RdII w X (pw k) M) (hMT : Tab p (pw k) M) (hMc : pw k ≤ cx) (hN : RdII w Y (pw k) N) (hNT : Tab p (pw k) N) (hNc : pw k ≤ cy) :
    Calls Tryz.prog 28 #[.agg #[.int .i64 p, .slice A k c], .slice X (pw k) cx, .slice Y (pw k) cy] w fun e w' => ∃ A' c', e = .returned (.tuple #[.slice A' (pw k) c', .int .i64 0]) ∧ MkII w w' A' (pw k) c' (brMx p M N) := by
 obtain ⟨HP, -, hst⟩ := isDb_facts hdb
 obtain ⟨hp3, hp2⟩ := isP_ge HP
 have hp : 2 ≤ p := by omega
 have hpk : pw k ≤ 8 := pw_le hk3
 have hpos := pw_pos k
 have hsl : st.length = k := ha.lenI
 have hB1 : Below w.heap.size w ((w.alloc (.cells #[.int .i64 p, .slice A k c] 26)).alloc (.cells #[.slice X (pw k) cx, .slice Y (pw k) cy] 32)) := (zG.alloc (Nat.le_refl _) _).alloc (by simp; try omega) _
 have k1 := (Blk.new w 26 #[.int .i64 p, .slice A k c]).alloc (.cells #[.slice X (pw k) cx, .slice Y (pw k) cy] 32)
 have hck := checkThree_any p A none (some ⟨w.heap.size + 1, 0, none⟩) k c 0 0 2 2 st [] [M, N] ((w.alloc (.cells #[.int .i64 p, .slice A k c] 26)).alloc (.cells #[.slice X (pw k) cx, .slice Y (pw k) cy] 32)) (by omega) (by omega) (by omega) (ha.below hB1) ⟨[], Rd.nil _ _, rfl, fun k h => absurd h (by simp)⟩ (fun ys hy => absurd hy (by simp)) (rdM3_two (Blk.newAt3 (by simp)) (hM.below hB1) (hN.below hB1) hMc hNc) (all_two (okM3_tab hk3 hM.len hMT) (okM3_tab hk3 hN.len hNT))
 rw [codeT_mk hdb (by omega) (fun ys hy => absurd hy (by simp)) (all_two (by rw [hsl]; exact ⟨hM.len, hMT⟩) (by rw [hsl]; exact ⟨hN.len, hNT⟩))] at hck
 have hcall := fun w' (h : Below w.heap.size w w') => matrixBracket_any p X (pw k) cx M Y cy N w' hp hp2 hpos (by omega) (hM.below h) hMT (hN.below h) hNT
 have HCALL := Lib.hid hcall
 obtain ⟨q0, q1⟩ := k1.two
 clear hdb HP hst hcall
 go_enter Tryz.func28, Tryz.ntmps28
 go_wp2_with fail
 refine hck.mono ?_
 rintro e w2 ⟨rfl, hb2⟩
 have hB2 := hB1.trans (hb2.mono hB1.size)
 have k2 := k1.below hb2 k1.lt
 clear q0 q1 hck k1 hb2
 obtain ⟨q0, q1⟩ := k2.two
 go_wp2_with fail
 refine (dfield_any p A k c _).mono ?_
 rintro e w3 ⟨rfl, hb3⟩
 have hB3 := hB2.trans (hb3.mono hB2.size)
 clear q0 q1
 go_wp2_with fail
 refine (HCALL.out _ hB3).mono ?_
 rintro e w4 ⟨A4, c4, rfl, hM4⟩
 go_wp2
 go_ret2
 exact ⟨_, _, rfl, hM4.after hB3⟩
set_option maxHeartbeats 1600000 in
set_option maxRecDepth 8000 in
/-- IsDerivation, of a derivation. -/
theorem IsDerivation_ok (p : Int) (A : Option Addr) (k c : Nat) (st : List Int) (X : Option Addr) (cx : Nat) (M : List (List Int)) (w : World) (hdb : isDb p st = true) (hk3 : k ≤ 3) (hc : k ≤ c) (ha : Rd w A k (ints st)) (hM : RdII w X (pw k) M) (hMT : Tab p (pw k) M) (hMc : pw k ≤ cx) (hdz : ∀ i q, i < pw k → q < pw k → zeroL (dgapL p k st M i q) = true) :
    Calls Tryz.prog 29 #[.agg #[.int .i64 p, .slice A k c], .slice X (pw k) cx] w fun e w' => e = .returned (.tuple #[.bool true, .int .i64 0]) ∧ Below w.heap.size w w' := by
 obtain ⟨HP, -, hst⟩ := isDb_facts hdb
 obtain ⟨hp3, hp2⟩ := isP_ge HP
 have hp : 2 ≤ p := by omega
 have hpk : pw k ≤ 8 := pw_le hk3
 have hpos := pw_pos k
 have hsl : st.length = k := ha.lenI
 have hB1 : Below w.heap.size w ((w.alloc (.cells #[.int .i64 p, .slice A k c] 26)).alloc (.cells #[.slice X (pw k) cx] 32)) := (zG.alloc (Nat.le_refl _) _).alloc (by simp; try omega) _
 have k1 := (Blk.new w 26 #[.int .i64 p, .slice A k c]).alloc (.cells #[.slice X (pw k) cx] 32)
 have hck := checkThree_any p A none (some ⟨w.heap.size + 1, 0, none⟩) k c 0 0 1 1 st [] [M] ((w.alloc (.cells #[.int .i64 p, .slice A k c] 26)).alloc (.cells #[.slice X (pw k) cx] 32)) (by omega) (by omega) (by omega) (ha.below hB1) ⟨[], Rd.nil _ _, rfl, fun k h => absurd h (by simp)⟩ (fun ys hy => absurd hy (by simp)) (rdM3_one (Blk.newAt3 (by simp)) (hM.below hB1) hMc) (all_one (okM3_tab hk3 hM.len hMT))
 rw [codeT_mk hdb (by omega) (fun ys hy => absurd hy (by simp)) (all_one (by rw [hsl]; exact ⟨hM.len, hMT⟩))] at hck
 have hcall := fun w' (h : Below w.heap.size w w') => disDerivation_ok p hp hp2 k (by omega) A c st X cx M w' hc (ha.below h) hst (hM.below h) hMT hdz
 have HCALL := Lib.hid hcall
 obtain ⟨q0, q1⟩ := k1.two
 clear hdb HP hst hcall
 go_enter Tryz.func29, Tryz.ntmps29
 go_wp2_with fail
 refine hck.mono ?_
 rintro e w2 ⟨rfl, hb2⟩
 have hB2 := hB1.trans (hb2.mono hB1.size)
 have k2 := k1.below hb2 k1.lt
 clear q0 q1 hck k1 hb2
 obtain ⟨q0, q1⟩ := k2.two
 have hB3 := hB2
 go_wp2_with fail
 refine (HCALL.out _ hB3).mono ?_
 rintro e w4 ⟨rfl, hb4⟩
 go_wp2
 go_ret2
 exact ⟨rfl, hB3.trans (hb4.mono hB3.size)⟩
set_option maxHeartbeats 1600000 in
set_option maxRecDepth 8000 in
/-- IsSkew, of a skew matrix. -/
theorem IsSkew_ok (p : Int) (A : Option Addr) (k c : Nat) (st : List Int) (X : Option Addr) (cx : Nat) (M : List (List Int)) (w : World) (hdb : isDb p st = true) (hk3 : k ≤ 3) (hc : k ≤ c) (ha : Rd w A k (ints st)) (hM : RdII w X (pw k) M) (hMT : Tab p (pw k) M) (hMc : pw k ≤ cx) (hsk : ∀ i q, i < pw k → q < pw k → (ent M i q * (dgL p k st).getD i 0 + ent M q i * (dgL p k st).getD q 0) % p = 0) :
    Calls Tryz.prog 33 #[.agg #[.int .i64 p, .slice A k c], .slice X (pw k) cx] w fun e w' => e = .returned (.tuple #[.bool true, .int .i64 0]) ∧ Below w.heap.size w w' := by
 obtain ⟨HP, -, hst⟩ := isDb_facts hdb
 obtain ⟨hp3, hp2⟩ := isP_ge HP
 have hp : 2 ≤ p := by omega
 have hpk : pw k ≤ 8 := pw_le hk3
 have hpos := pw_pos k
 have hsl : st.length = k := ha.lenI
 have hB1 : Below w.heap.size w ((w.alloc (.cells #[.int .i64 p, .slice A k c] 26)).alloc (.cells #[.slice X (pw k) cx] 32)) := (zG.alloc (Nat.le_refl _) _).alloc (by simp; try omega) _
 have k1 := (Blk.new w 26 #[.int .i64 p, .slice A k c]).alloc (.cells #[.slice X (pw k) cx] 32)
 have hck := checkThree_any p A none (some ⟨w.heap.size + 1, 0, none⟩) k c 0 0 1 1 st [] [M] ((w.alloc (.cells #[.int .i64 p, .slice A k c] 26)).alloc (.cells #[.slice X (pw k) cx] 32)) (by omega) (by omega) (by omega) (ha.below hB1) ⟨[], Rd.nil _ _, rfl, fun k h => absurd h (by simp)⟩ (fun ys hy => absurd hy (by simp)) (rdM3_one (Blk.newAt3 (by simp)) (hM.below hB1) hMc) (all_one (okM3_tab hk3 hM.len hMT))
 rw [codeT_mk hdb (by omega) (fun ys hy => absurd hy (by simp)) (all_one (by rw [hsl]; exact ⟨hM.len, hMT⟩))] at hck
 have hcall := fun w' (h : Below w.heap.size w w') => disSkew_ok p hp hp2 k (by omega) A c st X cx M w' hc (ha.below h) hst (hM.below h) hMT hsk
 have HCALL := Lib.hid hcall
 obtain ⟨q0, q1⟩ := k1.two
 clear hdb HP hst hcall
 go_enter Tryz.func33, Tryz.ntmps33
 go_wp2_with fail
 refine hck.mono ?_
 rintro e w2 ⟨rfl, hb2⟩
 have hB2 := hB1.trans (hb2.mono hB1.size)
 have k2 := k1.below hb2 k1.lt
 clear q0 q1 hck k1 hb2
 obtain ⟨q0, q1⟩ := k2.two
 have hB3 := hB2
 go_wp2_with fail
 refine (HCALL.out _ hB3).mono ?_
 rintro e w4 ⟨rfl, hb4⟩
 go_wp2
 go_ret2
 exact ⟨rfl, hB3.trans (hb4.mono hB3.size)⟩
set_option maxHeartbeats 1600000 in
set_option maxRecDepth 8000 in
/-- MatrixImage, where the arguments are well-formed. -/
theorem MatrixImage_ok (p : Int) (A : Option Addr) (k c : Nat) (st : List Int) (X : Option Addr) (cx : Nat) (M : List (List Int)) (Y : Option Addr) (cy : Nat) (ys : List Int) (w : World) (hdb : isDb p st = true) (hk3 : k ≤ 3) (hc : k ≤ c) (ha : Rd w A k (ints st)) (hM : RdII w X (pw k) M) (hMT : Tab p (pw k) M) (hMc : pw k ≤ cx) (hy : Rd w Y (pw k) (ints ys)) (hyn : NumsL p ys) (hyc : pw k ≤ cy) :
    Calls Tryz.prog 31 #[.agg #[.int .i64 p, .slice A k c], .slice X (pw k) cx, .slice Y (pw k) cy] w fun e w' => ∃ A' c', e = .returned (.tuple #[.slice A' (pw k) c', .int .i64 0]) ∧ MkI w w' A' (pw k) c' (applyL p M ys) := by
 obtain ⟨HP, -, hst⟩ := isDb_facts hdb
 obtain ⟨hp3, hp2⟩ := isP_ge HP
 have hp : 2 ≤ p := by omega
 have hpk : pw k ≤ 8 := pw_le hk3
 have hpos := pw_pos k
 have hsl : st.length = k := ha.lenI
 have hB1 : Below w.heap.size w (((w.alloc (.cells #[.int .i64 p, .slice A k c] 26)).alloc (.cells #[.slice Y (pw k) cy] 24)).alloc (.cells #[.slice X (pw k) cx] 32)) := ((zG.alloc (Nat.le_refl _) _).alloc (by simp; try omega) _).alloc (by simp; try omega) _
 have k1 := ((Blk.new w 26 #[.int .i64 p, .slice A k c]).alloc (.cells #[.slice Y (pw k) cy] 24)).alloc (.cells #[.slice X (pw k) cx] 32)
 have hck := checkThree_any p A (some ⟨w.heap.size + 1, 0, none⟩) (some ⟨w.heap.size + 2, 0, none⟩) k c 1 1 1 1 st [ys] [M] (((w.alloc (.cells #[.int .i64 p, .slice A k c] 26)).alloc (.cells #[.slice Y (pw k) cy] 24)).alloc (.cells #[.slice X (pw k) cx] 32)) (by omega) (by omega) (by omega) (ha.below hB1) (rdII_one' ((Blk.newAt3 (w := (w.alloc (.cells #[.int .i64 p, .slice A k c] 26))) (g := w.heap.size + 1) (t := 24) (cs := #[.slice Y (pw k) cy]) (by simp)).alloc (.cells #[.slice X (pw k) cx] 32)) (hy.below hB1) hyc) (all_one (by rw [hy.lenI]; omega)) (rdM3_one (Blk.newAt3 (by simp)) (hM.below hB1) hMc) (all_one (okM3_tab hk3 hM.len hMT))
 rw [codeT_mk hdb (by omega) (all_one (by rw [hsl]; exact ⟨hy.lenI, hyn⟩)) (all_one (by rw [hsl]; exact ⟨hM.len, hMT⟩))] at hck
 have hcall := fun w' (h : Below w.heap.size w w') => apply_any p X (pw k) cx M Y (pw k) cy ys w' hp hp2 (by omega) (by omega) (hM.below h) hMT (hy.below h) hyn
 have HCALL := Lib.hid hcall
 obtain ⟨q0, q1⟩ := k1.two
 clear hdb HP hst hcall
 go_enter Tryz.func31, Tryz.ntmps31
 go_wp2_with fail
 refine hck.mono ?_
 rintro e w2 ⟨rfl, hb2⟩
 have hB2 := hB1.trans (hb2.mono hB1.size)
 have k2 := k1.below hb2 k1.lt
 clear q0 q1 hck k1 hb2
 obtain ⟨q0, q1⟩ := k2.two
 go_wp2_with fail
 refine (dfield_any p A k c _).mono ?_
 rintro e w3 ⟨rfl, hb3⟩
 have hB3 := hB2.trans (hb3.mono hB2.size)
 clear q0 q1
 go_wp2_with fail
 refine (HCALL.out _ hB3).mono ?_
 rintro e w4 ⟨A4, c4, rfl, hM4⟩
 go_wp2
 go_ret2
 exact ⟨_, _, rfl, hM4.after hB3⟩
set_option maxHeartbeats 1600000 in
set_option maxRecDepth 8000 in
/-- DoubleUnit, of a doubling. -/
theorem DoubleUnit_ok (p : Int) (A : Option Addr) (k c : Nat) (st : List Int) (w : World) (hdb : isDb p st = true) (hk3 : k ≤ 3) (hc : k ≤ c) (ha : Rd w A k (ints st)) :
    Calls Tryz.prog 30 #[.agg #[.int .i64 p, .slice A k c]] w fun e w' => ∃ A' c', e = .returned (.tuple #[.slice A' (pw k) c', .int .i64 0]) ∧ MkI w w' A' (pw k) c' (unitRow (pw k) 0) := by
 obtain ⟨HP, -, hst⟩ := isDb_facts hdb
 obtain ⟨hp3, hp2⟩ := isP_ge HP
 have hp : 2 ≤ p := by omega
 have hpk : pw k ≤ 8 := pw_le hk3
 have hpos := pw_pos k
 have hsl : st.length = k := ha.lenI
 have hB0 : Below w.heap.size w (w.alloc (.cells #[.int .i64 p, .slice A k c] 26)) := zG.alloc (Nat.le_refl _) _
 have k0 : Blk (w.alloc (.cells #[.int .i64 p, .slice A k c] 26)) w.heap.size 26 #[.int .i64 p, .slice A k c] := Blk.new _ _ _
 have his := IsDoubling_any p A k c st (w.alloc (.cells #[.int .i64 p, .slice A k c] 26)) (by omega) (ha.below hB0)
 rw [hdb] at his
 obtain ⟨q0, q1⟩ := k0.two
 clear hdb HP hst
 go_enter Tryz.func30, Tryz.ntmps30
 go_wp2_with fail
 refine his.mono ?_
 rintro e w2 ⟨rfl, hb2⟩
 have hB2 := hB0.trans (hb2.mono hB0.size)
 have k2 := k0.below hb2 k0.lt
 clear q0 q1 his k0 hb2
 obtain ⟨q0, q1⟩ := k2.two
 have hel := delement_any p A k c 0 w2 (by omega) (by omega)
 rw [Int.ofNat_zero] at hel
 go_wp2_with fail
 refine hel.mono ?_
 rintro e w3 ⟨A3, c3, rfl, hM3⟩
 go_wp2
 go_ret2
 exact ⟨_, _, rfl, hM3.after hB2⟩
theorem likeInts_same (A B : Option Addr) (n c d : Nat) (xs : List Int) (w : World) (hn : n ≤ 1099511627776) (ha : Rd w A n (ints xs)) (hb : Rd w B n (ints xs)) :
    Calls Tryz.prog 71 #[.slice A n c, .slice B n d] w fun e w' => e = .returned (.bool true) ∧ Below w.heap.size w w' :=
 (likeInts_any A B n n c d xs xs w hn hn ha hb).mono (by rintro e w' ⟨rfl, j, rfl⟩; exact ⟨by simp, below_drewN zG j⟩)
set_option maxHeartbeats 1600000 in
set_option maxRecDepth 8000 in
/-- Equal lists of lists. -/
theorem same9_ok (A B : Option Addr) (n ca cb : Nat) (M : List (List Int)) (w : World) (hn : n ≤ 65536) (hM : ∀ x ∈ M, x.length ≤ 65536) (ha : RdII w A n M) (hb : RdII w B n M) :
    Calls Tryz.prog 22 #[.slice A n ca, .slice B n cb] w fun e w' => e = .returned (.bool true) ∧ Below w.heap.size w w' := by
 go_enter Tryz.func22, Tryz.ntmps22
 go_wp2
 go_loopw [5] (fun i wr => ∃ j : Nat, j ≤ n ∧ i = .int .i64 j ∧ Hid (Below w.heap.size w wr)) (fun i _ => n - (intOf i).toNat)
 case atStart => exact ⟨0, by omega, rfl, Lib.hid zG⟩
 case round =>
  obtain ⟨j, hj, rfl, HB⟩ := hrel
  by_cases hlt : j < n
  · obtain ⟨g1, o1, rfl, hx1, A1, cj, c1, hr1, -⟩ := (ha.below HB.out).at_ hlt
    obtain ⟨g2, o2, rfl, hx2, A2, dj, c2, hr2, -⟩ := (hb.below HB.out).at_ hlt
    have hlj := hM _ (List.getElem_mem hx1)
    obtain ⟨row, hrow⟩ : ∃ z, z = M[j] := ⟨_, rfl⟩
    rw [← hrow] at c1 hr1 c2 hr2 hlj
    obtain ⟨nj, hnj⟩ : ∃ z, z = row.length := ⟨_, rfl⟩
    rw [← hnj] at c1 hr1 c2 hr2 hlj
    have HLI := Lib.hid (fun w' (h : Below wr.heap.size wr w') => likeInts_same A1 A2 nj cj dj row w' (by omega) (hr1.below h) (hr2.below h))
    clear hr1 hr2 hrow hnj hlj
    go_wp2
    refine wp_obs 10 [[],[],[0,1],[0,1,2],[],[],[4,5],[4,5,6],[0,1,2,3,4,5,6,7],[0,1,2,3,4,5,6,7,8]] [VIs (.slice (some ⟨g1, o1, none⟩) n ca), VIs (.int .i64 (j)), VIs (.pointer (some ⟨g1, o1 + j, none⟩)), VIs (.slice A1 nj cj), VIs (.slice (some ⟨g2, o2, none⟩) n cb), VIs (.int .i64 (j)), VIs (.pointer (some ⟨g2, o2 + j, none⟩)), VIs (.slice A2 nj dj), VIs (.bool true), VIs (.bool false)] (fun w' => w'.cell? ⟨g1, o1 + j, none⟩ = some (.slice A1 nj cj) ∧ w'.cell? ⟨g2, o2 + j, none⟩ = some (.slice A2 nj dj) ∧ Below wr.heap.size wr w') (by kernel_rfl) (by kernel_rfl) (fun _ _ h hb => ⟨(hb.cell (World.block_lt_of_cell? _ _ h.1)).trans h.1, (hb.cell (World.block_lt_of_cell? _ _ h.2.1)).trans h.2.1, h.2.2.trans (hb.mono h.2.2.size)⟩) (⟨c1, c2, zG.drew⟩) (fun x => ?_)
    refine zS (fun w' hS hV K hK => ?_) ?_
    · have q1 := hS.1; have q2 := hS.2.1; go_simp; exact zO hK
    refine zS (fun w' hS hV K hK => ?_) ?_
    · have q1 := hS.1; have q2 := hS.2.1; go_simp; exact zO hK
    refine zS (fun w' hS hV K hK => ?_) ?_
    · have e0 := zQ hV 0; have e1 := zQ hV 1; have q1 := hS.1; have q2 := hS.2.1; go_simp; exact zO hK
    refine zS (fun w' hS hV K hK => ?_) ?_
    · have e2 := zQ hV 2; have q1 := hS.1; have q2 := hS.2.1; go_simp; exact zO hK
    refine zS (fun w' hS hV K hK => ?_) ?_
    · have q1 := hS.1; have q2 := hS.2.1; go_simp; exact zO hK
    refine zS (fun w' hS hV K hK => ?_) ?_
    · have q1 := hS.1; have q2 := hS.2.1; go_simp; exact zO hK
    refine zS (fun w' hS hV K hK => ?_) ?_
    · have e4 := zQ hV 4; have e5 := zQ hV 5; have q1 := hS.1; have q2 := hS.2.1; go_simp; exact zO hK
    refine zS (fun w' hS hV K hK => ?_) ?_
    · have e6 := zQ hV 6; have q1 := hS.1; have q2 := hS.2.1; go_simp; exact zO hK
    refine zS (fun w' hS hV K hK => ?_) ?_
    · have e3 := zQ hV 3; have e7 := zQ hV 7; have q1 := hS.1; have q2 := hS.2.1; go_simp; refine (HLI.out w' hS.2.2).mono ?_; rintro e v1 ⟨rfl, hb9⟩; exact hK.out _ _ _ rfl rfl rfl hb9
    refine zS (fun w' hS hV K hK => ?_) ?_
    · have e8 := zQ hV 8; have q1 := hS.1; have q2 := hS.2.1; go_simp; exact zO hK
    refine fun w' hS hV => ?_
    have e0 := zT hV 0
    have e1 := zT hV 1
    have e2 := zT hV 2
    have e3 := zT hV 3
    have e4 := zT hV 4
    have e5 := zT hV 5
    have e6 := zT hV 6
    have e7 := zT hV 7
    have e8 := zT hV 8
    have e9 := zT hV 9
    simp only [e0, e1, e2, e3, e4, e5, e6, e7, e8, e9]
    clear e0 e1 e2 e3 e4 e5 e6 e7 e8 e9
    refine wpAny_done (by kernel_rfl) ?_ _
    obtain ⟨-, -, s2⟩ := hS
    have HB2 := Lib.hid (HB.out.trans (s2.mono HB.out.size))
    clear hV s2 c1 c2
    go_wp2
    go_roundw
    case rel => exact ⟨j + 1, by omega, by go_num, HB2⟩
    case measure => simp [intOf]; omega
  · go_wp2
    go_ret
    exact ⟨rfl, HB.out⟩
set_option maxHeartbeats 800000 in
set_option maxRecDepth 8000 in
/-- A list of zeros. -/
theorem zero9_ok (A : Option Addr) (n c : Nat) (xs : List Int) (w : World) (hn : n ≤ 65536) (ha : Rd w A n (ints xs)) (hz : ∀ i, i < n → xs.getD i 0 = 0) :
    Calls Tryz.prog 32 #[.slice A n c] w fun e w' => e = .returned (.bool true) ∧ w = w' := by
 have HZ := Lib.hid hz
 clear hz
 go_enter Tryz.func32, Tryz.ntmps32
 go_wp2
 go_loop [3] (fun i => ∃ j : Nat, j ≤ n ∧ i = .int .i64 j) (fun i => n - (intOf i).toNat)
 case atStart => exact ⟨0, by omega, rfl⟩
 case round =>
  obtain ⟨j, hj, rfl⟩ := hrel
  by_cases hlt : j < n
  · obtain ⟨g, o, rfl, hx, hcx⟩ := ha.int hlt
    rw [show xs[j] = 0 by have := HZ.out j hlt; rwa [getD_of_lt 0 hx] at this] at hcx
    clear ha
    go_wp2
    go_round
    case rel => exact ⟨j + 1, by omega, by go_num⟩
    case measure => simp [intOf]; omega
  · go_wp2
    go_ret
    exact ⟨rfl, rfl⟩
end Go.Proofs.YtaiegpggccdgoaaGreat
namespace Go.Proofs.YtaiegpggccdgoaaGreat
/-- A vector of the basis. -/
def uZ (i : Nat) (j : Nat) : Int := if j = i then 1 else 0
theorem gV_unitRow {n i : Nat} (hi : i < n) : ∀ j, gV (unitRow n i) j = uZ i j := fun j => by
 rw [gV_unit hi]; unfold uZ
 by_cases h : i = j
 · rw [if_pos h, if_pos h.symm]
 · rw [if_neg h, if_neg (Ne.symm h)]
theorem dm_right {st : List Int} {k q r : Nat} (x : Nat → Int) (hq : q < pw k) (hr : r < pw k) : dmulZ st k x (uZ q) r = x (r ^^^ q) * cD st k (r ^^^ q) q := by
 unfold dmulZ
 rw [sumTo_one (r ^^^ q) (xor_pw hr hq) (fun i hi hne => ?_)]
 · rw [show (r ^^^ q) ^^^ r = q by rw [Nat.xor_comm r q, Nat.xor_assoc, Nat.xor_self, Nat.xor_zero]]
   unfold uZ; rw [if_pos rfl, Int.mul_one]
 · unfold uZ
   rw [if_neg (fun e => hne (by rw [← e, Nat.xor_comm i r, ← Nat.xor_assoc, Nat.xor_self, Nat.zero_xor])), Int.mul_zero, Int.zero_mul]
theorem dm_left {st : List Int} {k i r : Nat} (y : Nat → Int) (hi : i < pw k) : dmulZ st k (uZ i) y r = y (i ^^^ r) * cD st k i (i ^^^ r) := by
 unfold dmulZ
 rw [sumTo_one i hi (fun j hj hne => by unfold uZ; rw [if_neg hne, Int.zero_mul, Int.zero_mul])]
 unfold uZ; rw [if_pos rfl, Int.one_mul]
/-- A matrix is a derivation, modulo p, on the basis. -/
def DerM (p : Int) (st : List Int) (k : Nat) (m : Nat → Nat → Int) : Prop := ∀ i q r, i < pw k → q < pw k → r < pw k → p ∣ cD st k i q * m r (i ^^^ q) + -1 * (cD st k (r ^^^ q) q * m (r ^^^ q) i) + -1 * (cD st k i (r ^^^ i) * m (r ^^^ i) q)
theorem DerM.of_eq {p : Int} {st : List Int} {k : Nat} {x : List Int} (h : DerEq p st k fun q => x.getD q 0) : DerM p st k (fun a b => x.getD (a * pw k + b) 0) := fun i q r hi hq hr => h i q r hi hq hr
theorem DerM.congr {p : Int} {st : List Int} {k : Nat} {m m' : Nat → Nat → Int} (h : DerM p st k m) (e : ∀ a b, a < pw k → b < pw k → m a b % p = m' a b % p) : DerM p st k m' := fun i q r hi hq hr => by
 refine Int.dvd_of_emod_eq_zero (Eq.trans ?_ (Int.emod_eq_zero_of_dvd (h i q r hi hq hr)))
 refine cg_add (cg_add (mul_md _ (e _ _ hr (xor_pw hi hq)).symm) (mul_md _ (mul_md _ (e _ _ (xor_pw hr hq) hi).symm))) (mul_md _ (mul_md _ (e _ _ (xor_pw hr hi) hq).symm))
/-- The program's test. -/
theorem DerM.gap {p : Int} (hp : 2 ≤ p) {k : Nat} {st : List Int} {M : List (List Int)} (hl : M.length = pw k) (hT : Tab p (pw k) M) (h : DerM p st k (ent M)) {i q : Nat} (hi : i < pw k) (hq : q < pw k) : zeroL (dgapL p k st M i q) = true := by
 have hlen : (dgapL p k st M i q).length = pw k := by unfold dgapL; rw [plusL_len, plusL_len, dblL_len]
 have hco : ∀ r, r < pw k → (dgapL p k st M i q).getD r 0 = 0 := fun r hr => by
  unfold dgapL
  have hcl : ∀ a, (dcolL M a).length = pw k := fun a => (dcolL_len M a).trans hl
  have hcg : ∀ a b, b < pw k → gV (dcolL M a) b = ent M b a := fun a b hb => by unfold gV dcolL; rw [tab_getD (by omega)]
  have e1 : gV (dblL p k st (dcolL M i) (unitRow (pw k) q)) r % p = (cD st k (r ^^^ q) q * ent M (r ^^^ q) i) % p := by
   rw [dblL_md k st (hcl i) (unitRow_len _ _) hr, dmulZ_mod (x' := fun b => ent M b i) (y' := uZ q) (fun b hb => by rw [hcg i b hb]) (fun b _ => by rw [gV_unitRow hq]) hr, dm_right _ hq hr, Int.mul_comm]
  have e2 : gV (dblL p k st (unitRow (pw k) i) (dcolL M q)) r % p = (cD st k i (r ^^^ i) * ent M (r ^^^ i) q) % p := by
   rw [dblL_md k st (unitRow_len _ _) (hcl q) hr, dmulZ_mod (x' := uZ i) (y' := fun b => ent M b q) (fun b _ => by rw [gV_unitRow hi]) (fun b hb => by rw [hcg q b hb]) hr, dm_left _ hi, Nat.xor_comm i r, Int.mul_comm]
  have e3 : (applyL p M (dblL p k st (unitRow (pw k) i) (unitRow (pw k) q))).getD r 0 % p = (cD st k i q * ent M r (i ^^^ q)) % p := by
   unfold applyL
   rw [tab_getD (by omega)]
   unfold dotL
   rw [cg_self, (hT.row (show r < M.length by omega)).1]
   have : (sumTo (pw k) fun j => (M.getD r []).getD j 0 * (dblL p k st (unitRow (pw k) i) (unitRow (pw k) q)).getD j 0) % p = (sumTo (pw k) fun j => if j = i ^^^ q then cD st k i q * ent M r (i ^^^ q) else 0) % p := by
    refine sumTo_mod p fun j hj => ?_
    have ej : (dblL p k st (unitRow (pw k) i) (unitRow (pw k) q)).getD j 0 % p = (uZ i (j ^^^ q) * cD st k (j ^^^ q) q) % p := by
     have := dblL_md (p := p) k st (unitRow_len (pw k) i) (unitRow_len (pw k) q) hj
     unfold gV at this
     rw [this, dmulZ_mod (x' := uZ i) (y' := uZ q) (fun b _ => by rw [← gV_unitRow hi]; rfl) (fun b _ => by rw [← gV_unitRow hq]; rfl) hj, dm_right _ hq hj]
    rw [mul_md _ ej]
    by_cases h0 : j = i ^^^ q
    · subst h0
      rw [if_pos rfl, show (i ^^^ q) ^^^ q = i by rw [Nat.xor_assoc, Nat.xor_self, Nat.xor_zero]]
      unfold uZ ent
      rw [if_pos rfl, Int.one_mul, Int.mul_comm]
    · rw [if_neg h0]
      unfold uZ
      rw [if_neg (fun e => h0 (by rw [← e, Nat.xor_assoc, Nat.xor_self, Nat.xor_zero])), Int.zero_mul, Int.mul_zero]
   rw [this, sumTo_one (i ^^^ q) (xor_pw hi hq) (fun j _ hj => if_neg hj), if_pos rfl]
  rw [plusL_getD _ _ (by rw [plusL_len, dblL_len]; exact hr), plusL_getD _ _ (by rw [dblL_len]; exact hr)]
  have hz := Int.emod_eq_zero_of_dvd (h i q r hi hq hr)
  refine Eq.trans ?_ (show (-1 * (cD st k i q * ent M r (i ^^^ q) + -1 * (cD st k (r ^^^ q) q * ent M (r ^^^ q) i) + -1 * (cD st k i (r ^^^ i) * ent M (r ^^^ i) q))) % p = 0 by rw [Int.mul_emod, hz, Int.mul_zero]; rfl)
  refine (cg_add (cg_self p _) rfl).trans ?_
  refine (cg_add (cg_add (show _ % p = _ from e1) (mul_md 1 (show _ % p = _ from e2))) (mul_md (-1) e3)).trans ?_
  congr 1; omega
 unfold zeroL
 rw [beq_iff_eq]
 exact leadL_eq _ _ (fun j hj => hco j (by omega)) (.inl rfl)
/-- The inner derivation by coordinates. -/
theorem inn_co {p : Int} {k : Nat} (st : List Int) {x y z : List Int} (hx : x.length = pw k) (hy : y.length = pw k) (hz : z.length = pw k) {r : Nat} (hr : r < pw k) : gV (innL p k st x y z) r % p = derZ st k (gV x) (gV y) (gV z) r % p := by
 have hc : ∀ a b : List Int, a.length = pw k → b.length = pw k → ∀ s, s < pw k → gV (cmtL p k st a b) s % p = cmtZ st k (gV a) (gV b) s % p := fun a b ha hb s hs => by
  unfold cmtL cmtZ
  show (plusL p _ _ (-1)).getD s 0 % p = _
  rw [plusL_getD _ _ (by rw [dblL_len]; exact hs), cg_self]
  exact cg_add (dblL_md k st ha hb hs) (mul_md _ (dblL_md k st hb ha hs))
 have ha : gV (assL p k st x y z) r % p = assZ st k (gV x) (gV y) (gV z) r % p := by
  unfold assL assZ
  show (plusL p _ _ (-1)).getD r 0 % p = _
  rw [plusL_getD _ _ (by rw [dblL_len]; exact hr), cg_self]
  refine cg_add ?_ (mul_md _ ?_)
  · exact (dblL_md k st (dblL_len _ _ _ _ _) hz hr).trans (dmulZ_mod (fun i hi => dblL_md k st hx hy hi) (fun _ _ => rfl) hr)
  · exact (dblL_md k st hx (dblL_len _ _ _ _ _) hr).trans (dmulZ_mod (fun _ _ => rfl) (fun i hi => dblL_md k st hy hz hi) hr)
 unfold innL derZ
 show (plusL p _ _ (-3)).getD r 0 % p = _
 rw [plusL_getD _ _ (by rw [cmtL_len]; exact hr), cg_self]
 refine cg_add ((hc _ _ (cmtL_len _ _ _ _ _) hz r hr).trans ?_) (mul_md _ ha)
 unfold cmtZ
 exact cg_add (dmulZ_mod (fun i hi => hc x y hx hy i hi) (fun _ _ => rfl) hr) (mul_md _ (dmulZ_mod (fun _ _ => rfl) (fun i hi => hc x y hx hy i hi) hr))
theorem innM_ent {p : Int} (hp : 0 < p) {k : Nat} (st : List Int) {x y : List Int} (hx : x.length = pw k) (hy : y.length = pw k) {r i : Nat} (hr : r < pw k) (hi : i < pw k) : ent (innM p k st x y) r i % p = derZ st k (gV x) (gV y) (uZ i) r % p := by
 have hT : Tab p (pw k) (tab (pw k) fun i => innL p k st x y (unitRow (pw k) i)) := Tab.tab fun i _ => ⟨innL_len _ _ _ _ _ _, innL_nums hp _ _ _ _ _⟩
 have e : ent (innM p k st x y) r i = gV (innL p k st x y (unitRow (pw k) i)) r := by
  unfold innM
  have := transL_row hT (by rw [tab_len]; exact pw_pos k) hr
  unfold ent at this ⊢
  rw [this, tab_len, tab_getD hi, tab_getD hi]; rfl
 rw [e, inn_co st hx hy (unitRow_len _ _) hr, derZ_congr (fun j _ => gV_unitRow hi j) hr]
theorem derZ_uZ (st : List Int) (k : Nat) (x y : Nat → Int) (c : Int) (i r : Nat) : derZ st k x y (fun j => c * uZ i j) r = c * derZ st k x y (uZ i) r := by
 have := derZ_lin st k x y (uZ i) (fun _ => 0) c 0 r
 rw [show (0 : Int) * derZ st k x y (fun _ => 0) r = 0 from Int.zero_mul _, Int.add_zero] at this
 rw [← this]
 exact congrArg (fun f => derZ st k x y f r) (funext fun j => by simp)
theorem der_basis {k : Nat} (hk : k ≤ 3) (st : List Int) (x y : Nat → Int) {i q r : Nat} (hi : i < pw k) (hq : q < pw k) (hr : r < pw k) : cD st k i q * derZ st k x y (uZ (i ^^^ q)) r = derZ st k x y (uZ i) (r ^^^ q) * cD st k (r ^^^ q) q + derZ st k x y (uZ q) (i ^^^ r) * cD st k i (i ^^^ r) := by
 have h := derZ_leib hk st x y (uZ i) (uZ q) hr
 rw [dm_right _ hq hr, dm_left _ hi, derZ_congr (z' := fun j => cD st k i q * uZ (i ^^^ q) j) (fun j hj => by
  rw [dm_right _ hq hj]
  unfold uZ
  by_cases h0 : j = i ^^^ q
  · subst h0
    rw [show (i ^^^ q) ^^^ q = i by rw [Nat.xor_assoc, Nat.xor_self, Nat.xor_zero], if_pos rfl, if_pos rfl, Int.one_mul, Int.mul_one]
  · rw [if_neg (fun e => h0 (by rw [← e, Nat.xor_assoc, Nat.xor_self, Nat.xor_zero])), if_neg h0, Int.zero_mul, Int.mul_zero]) hr, derZ_uZ] at h
 exact h
theorem innM_der {p : Int} (hp : 0 < p) {k : Nat} (hk : k ≤ 3) (st : List Int) {x y : List Int} (hx : x.length = pw k) (hy : y.length = pw k) : DerM p st k (ent (innM p k st x y)) := by
 refine DerM.congr (m := fun r i => derZ st k (gV x) (gV y) (uZ i) r) (fun i q r hi hq hr => ?_) (fun a b ha hb => (innM_ent hp st hx hy ha hb).symm)
 have h := der_basis hk st (gV x) (gV y) hi hq hr
 refine ⟨0, ?_⟩
 show cD st k i q * derZ st k (gV x) (gV y) (uZ (i ^^^ q)) r + -1 * (cD st k (r ^^^ q) q * derZ st k (gV x) (gV y) (uZ i) (r ^^^ q)) + -1 * (cD st k i (r ^^^ i) * derZ st k (gV x) (gV y) (uZ q) (r ^^^ i)) = _
 rw [h, Nat.xor_comm r i, Int.mul_comm (cD st k (r ^^^ q) q), Int.mul_comm (cD st k i (i ^^^ r)), Int.mul_zero]; omega
/-- A derivation on the basis is one. -/
theorem DerM.all {p : Int} {st : List Int} {k : Nat} {m : Nat → Nat → Int} (h : DerM p st k m) : DerP p st k m := fun x y r hr => by
 have L : matZ (pw k) m (dmulZ st k x y) r = sumTo (pw k) fun i => sumTo (pw k) fun q => x i * y q * (cD st k i q * m r (i ^^^ q)) := by
  unfold matZ dmulZ
  rw [sumTo_congr (g := fun s => sumTo (pw k) fun i => m r s * (x i * y (i ^^^ s) * cD st k i (i ^^^ s))) (fun s _ => (sumTo_mul _ _ _).symm), sumTo_comm]
  refine sumTo_congr fun i hi => ?_
  rw [sumTo_xor (fun s => m r s * (x i * y (i ^^^ s) * cD st k i (i ^^^ s))) hi]
  refine sumTo_congr fun q _ => ?_
  rw [show i ^^^ (q ^^^ i) = q by rw [Nat.xor_comm q i, ← Nat.xor_assoc, Nat.xor_self, Nat.zero_xor], Nat.xor_comm q i]
  ac_rfl
 have R1 : dmulZ st k (matZ (pw k) m x) y r = sumTo (pw k) fun i => sumTo (pw k) fun q => x i * y q * (cD st k (r ^^^ q) q * m (r ^^^ q) i) := by
  unfold matZ dmulZ
  rw [sumTo_xor (fun a => (sumTo (pw k) fun j => m a j * x j) * y (a ^^^ r) * cD st k a (a ^^^ r)) hr]
  rw [sumTo_congr (g := fun q => sumTo (pw k) fun i => x i * y q * (cD st k (r ^^^ q) q * m (r ^^^ q) i)) (fun q _ => ?_), sumTo_comm]
  rw [show (q ^^^ r) ^^^ r = q by rw [Nat.xor_assoc, Nat.xor_self, Nat.xor_zero], Nat.xor_comm q r, ← sumTo_mul_right, ← sumTo_mul_right]
  exact sumTo_congr fun i _ => by ac_rfl
 have R2 : dmulZ st k x (matZ (pw k) m y) r = sumTo (pw k) fun i => sumTo (pw k) fun q => x i * y q * (cD st k i (r ^^^ i) * m (r ^^^ i) q) := by
  unfold matZ dmulZ
  refine sumTo_congr fun i _ => ?_
  rw [Nat.xor_comm i r, Int.mul_assoc, Int.mul_comm (sumTo _ _), ← Int.mul_assoc, ← sumTo_mul]
  exact sumTo_congr fun q _ => by ac_rfl
 rw [L, R1, R2, ← sumTo_add]
 refine sumTo_mod p fun i hi => ?_
 rw [← sumTo_add]
 refine sumTo_mod p fun q hq => ?_
 rw [← Int.mul_add]
 refine mul_md _ ?_
 have hz := Int.emod_eq_zero_of_dvd (h i q r hi hq hr)
 have e : cD st k i q * m r (i ^^^ q) = (cD st k i q * m r (i ^^^ q) + -1 * (cD st k (r ^^^ q) q * m (r ^^^ q) i) + -1 * (cD st k i (r ^^^ i) * m (r ^^^ i) q)) + (cD st k (r ^^^ q) q * m (r ^^^ q) i + cD st k i (r ^^^ i) * m (r ^^^ i) q) := by omega
 rw [e, Int.add_emod, hz, Int.zero_add, cg_self]
theorem matZ_mul {N : Nat} (m : Nat → Nat → Int) (c : Int) (x : Nat → Int) (a : Nat) : matZ N m (fun j => c * x j) a = c * matZ N m x a := by
 unfold matZ
 rw [← sumTo_mul]
 exact sumTo_congr fun j _ => Int.mul_left_comm _ _ _
theorem uu_co {st : List Int} {k i q j : Nat} (hq : q < pw k) (hj : j < pw k) : dmulZ st k (uZ i) (uZ q) j = cD st k i q * uZ (i ^^^ q) j := by
 rw [dm_right _ hq hj]
 unfold uZ
 by_cases h0 : j = i ^^^ q
 · subst h0
   rw [show (i ^^^ q) ^^^ q = i by rw [Nat.xor_assoc, Nat.xor_self, Nat.xor_zero], if_pos rfl, if_pos rfl, Int.one_mul, Int.mul_one]
 · rw [if_neg (fun e => h0 (by rw [← e, Nat.xor_assoc, Nat.xor_self, Nat.xor_zero])), if_neg h0, Int.zero_mul, Int.mul_zero]
/-- The bracket of derivations. -/
theorem DerM.bracket {p : Int} {st : List Int} {k : Nat} {m n c : Nat → Nat → Int} (hm : DerM p st k m) (hn : DerM p st k n) (hc : ∀ a b, a < pw k → b < pw k → c a b % p = (matZ (pw k) m (matZ (pw k) n (uZ b)) a - matZ (pw k) n (matZ (pw k) m (uZ b)) a) % p) : DerM p st k c := fun i q r hi hq hr => by
 have hb := hm.all.br hn.all (uZ i) (uZ q) hr
 have co : ∀ (f g : Nat → Nat → Int), matZ (pw k) f (matZ (pw k) g (dmulZ st k (uZ i) (uZ q))) r = cD st k i q * matZ (pw k) f (matZ (pw k) g (uZ (i ^^^ q))) r := fun f g => by
  have e : matZ (pw k) g (dmulZ st k (uZ i) (uZ q)) = fun a => cD st k i q * matZ (pw k) g (uZ (i ^^^ q)) a := funext fun a => by
   rw [← matZ_mul]
   unfold matZ
   exact sumTo_congr fun j hj => by rw [uu_co hq hj]
  rw [e, matZ_mul]
 rw [co, co, dm_right _ hq hr, dm_right _ hq hr, dm_left _ hi, dm_left _ hi] at hb
 have z1 : (cD st k i q * c r (i ^^^ q)) % p = (cD st k i q * (matZ (pw k) m (matZ (pw k) n (uZ (i ^^^ q))) r - matZ (pw k) n (matZ (pw k) m (uZ (i ^^^ q))) r)) % p := mul_md _ (hc _ _ hr (xor_pw hi hq))
 have z2 := mul_md (p := p) (cD st k (r ^^^ q) q) (hc _ _ (xor_pw hr hq) hi)
 have z3 := mul_md (p := p) (cD st k i (r ^^^ i)) (hc _ _ (xor_pw hr hi) hq)
 refine Int.dvd_of_emod_eq_zero ((cg_add (cg_add z1 (mul_md (-1) z2)) (mul_md (-1) z3)).trans ?_)
 rw [Nat.xor_comm i r] at hb
 have hd := Int.emod_eq_emod_iff_emod_sub_eq_zero.1 hb
 refine Eq.trans ?_ hd
 congr 1
 simp only [Int.mul_sub, Int.sub_mul, Int.mul_comm _ (cD st k (r ^^^ q) q), Int.mul_comm _ (cD st k i (r ^^^ i))]
 omega
theorem brMx_ent {p : Int} (hp : 0 < p) {n : Nat} {M N : List (List Int)} (h0 : 0 < n) (hM : Tab p n M) (hN : Tab p n N) (hMl : M.length = n) (hNl : N.length = n) {a b : Nat} (ha : a < n) (hb : b < n) : ent (brMx p M N) a b % p = (matZ n (ent M) (matZ n (ent N) (uZ b)) a - matZ n (ent N) (matZ n (ent M) (uZ b)) a) % p := by
 have key : ∀ {A B : List (List Int)}, Tab p n A → Tab p n B → A.length = n → B.length = n → ent (timesM p A B) a b % p = matZ n (ent A) (matZ n (ent B) (uZ b)) a % p := fun {A B} hA hB hAl hBl => by
  have hcolB : (transL B).getD b [] = tab n fun j => ent B j b := by rw [transL_row hB (by omega) hb, hBl]
  have e : ent (timesM p A B) a b = dotL p ((transL B).getD b []) (A.getD a []) := by
   unfold ent timesM
   rw [tab_getD (by omega)]
   unfold applyL
   rw [tab_getD (by rw [transL_len hB (by omega)]; exact hb)]
  rw [e, hcolB]
  unfold dotL
  rw [tab_len, cg_self]
  unfold matZ
  congr 1
  refine sumTo_congr fun j hj => ?_
  rw [tab_getD hj, sumTo_one b hb (fun i _ hi => by unfold uZ; rw [if_neg hi, Int.mul_zero])]
  unfold uZ
  rw [if_pos rfl, Int.mul_one]
  exact Int.mul_comm _ _
 have hl1 : (timesM p M N).length = n := (timesM_len p M N).trans hMl
 have hrow1 := ((timesM_tab (M := M) hp h0 hN hNl).row (show a < (timesM p M N).length by omega)).1
 have e : ent (brMx p M N) a b = (ent (timesM p M N) a b + -1 * ent (timesM p N M) a b) % p := by
  unfold brMx sumL
  show ((tab _ _).getD a []).getD b 0 = _
  rw [tab_getD (by omega), plusL_getD _ _ (by omega)]; rfl
 rw [e, cg_self, cg_add (key hM hN hMl hNl) (mul_md (-1) (key hN hM hNl hMl))]
 congr 1; omega
theorem brMx_len {p : Int} (M N : List (List Int)) : (brMx p M N).length = M.length := by unfold brMx; rw [sumL_len, timesM_len]
theorem brMx_tab {p : Int} (hp : 0 < p) {n : Nat} {M N : List (List Int)} (h0 : 0 < n) (hN : Tab p n N) (hMl : M.length = n) (hNl : N.length = n) : Tab p n (brMx p M N) := by
 unfold brMx sumL
 refine Tab.tab fun i hi => ⟨?_, plusL_nums hp _ _ _⟩
 rw [plusL_len]
 exact ((timesM_tab (M := M) hp h0 hN hNl).row hi).1
theorem cD_0 (st : List Int) : ∀ (k j : Nat), j < pw k → cD st k 0 j = 1 ∧ cD st k j 0 = 1
 | 0, _, _ => ⟨rfl, rfl⟩
 | k + 1, j, hj => by
  rw [pw_succ] at hj
  have h0 := pw_pos k
  by_cases h : j < pw k
  · rw [cD_ll (by omega) h, cD_ll h (by omega)]
    exact cD_0 st k j h
  · obtain ⟨h1, h2⟩ := cD_0 st k (j - pw k) (by omega)
    rw [cD_lh (by omega) h, cD_hl h (by omega), h2]
    exact ⟨rfl, rfl⟩
/-- A derivation leads the unit to 0. -/
theorem DerM.unit {p : Int} {st : List Int} {k : Nat} {m : Nat → Nat → Int} (h : DerM p st k m) {r : Nat} (hr : r < pw k) : m r 0 % p = 0 := by
 have h0 := pw_pos k
 have := Int.emod_eq_zero_of_dvd (h 0 0 r (by omega) (by omega) hr)
 rw [Nat.xor_zero, Nat.xor_zero, (cD_0 st k 0 (by omega)).1, (cD_0 st k r hr).2, (cD_0 st k r hr).1] at this
 have e : 1 * m r 0 + -1 * (1 * m r 0) + -1 * (1 * m r 0) = -1 * m r 0 := by omega
 rw [e] at this
 have h2 := mul_md (p := p) (-1) (show (-1 * m r 0) % p = (0 : Int) % p by rw [this]; rfl)
 rw [show -1 * (-1 * m r 0) = m r 0 by omega] at h2
 rw [h2]; rfl
theorem der_image {p : Int} (hp : 0 < p) {st : List Int} {k : Nat} {M : List (List Int)} (hl : M.length = pw k) (hT : Tab p (pw k) M) (h : DerM p st k (ent M)) {r : Nat} (hr : r < pw k) : (applyL p M (unitRow (pw k) 0)).getD r 0 = 0 := by
 unfold applyL dotL
 rw [tab_getD (by omega), (hT.row (show r < M.length by omega)).1, sumTo_one 0 (pw_pos k) (fun j _ hj => ?_)]
 · rw [show (unitRow (pw k) 0).getD 0 0 = 1 from (gV_unitRow (pw_pos k) 0).trans (if_pos rfl), Int.mul_one]
   exact h.unit hr
 · rw [show (unitRow (pw k) 0).getD j 0 = 0 from (gV_unitRow (pw_pos k) j).trans (if_neg hj), Int.mul_zero]
theorem dgL_at {p : Int} {k : Nat} (st : List Int) {i : Nat} (hi : i < pw k) : (dgL p k st).getD i 0 % p = (cjS i * cD st k i i) % p := by
 unfold dgL dnormL
 rw [tab_getD hi]
 have h0 := pw_pos k
 have hcl : (conjL p (unitRow (pw k) i)).length = pw k := by rw [conjL_len, unitRow_len]
 have := dblL_md (p := p) k st (unitRow_len (pw k) i) hcl h0
 unfold gV at this
 rw [this, dmulZ_mod (x' := uZ i) (y' := fun j => cjS j * uZ i j) (fun b _ => by rw [← gV_unitRow hi]; rfl) (fun b hb => by rw [conjL_getD (by rw [unitRow_len]; exact hb), ← gV_unitRow hi]; rfl) h0, dm_left _ hi, Nat.xor_zero]
 unfold uZ; rw [if_pos rfl, Int.mul_one]
/-- An inner derivation is skew. -/
theorem innM_skew {p : Int} (hp : 0 < p) {k : Nat} (hk : k ≤ 3) (st : List Int) {x y : List Int} (hx : x.length = pw k) (hy : y.length = pw k) {i q : Nat} (hi : i < pw k) (hq : q < pw k) : (ent (innM p k st x y) i q * (dgL p k st).getD i 0 + ent (innM p k st x y) q i * (dgL p k st).getD q 0) % p = 0 := by
 have h := der_skew hk st (gV x) (gV y) (uZ q) (uZ i)
 rw [nfZ_sum, nfZ_sum, sumTo_one i hi (fun j _ hj => by unfold uZ; rw [if_neg hj, Int.mul_zero]), sumTo_one q hq (fun j _ hj => by unfold uZ; rw [if_neg hj, Int.mul_zero, Int.zero_mul])] at h
 have u1 : ∀ a, uZ a a = 1 := fun a => if_pos rfl
 rw [u1, u1, Int.mul_one, Int.mul_one] at h
 refine (cg_add (cg_mul (innM_ent hp st hx hy hi hq) (dgL_at st hi)) (cg_mul (innM_ent hp st hx hy hq hi) (dgL_at st hq))).trans ?_
 rw [Int.mul_comm (derZ st k (gV x) (gV y) (uZ q) i), Int.mul_comm (derZ st k (gV x) (gV y) (uZ i) q), h]; rfl
end Go.Proofs.YtaiegpggccdgoaaGreat
namespace Go.Proofs.YtaiegpggccdgoaaGreat
open Go.RowKit
theorem getD_step {l : Array Bool} {i k0 : Nat} (h : i < l.size) : (l.getD k0 false || i == k0) = (l.setIfInBounds i true).getD k0 false := by
 by_cases e : i = k0
 · subst e; simp [Array.getD, h]
 · rw [getD_set_ne _ e]
   have : (i == k0) = false := by simpa using e
   rw [this, Bool.or_false]
section
variable {P : Program} {ops : Array Oper} {Q : Exit → Act → World → Prop}
/-- What is to be shown of operation j. -/
def ObJ (P : Program) (ops : Array Oper) (k0 : Nat) (S : Bool → World → Prop) (R C : List (List Nat)) (Rel : Nat → World → World → Prop) (m : Nat) (V : (Nat → Value) → List VP) (x : Nat → Value) (a0 : Act) (j : Nat) : Prop :=
 ∀ b w, (j = k0 → b = false) → S b w → (∀ i ∈ availR R C m j, ((V x).getD i VAny).p (x i) w) →
  wpOp P ops NoWay j (fun a' w' => ∃ v, (∀ d, dstOf ops j = some d → a'.tmps[d]? = some v) ∧ a'.defers = a0.defers ∧ ((V x).getD j VAny).p v w' ∧ StepR C (Rel j) j w w') (putS ops x a0 j) w
theorem tasks_goJ {m : Nat} {Rel : Nat → World → World → Prop} {R C : List (List Nat)} {V : (Nat → Value) → List VP} {k0 : Nat} {S : Bool → World → Prop} {a0 : Act} (hok : tasksOk ops m a0.tmps.size R = true)
    (hdep : ∀ x x' j, (∀ i ∈ R.getD j [], x i = x' i) → (V x).getD j VAny = (V x').getD j VAny) (hweak : ∀ i, i < m → (C.getD i []).isEmpty = false → ∀ k, k < m → k ≠ i → i ∉ R.getD k [] → k ∉ C.getD i [] → ∀ x v w w', ((V x).getD k VAny).p v w → Rel i w w' → ((V x).getD k VAny).p v w') (hSt : ∀ j b w w', S b w → StepR C (Rel j) j w w' → S (b || j == k0) w') (hob : ∀ x j, j < m → ObJ P ops k0 S R C Rel m V x a0 j)
    (hend : ∀ x w' b, S b w' → (∀ i ∈ endR C m, ((V x).getD i VAny).p (x i) w') → wpAny P .any ops Q (ops.size - m) (listedTo ops.size m) (putS ops x a0 m) w') :
    ∀ (c : Nat) (U : List Nat) (listed : Array Bool) (w : World) (x : Nat → Value), U.length = c → U.Nodup → (∀ i, i ∈ U ↔ i < m ∧ listed.getD i false = false) → listed.size = ops.size →
     (∀ i, m ≤ i → i < ops.size → listed.getD i false = false) → (∀ (j : Nat) (o : Oper), ops[j]? = some o → listed.getD j false = true → ∀ e ∈ o.after, Region.binds .any e = true → listed.getD e.on false = true) →
     S (listed.getD k0 false) w → (∀ i, i < m → listed.getD i false = true → (∀ j, j < m → i ∈ C.getD j [] → listed.getD j false = false) → ((V x).getD i VAny).p (x i) w) → wpAny P .any ops Q (ops.size - m + c) listed (putD ops (fun i => listed.getD i false) x a0 m) w := by
 obtain ⟨hmn, hspec, htail⟩ := tasks_spec hok
 have hsel : Region.noSelect ops = true := by unfold tasksOk at hok; simp only [Bool.and_eq_true] at hok; exact hok.1.1
 intro c
 induction c with
 | zero =>
  intro U listed w x hU hnd hmem hsz hun hcl hS hV
  obtain rfl : U = [] := List.eq_nil_of_length_eq_zero hU
  have hall : ∀ i, i < m → listed.getD i false = true := fun i hi => by
   cases h : listed.getD i false
   · exact absurd ((hmem i).2 ⟨hi, h⟩) (by simp)
   · rfl
  have hl : listed = listedTo ops.size m := by
   apply Array.ext
   · simp [listedTo, hsz]
   · intro i h1 h2
     have e : listed.getD i false = listed[i] := by simp [Array.getD, h1]
     by_cases hi : i < m
     · have := hall i hi
       rw [e] at this
       simp [listedTo, this, hi]
     · have := hun i (by omega) (by omega)
       rw [e] at this
       simp [listedTo, this, hi]
  rw [Nat.add_zero, putD_congr (ops := ops) _ (fun _ => true) x x a0 m (fun i hi => ⟨hall i hi, fun _ => rfl⟩), hl]
  exact hend x w _ hS (fun i hi => hV i (endR_spec.1 hi).1 (hall i (endR_spec.1 hi).1) (fun j hj hc => absurd hc ((endR_spec.1 hi).2 j hj)))
 | succ c ih =>
  intro U listed w x hU hnd hmem hsz hun hcl hS hV
  have hne : U ≠ [] := fun e => by rw [e] at hU; simp at hU
  show (_ → _) ∧ _
  refine ⟨fun hr => ?_, fun i hi => ?_⟩
  · exfalso
    obtain ⟨i, hiU, hmin⟩ := min_mem U hne
    obtain ⟨him, hil⟩ := (hmem i).1 hiU
    have hlt : i < ops.size := by omega
    have : i ∈ Region.ready .any ops listed := mem_ready.2 ⟨by simpa [Array.getD, hsz, hlt] using hil, _, Array.getElem?_eq_getElem hlt, fun e he hb => by
     have hlti := (hspec i _ (Array.getElem?_eq_getElem hlt) him).1 e he hb
     cases h : listed.getD e.on false
     · have := hmin e.on ((hmem _).2 ⟨by omega, h⟩); omega
     · rfl⟩
    rw [hr] at this
    cases this
  · obtain ⟨hil, o, ho, hdeps⟩ := mem_ready.1 hi
    have hlt : i < ops.size := (Array.getElem?_eq_some_iff.1 ho).1
    have hil' : listed.getD i false = false := by simpa [Array.getD, hsz, hlt] using hil
    have hreach := listed_reach hok (fun i => listed.getD i false) hcl i o ho hdeps
    have him : i < m := by
     rcases Nat.lt_or_ge i m with h | h
     · exact h
     · exfalso
       obtain ⟨k, hk⟩ := List.exists_mem_of_ne_nil U hne
       obtain ⟨hkm, hkl⟩ := (hmem k).1 hk
       have := hreach k (htail i hlt h k hkm)
       rw [hkl] at this; cases this
    obtain ⟨_, ⟨d, hd, hdsz, hduniq⟩, hlook⟩ := hspec i o ho him
    have hdst : dstOf ops i = some d := by simp [dstOf, ho, hd]
    have hso : ∀ cs b, o.op ≠ .select cs b := fun cs b => Region.noSelect_spec hsel i o cs b ho
    -- the two frames agree on what o looks at
    have hagree : ∀ t ∈ o.looksAt ops, (putD ops (fun i => listed.getD i false) x a0 m).tmps[t]? = (putS ops x a0 i).tmps[t]? := fun t ht => by
     by_cases hex : ∃ k, k < m ∧ dstOf ops k = some t
     · obtain ⟨k, hkm, hkd⟩ := hex
       have hkR := hlook t ht k hkm hkd
       have hki := reach_lt hok i hlt k hkR
       have hkl := hreach k hkR
       have hks : k < ops.size := by omega
       obtain ⟨_, ⟨d', hd', hdsz', hu'⟩, _⟩ := hspec k _ (Array.getElem?_eq_getElem hks) hkm
       have htd : d' = t := by
        have : dstOf ops k = some d' := by simp [dstOf, Array.getElem?_eq_getElem hks, hd']
        rw [hkd] at this; injection this with this; exact this.symm
       rw [putD_at _ _ _ _ k hkd hkl (htd ▸ hdsz') m hkm (fun l hl hlk => htd ▸ hu' l hl hlk)]
       unfold putS
       rw [putD_at _ _ _ _ k hkd rfl (htd ▸ hdsz') i hki (fun l hl hlk => htd ▸ hu' l (by omega) hlk)]
     · rw [putD_other _ _ _ _ m (fun k hk hkd => absurd ⟨k, hk, hkd⟩ hex)]
       unfold putS
       rw [putD_other _ _ _ _ i (fun k hk hkd => absurd ⟨k, by omega, hkd⟩ hex)]
    have hob' := hob x i him (listed.getD k0 false) w (fun e => by rw [← e]; exact hil') hS (fun k hk => by
     obtain ⟨hkR, hkC⟩ := availR_spec.1 hk
     refine hV k (by have := reach_lt hok i hlt k hkR; omega) (hreach k hkR) (fun j hj hc => ?_)
     rcases hkC j hj hc with rfl | hij
     · exact hil'
     · cases hjl : listed.getD j false
       · rfl
       · have hjs : j < ops.size := by omega
         have := listed_reach hok (fun i => listed.getD i false) hcl j _ (Array.getElem?_eq_getElem hjs) (hcl j _ (Array.getElem?_eq_getElem hjs) hjl) i hij
         rw [hil'] at this; cases this)
    have hsz1 := putD_size (ops := ops) (fun _ => true) x a0 i
    -- what comes behind
    have next : ∀ v w', ((V x).getD i VAny).p v w' → StepR C (Rel i) i w w' → wpAny P .any ops Q (ops.size - m + c) (listed.setIfInBounds i true) ((putD ops (fun i => listed.getD i false) x a0 m).put (some d) v) w' := fun v w' hv hb => by
     have hput := putD_put (ops := ops) (fun k => listed.getD k false) (fun k => (listed.setIfInBounds i true).getD k false) x (fun k => if k = i then v else x k) a0 i hil'
      (by simp [hsz, hlt]) (fun k hk => ⟨by rw [getD_set_ne _ (Ne.symm hk)], by simp [hk]⟩) m him
      (fun d' k hk hki hd' => by rw [hdst] at hd'; injection hd' with hd'; exact hd' ▸ hduniq k hk hki)
     simp only [if_true] at hput
     rw [← hdst, hput]
     refine ih (U.erase i) _ _ _ ?_ (hnd.erase _) (fun k => ?_) (by simpa using hsz) (fun k h1 h2 => ?_) (fun j oj hoj hj e he hb' => ?_) (getD_step (k0 := k0) (i := i) (l := listed) (by rw [hsz]; exact hlt) ▸ hSt i _ _ _ hS hb) (fun k hk hkl hcons => ?_)
     · rw [List.length_erase_of_mem ((hmem i).2 ⟨him, hil'⟩), hU]; rfl
     · rw [hnd.mem_erase_iff, hmem]
       by_cases hk : k = i
       · subst hk; simp [hsz, hlt]
       · rw [getD_set_ne _ (Ne.symm hk)]; simp [hk]
     · rw [getD_set_ne _ (by omega)]; exact hun k h1 h2
     · by_cases hji : j = i
       · subst hji
         rw [ho] at hoj; injection hoj with hoj; subst hoj
         exact getD_set_true (hdeps e he hb')
       · rw [getD_set_ne _ (Ne.symm hji)] at hj
         exact getD_set_true (hcl j oj hoj hj e he hb')
     · by_cases hki : k = i
       · subst hki
         rw [hdep _ x k (fun l hl => by have := reach_lt hok k hlt l hl; simp only [show l ≠ k by omega, if_false])]
         simpa using hv
       · rw [getD_set_ne _ (Ne.symm hki)] at hkl
         have hks : k < ops.size := by omega
         have hdk : (V fun l => if l = i then v else x l).getD k VAny = (V x).getD k VAny := hdep _ x k (fun l hl => by
          have hll := listed_reach hok (fun i => listed.getD i false) hcl k _ (Array.getElem?_eq_getElem hks) (hcl k _ (Array.getElem?_eq_getElem hks) hkl) l hl
          have hne : l ≠ i := fun e => by rw [e] at hll; rw [hil'] at hll; cases hll
          simp only [hne, if_false])
         simp only [hki, if_false]
         rw [hdk]
         have hb0 : ∀ j, j < m → k ∈ C.getD j [] → listed.getD j false = false := fun j hj hc => by
          have h1 := hcons j hj hc
          by_cases hji : j = i
          · rw [hji]; exact hil'
          · rwa [getD_set_ne _ (Ne.symm hji)] at h1
         have hkC : k ∉ C.getD i [] := fun hc => by
          have h1 := hcons i him hc
          simp [hsz, hlt] at h1
         have hiR : i ∉ R.getD k [] := fun hik => by
          have := listed_reach hok (fun i => listed.getD i false) hcl k _ (Array.getElem?_eq_getElem hks) (hcl k _ (Array.getElem?_eq_getElem hks) hkl) i hik
          rw [hil'] at this; cases this
         cases he : (C.getD i []).isEmpty
         · replace hb : Rel i w w' := by unfold StepR at hb; rw [he] at hb; exact hb
           exact hweak i him he k hk hki hiR hkC x _ _ _ (hV k hk hkl hb0) hb
         · replace hb : Below w.heap.size w w' := by unfold StepR at hb; rw [he] at hb; exact hb
           exact ((V x).getD k VAny).st _ _ _ (hV k hk hkl hb0) hb
    unfold wpOp at hob' ⊢
    simp only [ho] at hob' ⊢
    rw [wanted_same hagree]
    split
    · rename_i hw
      rw [if_pos hw] at hob'
      rcases hob' with h | ⟨_, h⟩
      case inr => exact absurd h NoWay.lets
      refine .inl (Oper.wp_mono ?_ (wp_move (Q := Q) (d := d) (R := fun v w' => ((V x).getD i VAny).p v w' ∧ StepR C (Rel i) i w w') (exec_same hso hagree) hd (by unfold putS; rw [hsz1.1]; exact hdsz)
       (Oper.wp_mono (fun a' w' ⟨v, h1, h2, h3, h4⟩ => ⟨v, h1 d hdst, by unfold putS; rw [hsz1.2]; exact h2, h3, h4⟩) h)))
      rintro a' w' ⟨v, rfl, hv, hb⟩
      exact next v w' hv hb
    · rename_i hw
      rw [if_neg hw] at hob'
      obtain ⟨v, h1, _, h3, h4⟩ := hob'
      have hvu : v = undef := by
       have := h1 d hdst
       rw [hd] at this
       simp [Act.put, putS, hsz1.1, hdsz] at this
       exact this.symm
      rw [hd]
      exact next undef w (hvu ▸ h3) h4
/-- **A region that draws its order**: each of its first m operations is shown once; what is left behind them goes on. -/
theorem wp_tasksJ {id m : Nat} {Rel : Nat → World → World → Prop} (R C : List (List Nat)) (V : (Nat → Value) → List VP) (k0 : Nat) (S : Bool → World → Prop) {a0 : Act} {w : World} (hm : P.follows .mixedOrders = true) (hok : tasksOk ops m a0.tmps.size R = true)
    (hdep : ∀ x x' j, (∀ i ∈ R.getD j [], x i = x' i) → (V x).getD j VAny = (V x').getD j VAny) (hweak : ∀ i, i < m → (C.getD i []).isEmpty = false → ∀ k, k < m → k ≠ i → i ∉ R.getD k [] → k ∉ C.getD i [] → ∀ x v w w', ((V x).getD k VAny).p v w → Rel i w w' → ((V x).getD k VAny).p v w') (hS0 : S false w.drew) (hSt : ∀ j b w w', S b w → StepR C (Rel j) j w w' → S (b || j == k0) w') (hob : ∀ x j, j < m → ObJ P ops k0 S R C Rel m V x a0 j)
    (hend : ∀ x w' b, S b w' → (∀ i ∈ endR C m, ((V x).getD i VAny).p (x i) w') → wpAny P .any ops Q (ops.size - m) (listedTo ops.size m) (putS ops x a0 m) w') : (Code.region id ops true).wp P Q a0 w := by
 have hmn := (tasks_spec hok).1
 have hf : ∀ i, (Array.replicate ops.size false).getD i false = false := fun i => by simp [Array.getD]
 have h := tasks_goJ (Q := Q) hok hdep hweak hSt hob hend m (List.range m) (Array.replicate ops.size false) w.drew (fun _ => undef) (by simp) List.nodup_range (fun i => by rw [hf]; simp) (by simp) (fun i _ _ => hf i) (fun j o _ hj => by rw [hf] at hj; cases hj) (by rw [hf]; exact hS0)
  (fun i _ hi => by rw [hf] at hi; cases hi)
 refine wp_region_any hm ?_
 rw [show ops.size - m + m = ops.size by omega, putD_congr (ops := ops) _ (fun _ => false) _ (fun _ => undef) a0 m (fun i _ => ⟨hf i, fun _ => rfl⟩)] at h
 have e : ∀ n, putD ops (fun _ => false) (fun _ => undef) a0 n = a0 := fun n => by
  induction n with
  | zero => rfl
  | succ n ih => unfold putD; simpa using ih
 rw [e] at h
 exact h
/-- What is to be shown, operation by operation, in the text's order; the frame goes along. -/
def ObsJ (P : Program) (ops : Array Oper) (Q : Exit → Act → World → Prop) (k0 : Nat) (S : Bool → World → Prop) (R C : List (List Nat)) (Rel : Nat → World → World → Prop) (m : Nat) (V : (Nat → Value) → List VP) (x : Nat → Value) : Nat → Nat → Act → Prop
 | 0, j, a => ∀ w b, S b w → (∀ i ∈ endR C m, ((V x).getD i VAny).p (x i) w) → wpAny P .any ops Q (ops.size - j) (listedTo ops.size j) a w
 | r + 1, j, a => (∀ b w, (j = k0 → b = false) → S b w → (∀ i ∈ availR R C m j, ((V x).getD i VAny).p (x i) w) →
     wpOp P ops NoWay j (fun a' w' => ∃ v, (∀ d, dstOf ops j = some d → a'.tmps[d]? = some v) ∧ a'.defers = a.defers ∧ ((V x).getD j VAny).p v w' ∧ StepR C (Rel j) j w w') a w) ∧
  ObsJ P ops Q k0 S R C Rel m V x r (j + 1) (a.put (dstOf ops j) (x j))
theorem obs_allJ {k0 : Nat} {S : Bool → World → Prop} {R C : List (List Nat)} {Rel : Nat → World → World → Prop} {m : Nat} {V : (Nat → Value) → List VP} {x : Nat → Value} {a0 : Act} : ∀ (r j : Nat), ObsJ P ops Q k0 S R C Rel m V x r j (putS ops x a0 j) →
    (∀ k, j ≤ k → k < j + r → ObJ P ops k0 S R C Rel m V x a0 k) ∧ ∀ w b, S b w → (∀ i ∈ endR C m, ((V x).getD i VAny).p (x i) w) → wpAny P .any ops Q (ops.size - (j + r)) (listedTo ops.size (j + r)) (putS ops x a0 (j + r)) w := by
 intro r
 induction r with
 | zero => intro j h; exact ⟨fun k h1 h2 => by omega, h⟩
 | succ r ih =>
  intro j h
  obtain ⟨h1, h2⟩ := h
  have h2' : ObsJ P ops Q k0 S R C Rel m V x r (j + 1) (putS ops x a0 (j + 1)) := h2
  obtain ⟨h3, h4⟩ := ih (j + 1) h2'
  refine ⟨fun k hk1 hk2 => ?_, by rw [show j + (r + 1) = j + 1 + r by omega]; exact h4⟩
  by_cases hk : k = j
  · subst hk
    intro b w hb0 hS hV
    have h := h1 b w hb0 hS hV
    rw [show (putS ops x a0 k).defers = a0.defers from (putD_size _ _ _ _).2] at h
    exact h
  · exact h3 k (by omega) (by omega)
theorem wp_obsJ {id : Nat} (m : Nat) (Rel : Nat → World → World → Prop) (R C : List (List Nat)) (V : (Nat → Value) → List VP) (k0 : Nat) (S : Bool → World → Prop) {a0 : Act} {w : World} (hm : P.follows .mixedOrders = true) (hok : tasksOk ops m a0.tmps.size R = true)
    (hdep : ∀ x x' j, (∀ i ∈ R.getD j [], x i = x' i) → (V x).getD j VAny = (V x').getD j VAny) (hweak : ∀ i, i < m → (C.getD i []).isEmpty = false → ∀ k, k < m → k ≠ i → i ∉ R.getD k [] → k ∉ C.getD i [] → ∀ x v w w', ((V x).getD k VAny).p v w → Rel i w w' → ((V x).getD k VAny).p v w') (hSt : ∀ j b w w', S b w → StepR C (Rel j) j w w' → S (b || j == k0) w') (hS0 : S false w.drew) (h : ∀ x, ObsJ P ops Q k0 S R C Rel m V x m 0 a0) : (Code.region id ops true).wp P Q a0 w :=
 wp_tasksJ (m := m) (Rel := Rel) R C V k0 S hm hok hdep hweak hS0 hSt (fun x j hj => (obs_allJ m 0 (h x)).1 j (by omega) (by omega)) (fun x w' b hS hV => by
  have := (obs_allJ m 0 (h x)).2 w' b hS (hV)
  rwa [Nat.zero_add] at this)
theorem obs_stepJ {k0 : Nat} {S : Bool → World → Prop} {R C : List (List Nat)} {Rel : Nat → World → World → Prop} {m : Nat} {V : (Nat → Value) → List VP} {x : Nat → Value} {r j : Nat} {a : Act} {o : Oper} {d : Tmp} (ho : ops[j]? = some o) (hd : o.dst = some d)
    (h : ∀ b w, (j = k0 → b = false) → S b w → (∀ i ∈ availR R C m j, ((V x).getD i VAny).p (x i) w) → ∀ K : Act → World → Prop, Shut (∀ a' w' v, a'.tmps[d]? = some v → a'.defers = a.defers → ((V x).getD j VAny).p v w' → StepR C (Rel j) j w w' → K a' w') →
     if Region.wanted o (yielded ops a.tmps) = true then Oper.wp P o a w K NoWay else K (a.put o.dst undef) w)
    (hr : ObsJ P ops Q k0 S R C Rel m V x r (j + 1) { a with tmps := a.tmps.setIfInBounds d (x j) }) : ObsJ P ops Q k0 S R C Rel m V x (r + 1) j a := by
 have hdst : dstOf ops j = some d := by simp [dstOf, ho, hd]
 refine ⟨fun b w hb0 hS hV => wpOp_step ho (fun K hK => ?_), by rw [hdst]; exact hr⟩
 exact h b w hb0 hS hV K (fun a' w' v h1 h2 h3 h4 => hK a' w' ⟨v, fun d' hd' => by rw [hdst] at hd'; injection hd' with hd'; exact hd' ▸ h1, h2, h3, h4⟩)
end
end Go.Proofs.YtaiegpggccdgoaaGreat
