/-
  LawFnTriality: part 6 of the texts that the proof needs. No condition.
-/
import Derived.Test.YtaiegpggccdgoaaGreatT5
namespace Go.Proofs.YtaiegpggccdgoaaGreat
open Go.RowKit
def isTbR (p : Int) (l0 : Nat) (r : List Int) : Bool := (r.length == l0) && decide (1 ≤ r.length) && decide (r.length ≤ 16) && nums p r
def isTb (p : Int) (M : List (List Int)) : Bool := decide (M.length ≤ 16) && M.all (isTbR p (M.getD 0 []).length)
theorem tb_step {p : Int} {l0 : Nat} {M : List (List Int)} {k : Nat} (hk : k < M.length) (h : ((M.take k).all (isTbR p l0)) = true) (h1 : isTbR p l0 M[k] = true) : ((M.take (k + 1)).all (isTbR p l0)) = true := by
 rw [List.take_succ_eq_append_getElem hk, List.all_append, h]; simp [h1]
theorem tb_stop {p : Int} {l0 : Nat} {M : List (List Int)} {k : Nat} (hk : k < M.length) (h1 : isTbR p l0 M[k] = false) : (M.all (isTbR p l0)) = false :=
 List.all_eq_false.2 ⟨M[k], List.getElem_mem hk, by simp [h1]⟩
set_option maxHeartbeats 1600000 in
set_option maxRecDepth 8000 in
theorem isTable_gen (p : Int) (A : Option Addr) (n c : Nat) (M : List (List Int)) (w : World) (hp0 : 0 < p) (hp1 : p ≤ 13) (hn : n ≤ 1048576) (ha : RdII w A n M) (hM : ∀ r ∈ M, r.length ≤ 1048576) :
    Calls Tryz.prog 155 #[.int .i64 p, .slice A n c] w fun e w' => e = .returned (.bool (isTb p M)) ∧ w = w' := by
 have HLN := Lib.hid ha.len
 have HMM := Lib.hid hM
 obtain ⟨R, hR⟩ : ∃ b, b = isTb p M := ⟨_, rfl⟩
 rw [← hR]
 by_cases h16 : 16 < n
 · obtain rfl : R = false := by rw [hR]; unfold isTb; rw [decide_eq_false (by rw [HLN.out]; omega)]; rfl
   have t1 : decide ((16 : Int) < (n : Int)) = true := by simp; omega
   clear hR hM
   go_enter Tryz.func155, Tryz.ntmps155
   go_wp2
   go_ret
   exact ⟨rfl, rfl⟩
 have t1 : decide ((16 : Int) < (n : Int)) = false := by simp; omega
 obtain ⟨l0, hl0⟩ : ∃ l, l = (M.getD 0 []).length := ⟨_, rfl⟩
 have HL0 := Lib.hid hl0
 have HR : Hid (R = M.all (isTbR p l0)) := Lib.hid (by rw [hR]; unfold isTb; rw [decide_eq_true (by rw [HLN.out]; omega), Bool.true_and, hl0])
 clear hM hR hl0
 go_enter Tryz.func155, Tryz.ntmps155
 go_wp2
 go_loopw [12] (fun i wr => ∃ k : Nat, k ≤ n ∧ i = .int .i64 k ∧ wr = w ∧ Hid (((M.take k).all (isTbR p l0)) = true)) (fun i _ => n - (intOf i).toNat)
 case atStart => exact ⟨0, by omega, rfl, rfl, Lib.hid (by simp)⟩
 case round =>
  obtain ⟨k, hk, rfl, rfl, HK⟩ := hrel
  by_cases hlt : k < n
  · obtain ⟨g, o, rfl, hxk, A1, c1, hc1, hr1, -⟩ := ha.at_ hlt
    obtain ⟨g0, o0, e0, hx0, A0, c0, hc0, hr0, -⟩ := ha.at_ (show 0 < n by omega)
    cases e0
    have hll : M[0].length = l0 := by rw [HL0.out, List.getD_eq_getElem?_getD, List.getElem?_eq_getElem hx0]; rfl
    rw [hll, Nat.add_zero] at hc0
    have hml := HMM.out M[k] (List.getElem_mem hxk)
    obtain ⟨m, hm⟩ : ∃ m, m = M[k].length := ⟨_, rfl⟩
    have HSTEP := Lib.hid (tb_step hxk HK.out)
    have HSTOP := Lib.hid (tb_stop (p := p) (l0 := l0) hxk)
    have HTR : Hid (isTbR p l0 M[k] = ((m == l0) && decide (1 ≤ m) && decide (m ≤ 16) && nums p M[k])) := Lib.hid (by rw [hm]; rfl)
    rw [← hm] at hc1 hr1 hml
    clear hr0 ha hll hm
    by_cases e1 : m = l0
    · subst e1
      have t4 : ((m : Int) != (m : Int)) = false := by simp
      by_cases e2 : m < 1
      · obtain rfl : R = false := by rw [HR.out, HSTOP.out (by rw [HTR.out, decide_eq_false (show ¬ 1 ≤ m by omega)]; simp)]
        have t2 : decide ((m : Int) < 1) = true := by simp; omega
        clear HSTEP HSTOP HTR HR
        go_wp2
        go_ret
        exact ⟨rfl, rfl⟩
      have t2 : decide ((m : Int) < 1) = false := by simp; omega
      by_cases e3 : 16 < m
      · obtain rfl : R = false := by rw [HR.out, HSTOP.out (by rw [HTR.out, decide_eq_false (show ¬ m ≤ 16 by omega)]; simp)]
        have t3 : decide ((16 : Int) < (m : Int)) = true := by simp; omega
        clear HSTEP HSTOP HTR HR
        go_wp2
        go_ret
        exact ⟨rfl, rfl⟩
      have t3 : decide ((16 : Int) < (m : Int)) = false := by simp; omega
      obtain ⟨b, hb⟩ : ∃ b, b = nums p M[k] := ⟨_, rfl⟩
      have his := is_b p A1 m c1 M[k] wr (by omega) (by omega) (by omega) hr1 hb.symm
      have HB : Hid (isTbR p m M[k] = b) := Lib.hid (by rw [HTR.out, ← hb, decide_eq_true (show 1 ≤ m by omega), decide_eq_true (show m ≤ 16 by omega)]; simp)
      clear hr1 hb HTR
      go_wp2_with fail
      refine his.mono ?_
      rintro e w1 ⟨rfl, rfl⟩
      cases b
      · obtain rfl : R = false := by rw [HR.out, HSTOP.out HB.out]
        clear HB HSTEP HSTOP HR
        go_wp2
        go_ret
        exact ⟨rfl, rfl⟩
      · have HB1 := Lib.hid (HSTEP.out HB.out)
        clear HB HSTEP HSTOP
        go_wp2
        go_roundw
        case rel => exact ⟨k + 1, by omega, by go_num, by first | rfl | trivial, HB1⟩
        case measure => simp [intOf]; omega
    · obtain rfl : R = false := by rw [HR.out, HSTOP.out (by rw [HTR.out, show (m == l0) = false by simpa using e1]; simp)]
      have t4 : ((m : Int) != (l0 : Int)) = true := by simp; omega
      clear HSTEP HSTOP HTR HR
      go_wp2
      go_ret
      exact ⟨rfl, rfl⟩
  · obtain rfl : k = n := by omega
    have hr := HK.out
    rw [List.take_of_length_le (by rw [HLN.out]; omega)] at hr
    obtain rfl : R = true := HR.out.trans hr
    clear hr HR
    go_wp2
    go_ret
    exact ⟨rfl, rfl⟩
set_option maxHeartbeats 800000 in
set_option maxRecDepth 8000 in
theorem isMatrix_gen (p : Int) (A : Option Addr) (n c : Nat) (M : List (List Int)) (w : World) (hp0 : 0 < p) (hp1 : p ≤ 13) (hn : n ≤ 1048576) (ha : RdII w A n M) (hM : ∀ r ∈ M, r.length ≤ 1048576) :
    Calls Tryz.prog 144 #[.int .i64 p, .slice A n c] w fun e w' => e = .returned (.bool (decide (0 < n) && isTb p M)) ∧ w = w' := by
 have h := isTable_gen p A n c M w hp0 hp1 hn ha hM
 by_cases h0 : 0 < n
 · have t1 : decide ((0 : Int) < (n : Int)) = true := by simp; omega
   rw [decide_eq_true h0, Bool.true_and]
   obtain ⟨R, hR⟩ : ∃ b, b = isTb p M := ⟨_, rfl⟩
   rw [← hR] at h ⊢
   clear hR hM
   go_enter Tryz.func144, Tryz.ntmps144
   go_wp2_with fail
   refine h.mono ?_
   rintro e w1 ⟨rfl, rfl⟩
   go_wp2
   go_ret
   exact ⟨rfl, rfl⟩
 · have t1 : decide ((0 : Int) < (n : Int)) = false := by simp; omega
   rw [decide_eq_false h0, Bool.false_and]
   clear h hM
   go_enter Tryz.func144, Tryz.ntmps144
   go_wp2
   go_ret
   exact ⟨rfl, rfl⟩
end Go.Proofs.YtaiegpggccdgoaaGreat
namespace Go.Proofs.YtaiegpggccdgoaaGreat
open Go Go.RowKit
/-- The slice reads as a list of lists of lists. -/
def RdM3 (w : World) (A : Option Addr) (n : Nat) (mss : List (List (List Int))) : Prop := ∃ rows, Rd w A n rows ∧ rows.length = mss.length ∧
 ∀ (k : Nat) (h : k < mss.length), ∃ A' c', rows[k]? = some (.slice A' mss[k].length c') ∧ RdII w A' mss[k].length mss[k] ∧ mss[k].length ≤ c'
section
variable {w w' : World} {A : Option Addr} {n c : Nat} {mss : List (List (List Int))}
theorem RdM3.len (h : RdM3 w A n mss) : mss.length = n := by obtain ⟨rows, hr, hl, _⟩ := h; rw [← hl]; exact hr.1
theorem RdM3.below (h : RdM3 w A n mss) (hb : Below w.heap.size w w') : RdM3 w' A n mss := by
 obtain ⟨rows, hr, hl, hk⟩ := h
 exact ⟨rows, hr.below hb, hl, fun k hlt => by obtain ⟨A', c', e, h1, h2⟩ := hk k hlt; exact ⟨A', c', e, h1.below hb, h2⟩⟩
theorem RdM3.at_ (h : RdM3 w A n mss) {k : Nat} (hk : k < n) : ∃ g o, A = some ⟨g, o, none⟩ ∧ ∃ (hx : k < mss.length) (A' : Option Addr) (c' : Nat),
    w.cell? ⟨g, o + k, none⟩ = some (.slice A' mss[k].length c') ∧ RdII w A' mss[k].length mss[k] ∧ mss[k].length ≤ c' := by
 have hlen := h.len
 obtain ⟨rows, hr, hl, hrow⟩ := h
 obtain ⟨g, o, e, hc⟩ := hr.2 (by omega)
 have hx : k < mss.length := by omega
 obtain ⟨A', c', he, h1, h2⟩ := hrow k hx
 exact ⟨g, o, e, hx, A', c', hc k _ he, h1, h2⟩
theorem RdM3.nil (w : World) : RdM3 w none 0 [] := ⟨[], Rd.nil _ _, rfl, fun k h => absurd h (by simp)⟩
end
def TellsM3 (f : FuncId) (cap : Array Value) (w : World) (p : List (List Int) → Bool) (ok : List (List Int) → Prop) : Prop :=
 ∀ (w' : World) (A : Option Addr) (m c : Nat) (xs : List (List Int)), Below w.heap.size w w' → RdII w' A m xs → ok xs →
  Calls Tryz.prog f (#[.slice A m c] ++ cap) w' fun e w'' => e = .returned (.bool (p xs)) ∧ Below w'.heap.size w' w''
set_option maxHeartbeats 800000 in
set_option maxRecDepth 8000 in
theorem IndexFuncM3_any (f : FuncId) (q : Addr) (p : List (List Int) → Bool) (ok : List (List Int) → Prop) (A : Option Addr) (n c : Nat) (xss : List (List (List Int))) (w : World) (hn : n ≤ 1099511627776) (ha : RdM3 w A n xss) (hok : ∀ xs ∈ xss, ok xs)
    (hf : TellsM3 f #[.pointer (some q)] w p ok) (hcf : ∀ (args : Array Value) (w : World), (callFunc f args).run Tryz.prog w = .ok (.enter f args) w) :
    Calls Tryz.prog 143 #[.slice A n c, .func (.func f) #[] #[.pointer (some q)]] w fun e w' => ∃ r : Int, e = .returned (.int .i64 r) ∧ decide (0 ≤ r) = xss.any p ∧ Below w.heap.size w w' := by
 have hxl := ha.len
 have Hx := Lib.hid hxl; clear hxl
 go_enter Tryz.func143, Tryz.ntmps143
 go_wp2
 go_loopw [8] (fun i wr => ∃ k : Nat, k ≤ n ∧ i = .int .i64 k ∧ (xss.take k).any p = false ∧ Below w.heap.size w wr) (fun i _ => n - (intOf i).toNat)
 case atStart => exact ⟨0, by omega, rfl, by simp, Below.refl _ _⟩
 case round =>
  obtain ⟨k, hk, rfl, ht, hB⟩ := hrel
  have H := Lib.hid ht; clear ht
  by_cases hlt : k < n
  · obtain ⟨g, o, rfl, hx, A', c', hcx, hr, -⟩ := (ha.below hB).at_ hlt
    have hoki := hok xss[k] (List.getElem_mem hx)
    clear ha
    cases hi : p xss[k]
    all_goals
     have HI := Lib.hid hi; clear hi
     go_wp2_with fail
     refine (hf _ _ _ _ _ hB hr hoki).mono ?_
     rintro e w1 ⟨rfl, hb1⟩
     rw [HI.out]
     go_wp2
    · go_roundw
      case rel =>
       refine ⟨k + 1, by omega, by go_num, ?_, hB.trans (hb1.mono hB.size)⟩
       rw [List.take_succ_eq_append_getElem hx, List.any_append, H.out]
       simpa using HI.out
      case measure => simp [intOf]; omega
    · go_ret
      refine ⟨_, rfl, ?_, hB.trans (hb1.mono hB.size)⟩
      have : xss.any p = true := List.any_eq_true.2 ⟨xss[k], List.getElem_mem hx, HI.out⟩
      rw [this]; simp
  · go_wp2
    go_ret
    refine ⟨_, rfl, ?_, hB⟩
    have := H.out
    rw [List.take_of_length_le (by rw [Hx.out]; omega)] at this
    rw [this]; simp
set_option maxHeartbeats 400000 in
set_option maxRecDepth 8000 in
theorem ContainsFuncM3_any (f : FuncId) (q : Addr) (p : List (List Int) → Bool) (ok : List (List Int) → Prop) (A : Option Addr) (n c : Nat) (xss : List (List (List Int))) (w : World) (hn : n ≤ 1099511627776) (ha : RdM3 w A n xss) (hok : ∀ xs ∈ xss, ok xs)
    (hf : TellsM3 f #[.pointer (some q)] w p ok) (hcf : ∀ (args : Array Value) (w : World), (callFunc f args).run Tryz.prog w = .ok (.enter f args) w) :
    Calls Tryz.prog 97 #[.slice A n c, .func (.func f) #[] #[.pointer (some q)]] w fun e w' => e = .returned (.bool (xss.any p)) ∧ Below w.heap.size w w' := by
 go_enter Tryz.func97, Tryz.ntmps97
 go_wp2_with fail
 refine (IndexFuncM3_any _ _ _ _ _ _ _ _ _ hn ha hok hf hcf).mono ?_
 rintro e w1 ⟨r, rfl, hr, hb⟩
 have HR := Lib.hid hr; clear hr
 go_wp2
 go_ret
 exact ⟨ret_bool HR.out, hb⟩
/-- Is it a matrix for the elements of a doubling? -/
def isMx (p : Int) (k : Nat) (M : List (List Int)) : Bool := (decide (0 < M.length) && isTb p M) && (M.length == pw k) && ((M.getD 0 []).length == pw k)
set_option maxHeartbeats 1600000 in
set_option maxRecDepth 8000 in
theorem isMx_0 (p : Int) (A : Option Addr) (k c : Nat) (D : Option Addr) (r d : Nat) (M : List (List Int)) (w : World) (hp0 : 0 < p) (hp1 : p ≤ 13) (hk : k ≤ 4) (hr : r ≤ 1048576) (hd : RdII w D r M) (hM : ∀ x ∈ M, x.length ≤ 1048576) (hb : (decide (0 < r) && isTb p M) = false) :
    Calls Tryz.prog 99 #[.agg #[.int .i64 p, .slice A k c], .slice D r d] w fun e w' => e = .returned (.bool false) ∧ Below w.heap.size w w' := by
 have hB0 : Below w.heap.size w (w.alloc (.cells #[.int .i64 p, .slice A k c] 26)) := zG.alloc (Nat.le_refl _) _
 have k0 : Blk (w.alloc (.cells #[.int .i64 p, .slice A k c] 26)) w.heap.size 26 #[.int .i64 p, .slice A k c] := Blk.new _ _ _
 have HIM := Lib.hid fun w' (h : Below w.heap.size w w') => isMatrix_gen p D r d M w' hp0 hp1 hr (hd.below h) hM
 rw [hb] at HIM
 have HDS := Lib.hid fun w' => dsize_any p A k c w' hk
 have hpk : pw k ≤ 16 := pw_le hk
 have hpos := pw_pos k
 obtain ⟨N, hN⟩ : ∃ N, N = pw k := ⟨_, rfl⟩
 rw [← hN] at HDS hpk hpos 
 clear hN
 clear hM hd hb
 obtain ⟨q0, q1⟩ := k0.two
 go_enter Tryz.func99, Tryz.ntmps99
 go_wp2
 refine wp_obs 21 [[],[0],[],[0,1,2],[0,1,2,3],[0,1,2,3,4],[0,1,2,3,4,5],[0,1,2,3,4],[0,1,2,3,4,7],[0,1,2,3,4,5,6,7,8],[0,1,2,3,4,5,6,7,8,9],[0,1,2,3,4,5,6,7,8,9,10],[0,1,2,3,4,5,6,7,8,9,10,11],[0,1,2,3,4,5,6,7,8,9,10,11,12],[0,1,2,3,4,5,6,7,8,9,10,11,12,13],[0,1,2,3,4,5,6,7,8,9,10,11,12,13,14],[0,1,2,3,4,5,6,7,8,9,10,11],[0,1,2,3,4,5,6,7,8,9,10,11,16],[0,1,2,3,4,5,6,7,8,9,10,11,12,13,14,15,16,17],[0,1,2,3,4,5,6,7,8,9,10,11,12,13,14,15,16,17,18],[0,1,2,3,4,5,6,7,8,9,10,11,12,13,14,15,16,17,18,19]] [VIs (.agg #[.int .i64 p, .slice A k c]), VIs (.int .i64 (p)), VIs (.slice D r d), VIs (.bool false), VIs (.bool false), VIs undef, VIs undef, VIs undef, VIs undef, VIs undef, VIs (.bool false), VIs (.bool false), VIs undef, VIs undef, VIs undef, VIs undef, VIs undef, VIs undef, VIs undef, VIs (.bool false), VIs (.bool false)] (fun w' => Blk w' w.heap.size 26 #[.int .i64 p, .slice A k c] ∧ Below w.heap.size w w') (by kernel_rfl) (by kernel_rfl) (fun _ _ h hb => ⟨h.1.below hb h.1.lt, h.2.trans (hb.mono h.2.size)⟩) (⟨k0.drew, hB0.drew⟩) (fun x => ?_)
 refine zS (fun w' hS hV K hK => ?_) ?_
 · obtain ⟨q0, q1⟩ := hS.1.two; go_simp; exact zO hK
 refine zS (fun w' hS hV K hK => ?_) ?_
 · have e0 := zQ hV 0; obtain ⟨q0, q1⟩ := hS.1.two; go_simp; refine (dfield_any p A k c w').mono ?_; rintro e v1 ⟨rfl, hb⟩; exact hK.out _ _ _ rfl rfl rfl hb
 refine zS (fun w' hS hV K hK => ?_) ?_
 · obtain ⟨q0, q1⟩ := hS.1.two; go_simp; exact zO hK
 refine zS (fun w' hS hV K hK => ?_) ?_
 · have e1 := zQ hV 1; have e2 := zQ hV 2; obtain ⟨q0, q1⟩ := hS.1.two; go_simp; refine (HIM.out _ hS.2).mono ?_; rintro e v1 ⟨rfl, rfl⟩; exact zO hK
 refine zS (fun w' hS hV K hK => ?_) ?_
 · have e3 := zQ hV 3; obtain ⟨q0, q1⟩ := hS.1.two; go_simp; exact zO hK
 refine zS (fun w' hS hV K hK => ?_) ?_
 · have e4 := zQ hV 4; obtain ⟨q0, q1⟩ := hS.1.two; go_simp; exact zO hK
 refine zS (fun w' hS hV K hK => ?_) ?_
 · have e4 := zQ hV 4; have e5 := zQ hV 5; obtain ⟨q0, q1⟩ := hS.1.two; go_simp; exact zO hK
 refine zS (fun w' hS hV K hK => ?_) ?_
 · have e4 := zQ hV 4; obtain ⟨q0, q1⟩ := hS.1.two; go_simp; exact zO hK
 refine zS (fun w' hS hV K hK => ?_) ?_
 · have e4 := zQ hV 4; have e7 := zQ hV 7; obtain ⟨q0, q1⟩ := hS.1.two; go_simp; exact zO hK
 refine zS (fun w' hS hV K hK => ?_) ?_
 · have e4 := zQ hV 4; have e6 := zQ hV 6; have e8 := zQ hV 8; obtain ⟨q0, q1⟩ := hS.1.two; go_simp; exact zO hK
 refine zS (fun w' hS hV K hK => ?_) ?_
 · have e4 := zQ hV 4; have e9 := zQ hV 9; obtain ⟨q0, q1⟩ := hS.1.two; go_simp; exact zO hK
 refine zS (fun w' hS hV K hK => ?_) ?_
 · have e10 := zQ hV 10; obtain ⟨q0, q1⟩ := hS.1.two; go_simp; exact zO hK
 refine zS (fun w' hS hV K hK => ?_) ?_
 · have e11 := zQ hV 11; obtain ⟨q0, q1⟩ := hS.1.two; go_simp; exact zO hK
 refine zS (fun w' hS hV K hK => ?_) ?_
 · have e11 := zQ hV 11; have e12 := zQ hV 12; obtain ⟨q0, q1⟩ := hS.1.two; go_simp; exact zO hK
 refine zS (fun w' hS hV K hK => ?_) ?_
 · have e11 := zQ hV 11; have e13 := zQ hV 13; obtain ⟨q0, q1⟩ := hS.1.two; go_simp; exact zO hK
 refine zS (fun w' hS hV K hK => ?_) ?_
 · have e11 := zQ hV 11; have e14 := zQ hV 14; obtain ⟨q0, q1⟩ := hS.1.two; go_simp; exact zO hK
 refine zS (fun w' hS hV K hK => ?_) ?_
 · have e11 := zQ hV 11; obtain ⟨q0, q1⟩ := hS.1.two; go_simp; exact zO hK
 refine zS (fun w' hS hV K hK => ?_) ?_
 · have e11 := zQ hV 11; have e16 := zQ hV 16; obtain ⟨q0, q1⟩ := hS.1.two; go_simp; exact zO hK
 refine zS (fun w' hS hV K hK => ?_) ?_
 · have e11 := zQ hV 11; have e15 := zQ hV 15; have e17 := zQ hV 17; obtain ⟨q0, q1⟩ := hS.1.two; go_simp; exact zO hK
 refine zS (fun w' hS hV K hK => ?_) ?_
 · have e11 := zQ hV 11; have e18 := zQ hV 18; obtain ⟨q0, q1⟩ := hS.1.two; go_simp; exact zO hK
 refine zS (fun w' hS hV K hK => ?_) ?_
 · have e19 := zQ hV 19; obtain ⟨q0, q1⟩ := hS.1.two; go_simp; exact zO hK
 refine fun w' hS hV => ?_
 have e0 := zT hV 0
 have e1 := zT hV 1
 have e2 := zT hV 2
 have e3 := zT hV 3
 have e4 := zT hV 4
 have e5 := zT hV 5
 have e6 := zT hV 6
 have e7 := zT hV 7
 have e8 := zT hV 8
 have e9 := zT hV 9
 have e10 := zT hV 10
 have e11 := zT hV 11
 have e12 := zT hV 12
 have e13 := zT hV 13
 have e14 := zT hV 14
 have e15 := zT hV 15
 have e16 := zT hV 16
 have e17 := zT hV 17
 have e18 := zT hV 18
 have e19 := zT hV 19
 have e20 := zT hV 20
 simp only [e0, e1, e2, e3, e4, e5, e6, e7, e8, e9, e10, e11, e12, e13, e14, e15, e16, e17, e18, e19, e20]
 clear e0 e1 e2 e3 e4 e5 e6 e7 e8 e9 e10 e11 e12 e13 e14 e15 e16 e17 e18 e19 e20
 refine wpAny_done (by kernel_rfl) ?_ _
 have hb9 := hS.2
 go_wp2
 go_ret
 exact ⟨rfl, hb9⟩
set_option maxHeartbeats 1600000 in
set_option maxRecDepth 8000 in
theorem isMx_1 (p : Int) (A : Option Addr) (k c : Nat) (D : Option Addr) (r d : Nat) (M : List (List Int)) (w : World) (hp0 : 0 < p) (hp1 : p ≤ 13) (hk : k ≤ 4) (hr : r ≤ 1048576) (hd : RdII w D r M) (hM : ∀ x ∈ M, x.length ≤ 1048576) (hb : (decide (0 < r) && isTb p M) = true) (h1 : r ≠ pw k) :
    Calls Tryz.prog 99 #[.agg #[.int .i64 p, .slice A k c], .slice D r d] w fun e w' => e = .returned (.bool false) ∧ Below w.heap.size w w' := by
 have hB0 : Below w.heap.size w (w.alloc (.cells #[.int .i64 p, .slice A k c] 26)) := zG.alloc (Nat.le_refl _) _
 have k0 : Blk (w.alloc (.cells #[.int .i64 p, .slice A k c] 26)) w.heap.size 26 #[.int .i64 p, .slice A k c] := Blk.new _ _ _
 have HIM := Lib.hid fun w' (h : Below w.heap.size w w') => isMatrix_gen p D r d M w' hp0 hp1 hr (hd.below h) hM
 rw [hb] at HIM
 have HDS := Lib.hid fun w' => dsize_any p A k c w' hk
 have hpk : pw k ≤ 16 := pw_le hk
 have hpos := pw_pos k
 obtain ⟨N, hN⟩ : ∃ N, N = pw k := ⟨_, rfl⟩
 rw [← hN] at HDS hpk hpos h1
 clear hN
 have t4 : ((r : Int) == (N : Int)) = false := by rw [beq_eq_false_iff_ne]; omega
 clear h1
 clear hM hd hb
 obtain ⟨q0, q1⟩ := k0.two
 go_enter Tryz.func99, Tryz.ntmps99
 go_wp2
 refine wp_obs 21 [[],[0],[],[0,1,2],[0,1,2,3],[0,1,2,3,4],[0,1,2,3,4,5],[0,1,2,3,4],[0,1,2,3,4,7],[0,1,2,3,4,5,6,7,8],[0,1,2,3,4,5,6,7,8,9],[0,1,2,3,4,5,6,7,8,9,10],[0,1,2,3,4,5,6,7,8,9,10,11],[0,1,2,3,4,5,6,7,8,9,10,11,12],[0,1,2,3,4,5,6,7,8,9,10,11,12,13],[0,1,2,3,4,5,6,7,8,9,10,11,12,13,14],[0,1,2,3,4,5,6,7,8,9,10,11],[0,1,2,3,4,5,6,7,8,9,10,11,16],[0,1,2,3,4,5,6,7,8,9,10,11,12,13,14,15,16,17],[0,1,2,3,4,5,6,7,8,9,10,11,12,13,14,15,16,17,18],[0,1,2,3,4,5,6,7,8,9,10,11,12,13,14,15,16,17,18,19]] [VIs (.agg #[.int .i64 p, .slice A k c]), VIs (.int .i64 (p)), VIs (.slice D r d), VIs (.bool true), VIs (.bool true), VIs (.slice D r d), VIs (.int .i64 (r)), VIs (.agg #[.int .i64 p, .slice A k c]), VIs (.int .i64 (N)), VIs (.bool false), VIs (.bool false), VIs (.bool false), VIs undef, VIs undef, VIs undef, VIs undef, VIs undef, VIs undef, VIs undef, VIs (.bool false), VIs (.bool false)] (fun w' => Blk w' w.heap.size 26 #[.int .i64 p, .slice A k c] ∧ Below w.heap.size w w') (by kernel_rfl) (by kernel_rfl) (fun _ _ h hb => ⟨h.1.below hb h.1.lt, h.2.trans (hb.mono h.2.size)⟩) (⟨k0.drew, hB0.drew⟩) (fun x => ?_)
 refine zS (fun w' hS hV K hK => ?_) ?_
 · obtain ⟨q0, q1⟩ := hS.1.two; go_simp; exact zO hK
 refine zS (fun w' hS hV K hK => ?_) ?_
 · have e0 := zQ hV 0; obtain ⟨q0, q1⟩ := hS.1.two; go_simp; refine (dfield_any p A k c w').mono ?_; rintro e v1 ⟨rfl, hb⟩; exact hK.out _ _ _ rfl rfl rfl hb
 refine zS (fun w' hS hV K hK => ?_) ?_
 · obtain ⟨q0, q1⟩ := hS.1.two; go_simp; exact zO hK
 refine zS (fun w' hS hV K hK => ?_) ?_
 · have e1 := zQ hV 1; have e2 := zQ hV 2; obtain ⟨q0, q1⟩ := hS.1.two; go_simp; refine (HIM.out _ hS.2).mono ?_; rintro e v1 ⟨rfl, rfl⟩; exact zO hK
 refine zS (fun w' hS hV K hK => ?_) ?_
 · have e3 := zQ hV 3; obtain ⟨q0, q1⟩ := hS.1.two; go_simp; exact zO hK
 refine zS (fun w' hS hV K hK => ?_) ?_
 · have e4 := zQ hV 4; obtain ⟨q0, q1⟩ := hS.1.two; go_simp; exact zO hK
 refine zS (fun w' hS hV K hK => ?_) ?_
 · have e4 := zQ hV 4; have e5 := zQ hV 5; obtain ⟨q0, q1⟩ := hS.1.two; go_simp; exact zO hK
 refine zS (fun w' hS hV K hK => ?_) ?_
 · have e4 := zQ hV 4; obtain ⟨q0, q1⟩ := hS.1.two; go_simp; exact zO hK
 refine zS (fun w' hS hV K hK => ?_) ?_
 · have e4 := zQ hV 4; have e7 := zQ hV 7; obtain ⟨q0, q1⟩ := hS.1.two; go_simp; refine (HDS.out w').mono ?_; rintro e v1 ⟨rfl, hb⟩; exact hK.out _ _ _ rfl rfl rfl hb
 refine zS (fun w' hS hV K hK => ?_) ?_
 · have e4 := zQ hV 4; have e6 := zQ hV 6; have e8 := zQ hV 8; obtain ⟨q0, q1⟩ := hS.1.two; go_simp; exact zO hK
 refine zS (fun w' hS hV K hK => ?_) ?_
 · have e4 := zQ hV 4; have e9 := zQ hV 9; obtain ⟨q0, q1⟩ := hS.1.two; go_simp; exact zO hK
 refine zS (fun w' hS hV K hK => ?_) ?_
 · have e10 := zQ hV 10; obtain ⟨q0, q1⟩ := hS.1.two; go_simp; exact zO hK
 refine zS (fun w' hS hV K hK => ?_) ?_
 · have e11 := zQ hV 11; obtain ⟨q0, q1⟩ := hS.1.two; go_simp; exact zO hK
 refine zS (fun w' hS hV K hK => ?_) ?_
 · have e11 := zQ hV 11; have e12 := zQ hV 12; obtain ⟨q0, q1⟩ := hS.1.two; go_simp; exact zO hK
 refine zS (fun w' hS hV K hK => ?_) ?_
 · have e11 := zQ hV 11; have e13 := zQ hV 13; obtain ⟨q0, q1⟩ := hS.1.two; go_simp; exact zO hK
 refine zS (fun w' hS hV K hK => ?_) ?_
 · have e11 := zQ hV 11; have e14 := zQ hV 14; obtain ⟨q0, q1⟩ := hS.1.two; go_simp; exact zO hK
 refine zS (fun w' hS hV K hK => ?_) ?_
 · have e11 := zQ hV 11; obtain ⟨q0, q1⟩ := hS.1.two; go_simp; exact zO hK
 refine zS (fun w' hS hV K hK => ?_) ?_
 · have e11 := zQ hV 11; have e16 := zQ hV 16; obtain ⟨q0, q1⟩ := hS.1.two; go_simp; exact zO hK
 refine zS (fun w' hS hV K hK => ?_) ?_
 · have e11 := zQ hV 11; have e15 := zQ hV 15; have e17 := zQ hV 17; obtain ⟨q0, q1⟩ := hS.1.two; go_simp; exact zO hK
 refine zS (fun w' hS hV K hK => ?_) ?_
 · have e11 := zQ hV 11; have e18 := zQ hV 18; obtain ⟨q0, q1⟩ := hS.1.two; go_simp; exact zO hK
 refine zS (fun w' hS hV K hK => ?_) ?_
 · have e19 := zQ hV 19; obtain ⟨q0, q1⟩ := hS.1.two; go_simp; exact zO hK
 refine fun w' hS hV => ?_
 have e0 := zT hV 0
 have e1 := zT hV 1
 have e2 := zT hV 2
 have e3 := zT hV 3
 have e4 := zT hV 4
 have e5 := zT hV 5
 have e6 := zT hV 6
 have e7 := zT hV 7
 have e8 := zT hV 8
 have e9 := zT hV 9
 have e10 := zT hV 10
 have e11 := zT hV 11
 have e12 := zT hV 12
 have e13 := zT hV 13
 have e14 := zT hV 14
 have e15 := zT hV 15
 have e16 := zT hV 16
 have e17 := zT hV 17
 have e18 := zT hV 18
 have e19 := zT hV 19
 have e20 := zT hV 20
 simp only [e0, e1, e2, e3, e4, e5, e6, e7, e8, e9, e10, e11, e12, e13, e14, e15, e16, e17, e18, e19, e20]
 clear e0 e1 e2 e3 e4 e5 e6 e7 e8 e9 e10 e11 e12 e13 e14 e15 e16 e17 e18 e19 e20
 refine wpAny_done (by kernel_rfl) ?_ _
 have hb9 := hS.2
 go_wp2
 go_ret
 exact ⟨rfl, hb9⟩
set_option maxHeartbeats 1600000 in
set_option maxRecDepth 8000 in
theorem isMx_2 (p : Int) (A : Option Addr) (k c : Nat) (D : Option Addr) (r d : Nat) (M : List (List Int)) (w : World) (hp0 : 0 < p) (hp1 : p ≤ 13) (hk : k ≤ 4) (hr : r ≤ 1048576) (hd : RdII w D r M) (hM : ∀ x ∈ M, x.length ≤ 1048576) (hb : (decide (0 < r) && isTb p M) = true) (h1 : r = pw k) (h2 : (M.getD 0 []).length ≠ pw k) :
    Calls Tryz.prog 99 #[.agg #[.int .i64 p, .slice A k c], .slice D r d] w fun e w' => e = .returned (.bool false) ∧ Below w.heap.size w w' := by
 have hB0 : Below w.heap.size w (w.alloc (.cells #[.int .i64 p, .slice A k c] 26)) := zG.alloc (Nat.le_refl _) _
 have k0 : Blk (w.alloc (.cells #[.int .i64 p, .slice A k c] 26)) w.heap.size 26 #[.int .i64 p, .slice A k c] := Blk.new _ _ _
 have HIM := Lib.hid fun w' (h : Below w.heap.size w w') => isMatrix_gen p D r d M w' hp0 hp1 hr (hd.below h) hM
 rw [hb] at HIM
 have HDS := Lib.hid fun w' => dsize_any p A k c w' hk
 have hpk : pw k ≤ 16 := pw_le hk
 have hpos := pw_pos k
 obtain ⟨N, hN⟩ : ∃ N, N = pw k := ⟨_, rfl⟩
 rw [← hN] at HDS hpk hpos h1 h2
 clear hN
 obtain ⟨g, o, rfl, hx0, A0, c0, hc0, -, -⟩ := (hd.below hB0).at_ (show 0 < r by omega)
 have hm0 : M[0].length = (M.getD 0 []).length := by rw [List.getD_eq_getElem?_getD, List.getElem?_eq_getElem hx0]; rfl
 rw [hm0, Nat.add_zero] at hc0
 obtain ⟨m, hm⟩ : ∃ m, m = (M.getD 0 []).length := ⟨_, rfl⟩
 rw [← hm] at hc0 h2
 clear hm0 hm
 obtain rfl : r = N := h1
 have hr0 : 0 < r := hpos
 have t4 : ((r : Int) == (r : Int)) = true := by simp
 have t5 : ((m : Int) == (r : Int)) = false := by rw [beq_eq_false_iff_ne]; omega
 clear h2
 clear hM hd hb
 obtain ⟨q0, q1⟩ := k0.two
 go_enter Tryz.func99, Tryz.ntmps99
 go_wp2
 refine wp_obs 21 [[],[0],[],[0,1,2],[0,1,2,3],[0,1,2,3,4],[0,1,2,3,4,5],[0,1,2,3,4],[0,1,2,3,4,7],[0,1,2,3,4,5,6,7,8],[0,1,2,3,4,5,6,7,8,9],[0,1,2,3,4,5,6,7,8,9,10],[0,1,2,3,4,5,6,7,8,9,10,11],[0,1,2,3,4,5,6,7,8,9,10,11,12],[0,1,2,3,4,5,6,7,8,9,10,11,12,13],[0,1,2,3,4,5,6,7,8,9,10,11,12,13,14],[0,1,2,3,4,5,6,7,8,9,10,11],[0,1,2,3,4,5,6,7,8,9,10,11,16],[0,1,2,3,4,5,6,7,8,9,10,11,12,13,14,15,16,17],[0,1,2,3,4,5,6,7,8,9,10,11,12,13,14,15,16,17,18],[0,1,2,3,4,5,6,7,8,9,10,11,12,13,14,15,16,17,18,19]] [VIs (.agg #[.int .i64 p, .slice A k c]), VIs (.int .i64 (p)), VIs (.slice (some ⟨g, o, none⟩) r d), VIs (.bool true), VIs (.bool true), VIs (.slice (some ⟨g, o, none⟩) r d), VIs (.int .i64 (r)), VIs (.agg #[.int .i64 p, .slice A k c]), VIs (.int .i64 (r)), VIs (.bool true), VIs (.bool true), VIs (.bool true), VIs (.slice (some ⟨g, o, none⟩) r d), VIs (.pointer (some ⟨g, o, none⟩)), VIs (.slice A0 m c0), VIs (.int .i64 (m)), VIs (.agg #[.int .i64 p, .slice A k c]), VIs (.int .i64 (r)), VIs (.bool false), VIs (.bool false), VIs (.bool false)] (fun w' => w'.cell? ⟨g, o, none⟩ = some (.slice A0 m c0) ∧ Blk w' w.heap.size 26 #[.int .i64 p, .slice A k c] ∧ Below w.heap.size w w') (by kernel_rfl) (by kernel_rfl) (fun _ _ h hb => ⟨(hb.cell (World.block_lt_of_cell? _ _ h.1)).trans h.1, h.2.1.below hb h.2.1.lt, h.2.2.trans (hb.mono h.2.2.size)⟩) (⟨hc0, k0.drew, hB0.drew⟩) (fun x => ?_)
 refine zS (fun w' hS hV K hK => ?_) ?_
 · have q2 := hS.1; obtain ⟨q0, q1⟩ := hS.2.1.two; go_simp; exact zO hK
 refine zS (fun w' hS hV K hK => ?_) ?_
 · have e0 := zQ hV 0; have q2 := hS.1; obtain ⟨q0, q1⟩ := hS.2.1.two; go_simp; refine (dfield_any p A k c w').mono ?_; rintro e v1 ⟨rfl, hb⟩; exact hK.out _ _ _ rfl rfl rfl hb
 refine zS (fun w' hS hV K hK => ?_) ?_
 · have q2 := hS.1; obtain ⟨q0, q1⟩ := hS.2.1.two; go_simp; exact zO hK
 refine zS (fun w' hS hV K hK => ?_) ?_
 · have e1 := zQ hV 1; have e2 := zQ hV 2; have q2 := hS.1; obtain ⟨q0, q1⟩ := hS.2.1.two; go_simp; refine (HIM.out _ hS.2.2).mono ?_; rintro e v1 ⟨rfl, rfl⟩; exact zO hK
 refine zS (fun w' hS hV K hK => ?_) ?_
 · have e3 := zQ hV 3; have q2 := hS.1; obtain ⟨q0, q1⟩ := hS.2.1.two; go_simp; exact zO hK
 refine zS (fun w' hS hV K hK => ?_) ?_
 · have e4 := zQ hV 4; have q2 := hS.1; obtain ⟨q0, q1⟩ := hS.2.1.two; go_simp; exact zO hK
 refine zS (fun w' hS hV K hK => ?_) ?_
 · have e4 := zQ hV 4; have e5 := zQ hV 5; have q2 := hS.1; obtain ⟨q0, q1⟩ := hS.2.1.two; go_simp; exact zO hK
 refine zS (fun w' hS hV K hK => ?_) ?_
 · have e4 := zQ hV 4; have q2 := hS.1; obtain ⟨q0, q1⟩ := hS.2.1.two; go_simp; exact zO hK
 refine zS (fun w' hS hV K hK => ?_) ?_
 · have e4 := zQ hV 4; have e7 := zQ hV 7; have q2 := hS.1; obtain ⟨q0, q1⟩ := hS.2.1.two; go_simp; refine (HDS.out w').mono ?_; rintro e v1 ⟨rfl, hb⟩; exact hK.out _ _ _ rfl rfl rfl hb
 refine zS (fun w' hS hV K hK => ?_) ?_
 · have e4 := zQ hV 4; have e6 := zQ hV 6; have e8 := zQ hV 8; have q2 := hS.1; obtain ⟨q0, q1⟩ := hS.2.1.two; go_simp; exact zO hK
 refine zS (fun w' hS hV K hK => ?_) ?_
 · have e4 := zQ hV 4; have e9 := zQ hV 9; have q2 := hS.1; obtain ⟨q0, q1⟩ := hS.2.1.two; go_simp; exact zO hK
 refine zS (fun w' hS hV K hK => ?_) ?_
 · have e10 := zQ hV 10; have q2 := hS.1; obtain ⟨q0, q1⟩ := hS.2.1.two; go_simp; exact zO hK
 refine zS (fun w' hS hV K hK => ?_) ?_
 · have e11 := zQ hV 11; have q2 := hS.1; obtain ⟨q0, q1⟩ := hS.2.1.two; go_simp; exact zO hK
 refine zS (fun w' hS hV K hK => ?_) ?_
 · have e11 := zQ hV 11; have e12 := zQ hV 12; have q2 := hS.1; obtain ⟨q0, q1⟩ := hS.2.1.two; go_simp; exact zO hK
 refine zS (fun w' hS hV K hK => ?_) ?_
 · have e11 := zQ hV 11; have e13 := zQ hV 13; have q2 := hS.1; obtain ⟨q0, q1⟩ := hS.2.1.two; go_simp; exact zO hK
 refine zS (fun w' hS hV K hK => ?_) ?_
 · have e11 := zQ hV 11; have e14 := zQ hV 14; have q2 := hS.1; obtain ⟨q0, q1⟩ := hS.2.1.two; go_simp; exact zO hK
 refine zS (fun w' hS hV K hK => ?_) ?_
 · have e11 := zQ hV 11; have q2 := hS.1; obtain ⟨q0, q1⟩ := hS.2.1.two; go_simp; exact zO hK
 refine zS (fun w' hS hV K hK => ?_) ?_
 · have e11 := zQ hV 11; have e16 := zQ hV 16; have q2 := hS.1; obtain ⟨q0, q1⟩ := hS.2.1.two; go_simp; refine (HDS.out w').mono ?_; rintro e v1 ⟨rfl, hb⟩; exact hK.out _ _ _ rfl rfl rfl hb
 refine zS (fun w' hS hV K hK => ?_) ?_
 · have e11 := zQ hV 11; have e15 := zQ hV 15; have e17 := zQ hV 17; have q2 := hS.1; obtain ⟨q0, q1⟩ := hS.2.1.two; go_simp; exact zO hK
 refine zS (fun w' hS hV K hK => ?_) ?_
 · have e11 := zQ hV 11; have e18 := zQ hV 18; have q2 := hS.1; obtain ⟨q0, q1⟩ := hS.2.1.two; go_simp; exact zO hK
 refine zS (fun w' hS hV K hK => ?_) ?_
 · have e19 := zQ hV 19; have q2 := hS.1; obtain ⟨q0, q1⟩ := hS.2.1.two; go_simp; exact zO hK
 refine fun w' hS hV => ?_
 have e0 := zT hV 0
 have e1 := zT hV 1
 have e2 := zT hV 2
 have e3 := zT hV 3
 have e4 := zT hV 4
 have e5 := zT hV 5
 have e6 := zT hV 6
 have e7 := zT hV 7
 have e8 := zT hV 8
 have e9 := zT hV 9
 have e10 := zT hV 10
 have e11 := zT hV 11
 have e12 := zT hV 12
 have e13 := zT hV 13
 have e14 := zT hV 14
 have e15 := zT hV 15
 have e16 := zT hV 16
 have e17 := zT hV 17
 have e18 := zT hV 18
 have e19 := zT hV 19
 have e20 := zT hV 20
 simp only [e0, e1, e2, e3, e4, e5, e6, e7, e8, e9, e10, e11, e12, e13, e14, e15, e16, e17, e18, e19, e20]
 clear e0 e1 e2 e3 e4 e5 e6 e7 e8 e9 e10 e11 e12 e13 e14 e15 e16 e17 e18 e19 e20
 refine wpAny_done (by kernel_rfl) ?_ _
 have hb9 := hS.2.2
 go_wp2
 go_ret
 exact ⟨rfl, hb9⟩
set_option maxHeartbeats 1600000 in
set_option maxRecDepth 8000 in
theorem isMx_3 (p : Int) (A : Option Addr) (k c : Nat) (D : Option Addr) (r d : Nat) (M : List (List Int)) (w : World) (hp0 : 0 < p) (hp1 : p ≤ 13) (hk : k ≤ 4) (hr : r ≤ 1048576) (hd : RdII w D r M) (hM : ∀ x ∈ M, x.length ≤ 1048576) (hb : (decide (0 < r) && isTb p M) = true) (h1 : r = pw k) (h2 : (M.getD 0 []).length = pw k) :
    Calls Tryz.prog 99 #[.agg #[.int .i64 p, .slice A k c], .slice D r d] w fun e w' => e = .returned (.bool true) ∧ Below w.heap.size w w' := by
 have hB0 : Below w.heap.size w (w.alloc (.cells #[.int .i64 p, .slice A k c] 26)) := zG.alloc (Nat.le_refl _) _
 have k0 : Blk (w.alloc (.cells #[.int .i64 p, .slice A k c] 26)) w.heap.size 26 #[.int .i64 p, .slice A k c] := Blk.new _ _ _
 have HIM := Lib.hid fun w' (h : Below w.heap.size w w') => isMatrix_gen p D r d M w' hp0 hp1 hr (hd.below h) hM
 rw [hb] at HIM
 have HDS := Lib.hid fun w' => dsize_any p A k c w' hk
 have hpk : pw k ≤ 16 := pw_le hk
 have hpos := pw_pos k
 obtain ⟨N, hN⟩ : ∃ N, N = pw k := ⟨_, rfl⟩
 rw [← hN] at HDS hpk hpos h1 h2
 clear hN
 obtain ⟨g, o, rfl, hx0, A0, c0, hc0, -, -⟩ := (hd.below hB0).at_ (show 0 < r by omega)
 have hm0 : M[0].length = (M.getD 0 []).length := by rw [List.getD_eq_getElem?_getD, List.getElem?_eq_getElem hx0]; rfl
 rw [hm0, Nat.add_zero] at hc0
 obtain ⟨m, hm⟩ : ∃ m, m = (M.getD 0 []).length := ⟨_, rfl⟩
 rw [← hm] at hc0 h2
 clear hm0 hm
 obtain rfl : r = N := h1
 obtain rfl : m = r := h2
 have hr0 : 0 < m := hpos
 have t4 : ((m : Int) == (m : Int)) = true := by simp
 clear hM hd hb
 obtain ⟨q0, q1⟩ := k0.two
 go_enter Tryz.func99, Tryz.ntmps99
 go_wp2
 refine wp_obs 21 [[],[0],[],[0,1,2],[0,1,2,3],[0,1,2,3,4],[0,1,2,3,4,5],[0,1,2,3,4],[0,1,2,3,4,7],[0,1,2,3,4,5,6,7,8],[0,1,2,3,4,5,6,7,8,9],[0,1,2,3,4,5,6,7,8,9,10],[0,1,2,3,4,5,6,7,8,9,10,11],[0,1,2,3,4,5,6,7,8,9,10,11,12],[0,1,2,3,4,5,6,7,8,9,10,11,12,13],[0,1,2,3,4,5,6,7,8,9,10,11,12,13,14],[0,1,2,3,4,5,6,7,8,9,10,11],[0,1,2,3,4,5,6,7,8,9,10,11,16],[0,1,2,3,4,5,6,7,8,9,10,11,12,13,14,15,16,17],[0,1,2,3,4,5,6,7,8,9,10,11,12,13,14,15,16,17,18],[0,1,2,3,4,5,6,7,8,9,10,11,12,13,14,15,16,17,18,19]] [VIs (.agg #[.int .i64 p, .slice A k c]), VIs (.int .i64 (p)), VIs (.slice (some ⟨g, o, none⟩) m d), VIs (.bool true), VIs (.bool true), VIs (.slice (some ⟨g, o, none⟩) m d), VIs (.int .i64 (m)), VIs (.agg #[.int .i64 p, .slice A k c]), VIs (.int .i64 (m)), VIs (.bool true), VIs (.bool true), VIs (.bool true), VIs (.slice (some ⟨g, o, none⟩) m d), VIs (.pointer (some ⟨g, o, none⟩)), VIs (.slice A0 m c0), VIs (.int .i64 (m)), VIs (.agg #[.int .i64 p, .slice A k c]), VIs (.int .i64 (m)), VIs (.bool true), VIs (.bool true), VIs (.bool true)] (fun w' => w'.cell? ⟨g, o, none⟩ = some (.slice A0 m c0) ∧ Blk w' w.heap.size 26 #[.int .i64 p, .slice A k c] ∧ Below w.heap.size w w') (by kernel_rfl) (by kernel_rfl) (fun _ _ h hb => ⟨(hb.cell (World.block_lt_of_cell? _ _ h.1)).trans h.1, h.2.1.below hb h.2.1.lt, h.2.2.trans (hb.mono h.2.2.size)⟩) (⟨hc0, k0.drew, hB0.drew⟩) (fun x => ?_)
 refine zS (fun w' hS hV K hK => ?_) ?_
 · have q2 := hS.1; obtain ⟨q0, q1⟩ := hS.2.1.two; go_simp; exact zO hK
 refine zS (fun w' hS hV K hK => ?_) ?_
 · have e0 := zQ hV 0; have q2 := hS.1; obtain ⟨q0, q1⟩ := hS.2.1.two; go_simp; refine (dfield_any p A k c w').mono ?_; rintro e v1 ⟨rfl, hb⟩; exact hK.out _ _ _ rfl rfl rfl hb
 refine zS (fun w' hS hV K hK => ?_) ?_
 · have q2 := hS.1; obtain ⟨q0, q1⟩ := hS.2.1.two; go_simp; exact zO hK
 refine zS (fun w' hS hV K hK => ?_) ?_
 · have e1 := zQ hV 1; have e2 := zQ hV 2; have q2 := hS.1; obtain ⟨q0, q1⟩ := hS.2.1.two; go_simp; refine (HIM.out _ hS.2.2).mono ?_; rintro e v1 ⟨rfl, rfl⟩; exact zO hK
 refine zS (fun w' hS hV K hK => ?_) ?_
 · have e3 := zQ hV 3; have q2 := hS.1; obtain ⟨q0, q1⟩ := hS.2.1.two; go_simp; exact zO hK
 refine zS (fun w' hS hV K hK => ?_) ?_
 · have e4 := zQ hV 4; have q2 := hS.1; obtain ⟨q0, q1⟩ := hS.2.1.two; go_simp; exact zO hK
 refine zS (fun w' hS hV K hK => ?_) ?_
 · have e4 := zQ hV 4; have e5 := zQ hV 5; have q2 := hS.1; obtain ⟨q0, q1⟩ := hS.2.1.two; go_simp; exact zO hK
 refine zS (fun w' hS hV K hK => ?_) ?_
 · have e4 := zQ hV 4; have q2 := hS.1; obtain ⟨q0, q1⟩ := hS.2.1.two; go_simp; exact zO hK
 refine zS (fun w' hS hV K hK => ?_) ?_
 · have e4 := zQ hV 4; have e7 := zQ hV 7; have q2 := hS.1; obtain ⟨q0, q1⟩ := hS.2.1.two; go_simp; refine (HDS.out w').mono ?_; rintro e v1 ⟨rfl, hb⟩; exact hK.out _ _ _ rfl rfl rfl hb
 refine zS (fun w' hS hV K hK => ?_) ?_
 · have e4 := zQ hV 4; have e6 := zQ hV 6; have e8 := zQ hV 8; have q2 := hS.1; obtain ⟨q0, q1⟩ := hS.2.1.two; go_simp; exact zO hK
 refine zS (fun w' hS hV K hK => ?_) ?_
 · have e4 := zQ hV 4; have e9 := zQ hV 9; have q2 := hS.1; obtain ⟨q0, q1⟩ := hS.2.1.two; go_simp; exact zO hK
 refine zS (fun w' hS hV K hK => ?_) ?_
 · have e10 := zQ hV 10; have q2 := hS.1; obtain ⟨q0, q1⟩ := hS.2.1.two; go_simp; exact zO hK
 refine zS (fun w' hS hV K hK => ?_) ?_
 · have e11 := zQ hV 11; have q2 := hS.1; obtain ⟨q0, q1⟩ := hS.2.1.two; go_simp; exact zO hK
 refine zS (fun w' hS hV K hK => ?_) ?_
 · have e11 := zQ hV 11; have e12 := zQ hV 12; have q2 := hS.1; obtain ⟨q0, q1⟩ := hS.2.1.two; go_simp; exact zO hK
 refine zS (fun w' hS hV K hK => ?_) ?_
 · have e11 := zQ hV 11; have e13 := zQ hV 13; have q2 := hS.1; obtain ⟨q0, q1⟩ := hS.2.1.two; go_simp; exact zO hK
 refine zS (fun w' hS hV K hK => ?_) ?_
 · have e11 := zQ hV 11; have e14 := zQ hV 14; have q2 := hS.1; obtain ⟨q0, q1⟩ := hS.2.1.two; go_simp; exact zO hK
 refine zS (fun w' hS hV K hK => ?_) ?_
 · have e11 := zQ hV 11; have q2 := hS.1; obtain ⟨q0, q1⟩ := hS.2.1.two; go_simp; exact zO hK
 refine zS (fun w' hS hV K hK => ?_) ?_
 · have e11 := zQ hV 11; have e16 := zQ hV 16; have q2 := hS.1; obtain ⟨q0, q1⟩ := hS.2.1.two; go_simp; refine (HDS.out w').mono ?_; rintro e v1 ⟨rfl, hb⟩; exact hK.out _ _ _ rfl rfl rfl hb
 refine zS (fun w' hS hV K hK => ?_) ?_
 · have e11 := zQ hV 11; have e15 := zQ hV 15; have e17 := zQ hV 17; have q2 := hS.1; obtain ⟨q0, q1⟩ := hS.2.1.two; go_simp; exact zO hK
 refine zS (fun w' hS hV K hK => ?_) ?_
 · have e11 := zQ hV 11; have e18 := zQ hV 18; have q2 := hS.1; obtain ⟨q0, q1⟩ := hS.2.1.two; go_simp; exact zO hK
 refine zS (fun w' hS hV K hK => ?_) ?_
 · have e19 := zQ hV 19; have q2 := hS.1; obtain ⟨q0, q1⟩ := hS.2.1.two; go_simp; exact zO hK
 refine fun w' hS hV => ?_
 have e0 := zT hV 0
 have e1 := zT hV 1
 have e2 := zT hV 2
 have e3 := zT hV 3
 have e4 := zT hV 4
 have e5 := zT hV 5
 have e6 := zT hV 6
 have e7 := zT hV 7
 have e8 := zT hV 8
 have e9 := zT hV 9
 have e10 := zT hV 10
 have e11 := zT hV 11
 have e12 := zT hV 12
 have e13 := zT hV 13
 have e14 := zT hV 14
 have e15 := zT hV 15
 have e16 := zT hV 16
 have e17 := zT hV 17
 have e18 := zT hV 18
 have e19 := zT hV 19
 have e20 := zT hV 20
 simp only [e0, e1, e2, e3, e4, e5, e6, e7, e8, e9, e10, e11, e12, e13, e14, e15, e16, e17, e18, e19, e20]
 clear e0 e1 e2 e3 e4 e5 e6 e7 e8 e9 e10 e11 e12 e13 e14 e15 e16 e17 e18 e19 e20
 refine wpAny_done (by kernel_rfl) ?_ _
 have hb9 := hS.2.2
 go_wp2
 go_ret
 exact ⟨rfl, hb9⟩
theorem disMatrix_any (p : Int) (A : Option Addr) (k c : Nat) (D : Option Addr) (r d : Nat) (M : List (List Int)) (w : World) (hp0 : 0 < p) (hp1 : p ≤ 13) (hk : k ≤ 4) (hr : r ≤ 1048576) (hd : RdII w D r M) (hM : ∀ x ∈ M, x.length ≤ 1048576) :
    Calls Tryz.prog 99 #[.agg #[.int .i64 p, .slice A k c], .slice D r d] w fun e w' => e = .returned (.bool (isMx p k M)) ∧ Below w.heap.size w w' := by
 unfold isMx
 rw [hd.len]
 cases hb : (decide (0 < r) && isTb p M)
 · exact isMx_0 p A k c D r d M w hp0 hp1 hk hr hd hM hb
 · by_cases h1 : r = pw k
   · by_cases h2 : (M.getD 0 []).length = pw k
     · rw [show (r == pw k) = true by simpa using h1, show ((M.getD 0 []).length == pw k) = true by simpa using h2]; exact isMx_3 p A k c D r d M w hp0 hp1 hk hr hd hM hb h1 h2
     · rw [show (r == pw k) = true by simpa using h1, show ((M.getD 0 []).length == pw k) = false by simpa using h2]; exact isMx_2 p A k c D r d M w hp0 hp1 hk hr hd hM hb h1 h2
   · rw [show (r == pw k) = false by simpa using h1]; exact isMx_1 p A k c D r d M w hp0 hp1 hk hr hd hM hb h1
/-- The code for a doubling of at most three steps, elements and matrices. -/
def codeT (p : Int) (st : List Int) (yss : List (List Int)) (mss : List (List (List Int))) : Int := if isDb p st = true then (if 3 < st.length then 3 else if codeD p st yss ≠ 0 ∨ (mss.any fun m => !isMx p st.length m) = true then 2 else 0) else 1
def okM3 (M : List (List Int)) : Prop := M.length ≤ 1048576 ∧ ∀ x ∈ M, x.length ≤ 1048576
set_option maxHeartbeats 800000 in
set_option maxRecDepth 8000 in
theorem notMx (p : Int) (k : Nat) (g : Nat) (A : Option Addr) (c : Nat) (w : World) (hk4 : k ≤ 4) (hp0 : 0 < p) (hp1 : p ≤ 13) (hk : Blk w g 26 #[.int .i64 p, .slice A k c]) :
    TellsM3 98 #[.pointer (some ⟨g, 0, none⟩)] w (fun m => !isMx p k m) okM3 := by
 intro w' D m d ys hb hr hm
 have k0 := hk.below hb hk.lt
 obtain ⟨q0, q1⟩ := k0.two
 have hml : m ≤ 1048576 := by have := hr.len; have := hm.1; omega
 have his := disMatrix_any p A k c D m d ys w' hp0 hp1 hk4 hml hr hm.2
 obtain ⟨b, hb'⟩ : ∃ b, b = isMx p k ys := ⟨_, rfl⟩
 have HB := Lib.hid hb'
 rw [← hb'] at his
 clear hb' hm hr
 simp only [List.append_toArray, List.cons_append, List.nil_append]
 go_enter Tryz.func98, Tryz.ntmps98
 go_wp2_with fail
 refine his.mono ?_
 rintro e w1 ⟨rfl, hb1⟩
 go_wp2
 go_ret
 exact ⟨ret_bool (by rw [← HB.out]), hb1⟩
set_option maxHeartbeats 1600000 in
set_option maxRecDepth 8000 in
theorem checkThree_any (p : Int) (A B C : Option Addr) (k c m d l dl : Nat) (st : List Int) (yss : List (List Int)) (mss : List (List (List Int))) (w : World) (hk6 : k ≤ 65536) (hm : m ≤ 1048576) (hl : l ≤ 1048576) (ha : Rd w A k (ints st)) (hb : RdII w B m yss) (hys : ∀ ys ∈ yss, ys.length ≤ 1048576) (hc : RdM3 w C l mss) (hms : ∀ M ∈ mss, okM3 M) :
    Calls Tryz.prog 41 #[.agg #[.int .i64 p, .slice A k c], .slice B m d, .slice C l dl] w fun e w' => e = .returned (.int .i64 (codeT p st yss mss)) ∧ Below w.heap.size w w' := by
 have hB0 : Below w.heap.size w (w.alloc (.cells #[.int .i64 p, .slice A k c] 26)) := zG.alloc (Nat.le_refl _) _
 have k0 : Blk (w.alloc (.cells #[.int .i64 p, .slice A k c] 26)) w.heap.size 26 #[.int .i64 p, .slice A k c] := Blk.new _ _ _
 have his := IsDoubling_any p A k c st (w.alloc (.cells #[.int .i64 p, .slice A k c] 26)) hk6 (ha.below hB0)
 have hln : st.length = k := ha.lenI
 obtain ⟨R, hR⟩ : ∃ R, R = codeT p st yss mss := ⟨_, rfl⟩
 rw [← hR]
 obtain ⟨q0, q1⟩ := k0.two
 cases hdb : isDb p st
 · have HR : Hid (R = 1) := Lib.hid (by rw [hR]; unfold codeT; rw [if_neg (by rw [hdb]; decide)])
   rw [hdb] at his
   clear hR hdb hln
   go_enter Tryz.func41, Tryz.ntmps41
   go_wp2_with fail
   refine his.mono ?_
   rintro e w1 ⟨rfl, hb1⟩
   go_wp2
   go_ret
   exact ⟨by rw [HR.out]; rfl, hB0.trans (hb1.mono hB0.size)⟩
 rw [hdb] at his
 by_cases h3 : 3 < k
 · have HR : Hid (R = 3) := Lib.hid (by rw [hR]; unfold codeT; rw [if_pos hdb, if_pos (by omega)])
   have t3 : decide ((3 : Int) < (k : Int)) = true := by simp; omega
   clear hR hdb hln
   go_enter Tryz.func41, Tryz.ntmps41
   go_wp2_with fail
   refine his.mono ?_
   rintro e w1 ⟨rfl, hb1⟩
   have k1 := k0.below hb1 k0.lt
   have hB1 := hB0.trans (hb1.mono hB0.size)
   clear q0 q1 his hb1 k0 hB0
   obtain ⟨q0, q1⟩ := k1.two
   go_wp2
   go_ret
   exact ⟨by rw [HR.out]; rfl, hB1⟩
 have t3 : decide ((3 : Int) < (k : Int)) = false := by simp; omega
 obtain ⟨hP, -, hnum⟩ := isDb_facts hdb
 have hge := isP_ge hP
 have hch := fun w' (h : Below w.heap.size w w') => checkElements_any p A B k c m d st yss w' hk6 hm (ha.below h) (hb.below h) hys
 by_cases hcd : codeD p st yss = 0
 · have HR : Hid (R = if (mss.any fun m => !isMx p k m) = true then 2 else 0) := Lib.hid (by
    rw [hR]; unfold codeT
    rw [if_pos hdb, if_neg (by omega), hcd, hln]
    simp)
   rw [hcd] at hch
   clear hR hdb hln hcd hP hnum
   go_enter Tryz.func41, Tryz.ntmps41
   go_wp2_with fail
   refine his.mono ?_
   rintro e w1 ⟨rfl, hb1⟩
   have k1 := k0.below hb1 k0.lt
   have hB1 := hB0.trans (hb1.mono hB0.size)
   clear q0 q1 his hb1 k0 hB0
   obtain ⟨q0, q1⟩ := k1.two
   go_wp2_with fail
   refine (hch _ hB1).mono ?_
   rintro e w2 ⟨rfl, hb2⟩
   have k2 := k1.below hb2 k1.lt
   have hB2 := hB1.trans (hb2.mono hB1.size)
   clear q0 q1 hb2 k1 hB1 hch
   obtain ⟨q0, q1⟩ := k2.two
   have hT := notMx p k w.heap.size A c w2 (by omega) (by omega) (by omega) k2
   go_wp2_with fail
   refine (ContainsFuncM3_any _ _ _ _ _ _ _ _ _ (by omega) (hc.below hB2) hms hT (fun _ _ => rfl)).mono ?_
   rintro e w3 ⟨rfl, hb3⟩
   have hB3 := hB2.trans (hb3.mono hB2.size)
   cases ht : (mss.any fun m => !isMx p k m)
   · rw [ht] at HR
     go_wp2
     go_ret
     exact ⟨by rw [HR.out]; rfl, hB3⟩
   · rw [ht] at HR
     go_wp2
     go_ret
     exact ⟨by rw [HR.out]; rfl, hB3⟩
 · have HR : Hid (R = 2) := Lib.hid (by
    rw [hR]; unfold codeT
    rw [if_pos hdb, if_neg (by omega), if_pos (.inl hcd)])
   obtain ⟨cd, hcd2⟩ : ∃ cd, cd = codeD p st yss := ⟨_, rfl⟩
   rw [← hcd2] at hch hcd
   have t5 : (cd == 0) = false := by simpa using hcd
   have t6 : (cd != 0) = true := by simpa using hcd
   clear hR hdb hln hcd hcd2 hP hnum
   go_enter Tryz.func41, Tryz.ntmps41
   go_wp2_with fail
   refine his.mono ?_
   rintro e w1 ⟨rfl, hb1⟩
   have k1 := k0.below hb1 k0.lt
   have hB1 := hB0.trans (hb1.mono hB0.size)
   clear q0 q1 his hb1 k0 hB0
   obtain ⟨q0, q1⟩ := k1.two
   go_wp2_with fail
   refine (hch _ hB1).mono ?_
   rintro e w2 ⟨rfl, hb2⟩
   have hB2 := hB1.trans (hb2.mono hB1.size)
   go_wp2
   go_ret
   exact ⟨by rw [HR.out]; rfl, hB2⟩
theorem codeT_none (p : Int) (st : List Int) : codeT p st [] [] = if isDb p st = true then (if 3 < st.length then 3 else 0) else 1 := by
 unfold codeT codeD
 cases h : isDb p st
 · rfl
 · simp
set_option maxHeartbeats 1600000 in
set_option maxRecDepth 8000 in
theorem l14Code_any (p : Int) (A : Option Addr) (k c : Nat) (st : List Int) (w : World) (hk6 : k ≤ 1048576) (ha : Rd w A k (ints st)) :
    Calls Tryz.prog 42 #[.agg #[.int .i64 p, .slice A k c]] w fun e w' => e = .returned (.int .i64 (codeT p st [] [])) ∧ Below w.heap.size w w' := by
 have hB0 : Below w.heap.size w (w.alloc (.cells #[.int .i64 p, .slice A k c] 26)) := zG.alloc (Nat.le_refl _) _
 have k0 : Blk (w.alloc (.cells #[.int .i64 p, .slice A k c] 26)) w.heap.size 26 #[.int .i64 p, .slice A k c] := Blk.new _ _ _
 have his := l11Is_any p A k c st (w.alloc (.cells #[.int .i64 p, .slice A k c] 26)) hk6 (ha.below hB0)
 have hln : st.length = k := ha.lenI
 obtain ⟨R, hR⟩ : ∃ R, R = codeT p st [] [] := ⟨_, rfl⟩
 rw [← hR]
 rw [codeT_none, hln] at hR
 obtain ⟨q0, q1⟩ := k0.two
 cases hdb : isDb p st
 · have HR : Hid (R = 1) := Lib.hid (by rw [hR, hdb]; rfl)
   rw [hdb] at his
   clear hR hdb hln
   go_enter Tryz.func42, Tryz.ntmps42
   go_wp2_with fail
   refine his.mono ?_
   rintro e w1 ⟨rfl, hb1⟩
   go_wp2
   go_ret
   exact ⟨by rw [HR.out]; rfl, hB0.trans (hb1.mono hB0.size)⟩
 rw [hdb] at his
 by_cases h3 : 3 < k
 · have HR : Hid (R = 3) := Lib.hid (by rw [hR, hdb, if_pos rfl, if_pos h3])
   have t3 : decide ((3 : Int) < (k : Int)) = true := by simp; omega
   clear hR hdb hln
   go_enter Tryz.func42, Tryz.ntmps42
   go_wp2_with fail
   refine his.mono ?_
   rintro e w1 ⟨rfl, hb1⟩
   have k1 := k0.below hb1 k0.lt
   have hB1 := hB0.trans (hb1.mono hB0.size)
   clear q0 q1 his hb1 k0 hB0
   obtain ⟨q0, q1⟩ := k1.two
   go_wp2
   go_ret
   exact ⟨by rw [HR.out]; rfl, hB1⟩
 · have HR : Hid (R = 0) := Lib.hid (by rw [hR, hdb, if_pos rfl, if_neg h3])
   have t3 : decide ((3 : Int) < (k : Int)) = false := by simp; omega
   clear hR hdb hln
   go_enter Tryz.func42, Tryz.ntmps42
   go_wp2_with fail
   refine his.mono ?_
   rintro e w1 ⟨rfl, hb1⟩
   have k1 := k0.below hb1 k0.lt
   have hB1 := hB0.trans (hb1.mono hB0.size)
   clear q0 q1 his hb1 k0 hB0
   obtain ⟨q0, q1⟩ := k1.two
   go_wp2
   go_ret
   exact ⟨by rw [HR.out]; rfl, hB1⟩
theorem isEl_of {p : Int} {k : Nat} {ys : List Int} (h : isEl p k ys = true) : ys.length = pw k ∧ NumsL p ys := by
 unfold isEl at h
 rw [Bool.and_eq_true] at h
 exact ⟨by have := h.1; simp at this; omega, nums_numsL h.2⟩
theorem codeT_zero {p : Int} {st : List Int} {yss : List (List Int)} {mss : List (List (List Int))} (h : codeT p st yss mss = 0) : isDb p st = true ∧ st.length ≤ 3 ∧ (∀ ys ∈ yss, ys.length = pw st.length ∧ NumsL p ys) ∧ ∀ m ∈ mss, isMx p st.length m = true := by
 unfold codeT at h
 split at h
 · rename_i hdb
   split at h
   · omega
   · rename_i h3
     split at h
     · omega
     · rename_i h2
       refine ⟨hdb, by omega, fun ys hy => ?_, fun m hm => ?_⟩
       · refine isEl_of ?_
         cases he : isEl p st.length ys
         · exact absurd (.inl (by unfold codeD; rw [if_pos hdb, if_pos (List.any_eq_true.2 ⟨ys, hy, by rw [he]; rfl⟩)]; decide)) h2
         · rfl
       · cases he : isMx p st.length m
         · exact absurd (.inr (List.any_eq_true.2 ⟨m, hm, by rw [he]; rfl⟩)) h2
         · rfl
 · omega
theorem codeT_two (p : Int) (st : List Int) (yss : List (List Int)) : codeT p st yss [] = if codeT p st [] [] = 0 then codeD p st yss else codeT p st [] [] := by
 rw [codeT_none]
 unfold codeT
 cases hdb : isDb p st
 · rfl
 · by_cases h3 : 3 < st.length
   · simp [h3]
   · have : codeD p st yss = 0 ∨ codeD p st yss = 2 := by unfold codeD; rw [if_pos hdb]; split <;> simp
     rcases this with e | e <;> simp [h3, e]
theorem innM_tab {p : Int} (hp : 0 < p) (k : Nat) (st x y : List Int) : Tab p (pw k) (innM p k st x y) := by
 have h : Tab p (pw k) (tab (pw k) fun i => innL p k st x y (unitRow (pw k) i)) := Tab.tab fun i _ => ⟨innL_len _ _ _ _ _ _, innL_nums hp _ _ _ _ _⟩
 have := transL_tab hp h
 rwa [tab_len] at this
theorem innM_len {p : Int} (hp : 0 < p) (k : Nat) (st x y : List Int) : (innM p k st x y).length = pw k := by
 have h : Tab p (pw k) (tab (pw k) fun i => innL p k st x y (unitRow (pw k) i)) := Tab.tab fun i _ => ⟨innL_len _ _ _ _ _ _, innL_nums hp _ _ _ _ _⟩
 exact transL_len h (by rw [tab_len]; exact pw_pos k)
set_option maxHeartbeats 1600000 in
set_option maxRecDepth 8000 in
theorem l11Code_any (p : Int) (A B : Option Addr) (k c m d : Nat) (st : List Int) (yss : List (List Int)) (w : World) (hk6 : k ≤ 1048576) (hm : m ≤ 1048576) (ha : Rd w A k (ints st)) (hb : RdII w B m yss) (hys : ∀ ys ∈ yss, ys.length ≤ 1048576) :
    Calls Tryz.prog 110 #[.agg #[.int .i64 p, .slice A k c], .slice B m d] w fun e w' => e = .returned (.int .i64 (codeD p st yss)) ∧ Below w.heap.size w w' := by
 have hB0 : Below w.heap.size w (w.alloc (.cells #[.int .i64 p, .slice A k c] 26)) := zG.alloc (Nat.le_refl _) _
 have k0 : Blk (w.alloc (.cells #[.int .i64 p, .slice A k c] 26)) w.heap.size 26 #[.int .i64 p, .slice A k c] := Blk.new _ _ _
 have his := l11Is_any p A k c st (w.alloc (.cells #[.int .i64 p, .slice A k c] 26)) hk6 (ha.below hB0)
 have hln : st.length = k := ha.lenI
 obtain ⟨R, hR⟩ : ∃ R, R = codeD p st yss := ⟨_, rfl⟩
 rw [← hR]
 obtain ⟨q0, q1⟩ := k0.two
 cases hdb : isDb p st
 · have HR : Hid (R = 1) := Lib.hid (by rw [hR]; unfold codeD; rw [hdb]; rfl)
   rw [hdb] at his
   clear hR hdb hln
   go_enter Tryz.func110, Tryz.ntmps110
   go_wp2_with fail
   refine his.mono ?_
   rintro e w1 ⟨rfl, hb1⟩
   go_wp2
   go_ret
   exact ⟨by rw [HR.out]; rfl, hB0.trans (hb1.mono hB0.size)⟩
 rw [hdb] at his
 obtain ⟨HP, hk4, -⟩ := isDb_facts hdb
 obtain ⟨hp3, hp2⟩ := isP_ge HP
 rw [hln] at hk4
 have HR : Hid (R = if (yss.any fun ys => !isEl p k ys) = true then 2 else 0) := Lib.hid (by rw [hR]; unfold codeD; rw [hdb, hln]; rfl)
 have HML := Lib.hid hb.len
 clear hR hdb hln HP
 go_enter Tryz.func110, Tryz.ntmps110
 go_wp2_with fail
 refine his.mono ?_
 rintro e w1 ⟨rfl, hb1⟩
 have k1 := k0.below hb1 k0.lt
 have hB1 := hB0.trans (hb1.mono hB0.size)
 clear q0 q1 his hb1 k0 hB0
 go_wp2
 go_loopw [5] (fun i wr => ∃ j : Nat, j ≤ m ∧ i = .int .i64 j ∧ Below w.heap.size w wr ∧ Blk wr w.heap.size 26 #[.int .i64 p, .slice A k c] ∧ Hid ((yss.take j).any (fun ys => !isEl p k ys) = false)) (fun i _ => m - (intOf i).toNat)
 case atStart => exact ⟨0, by omega, rfl, hB1, k1, Lib.hid rfl⟩
 case round =>
  obtain ⟨j, hj, rfl, hBr, k4, HT⟩ := hrel
  clear hB1 k1
  obtain ⟨q0, q1⟩ := k4.two
  by_cases hlt : j < m
  · obtain ⟨gb, ob, rfl, hxj, Aj, cj, hcj, hrj, -⟩ := (hb.below hBr).at_ hlt
    have hlj := hys _ (List.getElem_mem hxj)
    obtain ⟨nj, hnj⟩ : ∃ z, z = yss[j].length := ⟨_, rfl⟩
    rw [← hnj] at hcj hrj hlj
    have hel := fun w' (h : Below wr.heap.size wr w') => l11Element_any p A Aj k c nj cj yss[j] w' hk4 hlj (by omega) hp2 (hrj.below h)
    obtain ⟨b, hbe⟩ : ∃ b, b = isEl p k yss[j] := ⟨_, rfl⟩
    rw [← hbe] at hel
    have HBE := Lib.hid hbe
    have HEL := Lib.hid hel
    have HBR := Lib.hid hBr
    clear hrj hnj hel hbe hlj hb hys q0 q1 ha hBr
    go_wp2
    refine wp_obs 7 [[],[],[],[1,2],[1,2,3],[0,1,2,3,4],[0,1,2,3,4,5]] [VIs (.agg #[.int .i64 p, .slice A k c]), VIs (.slice (some ⟨gb, ob, none⟩) m d), VIs (.int .i64 (j)), VIs (.pointer (some ⟨gb, ob + j, none⟩)), VIs (.slice Aj nj cj), VIs (.bool b), VIs (.bool (!b))] (fun w' => Blk w' w.heap.size 26 #[.int .i64 p, .slice A k c] ∧ w'.cell? ⟨gb, ob + j, none⟩ = some (.slice Aj nj cj) ∧ Below wr.heap.size wr w') (by kernel_rfl) (by kernel_rfl) (fun _ _ h hb => ⟨h.1.below hb h.1.lt, (hb.cell (World.block_lt_of_cell? _ _ h.2.1)).trans h.2.1, h.2.2.trans (hb.mono h.2.2.size)⟩) (⟨k4.drew, hcj, zG.drew⟩) (fun x => ?_)
    refine zS (fun w' hS hV K hK => ?_) ?_
    · obtain ⟨q0, q1⟩ := hS.1.two; have q2 := hS.2.1; go_simp; exact zO hK
    refine zS (fun w' hS hV K hK => ?_) ?_
    · obtain ⟨q0, q1⟩ := hS.1.two; have q2 := hS.2.1; go_simp; exact zO hK
    refine zS (fun w' hS hV K hK => ?_) ?_
    · obtain ⟨q0, q1⟩ := hS.1.two; have q2 := hS.2.1; go_simp; exact zO hK
    refine zS (fun w' hS hV K hK => ?_) ?_
    · have e1 := zQ hV 1; have e2 := zQ hV 2; obtain ⟨q0, q1⟩ := hS.1.two; have q2 := hS.2.1; go_simp; exact zO hK
    refine zS (fun w' hS hV K hK => ?_) ?_
    · have e3 := zQ hV 3; obtain ⟨q0, q1⟩ := hS.1.two; have q2 := hS.2.1; go_simp; exact zO hK
    refine zS (fun w' hS hV K hK => ?_) ?_
    · have e0 := zQ hV 0; have e4 := zQ hV 4; obtain ⟨q0, q1⟩ := hS.1.two; have q2 := hS.2.1; go_simp; refine (HEL.out w' hS.2.2).mono ?_; rintro e v1 ⟨rfl, hb9⟩; exact hK.out _ _ _ rfl rfl rfl hb9
    refine zS (fun w' hS hV K hK => ?_) ?_
    · have e5 := zQ hV 5; obtain ⟨q0, q1⟩ := hS.1.two; have q2 := hS.2.1; go_simp; exact zO hK
    refine fun w' hS hV => ?_
    have e0 := zT hV 0
    have e1 := zT hV 1
    have e2 := zT hV 2
    have e3 := zT hV 3
    have e4 := zT hV 4
    have e5 := zT hV 5
    have e6 := zT hV 6
    simp only [e0, e1, e2, e3, e4, e5, e6]
    clear e0 e1 e2 e3 e4 e5 e6
    refine wpAny_done (by kernel_rfl) ?_ _
    obtain ⟨k5, -, s5⟩ := hS
    have hB6 := HBR.out.trans (s5.mono HBR.out.size)
    clear k4 hcj
    cases b
    · go_wp2
      go_ret
      exact ⟨by rw [HR.out, if_pos (List.any_eq_true.2 ⟨_, List.getElem_mem hxj, by rw [← HBE.out]; rfl⟩)]; rfl, hB6⟩
    · go_wp2
      go_roundw
      case rel => exact ⟨j + 1, by omega, by go_num, hB6, k5, Lib.hid (by rw [List.take_succ_eq_append_getElem hxj, List.any_append, HT.out]; simp [← HBE.out])⟩
      case measure => simp [intOf]; omega
  · go_wp2
    go_ret
    obtain rfl : j = m := by omega
    have := HT.out
    rw [List.take_of_length_le (by have := HML.out; omega)] at this
    exact ⟨by rw [HR.out, this]; rfl, hBr⟩
set_option maxHeartbeats 1600000 in
set_option maxRecDepth 8000 in
theorem l14Elements_any (p : Int) (A B : Option Addr) (k c m d : Nat) (st : List Int) (yss : List (List Int)) (w : World) (hk6 : k ≤ 65536) (hm : m ≤ 1048576) (ha : Rd w A k (ints st)) (hb : RdII w B m yss) (hys : ∀ ys ∈ yss, ys.length ≤ 1048576) :
    Calls Tryz.prog 54 #[.agg #[.int .i64 p, .slice A k c], .slice B m d] w fun e w' => e = .returned (.int .i64 (codeT p st yss [])) ∧ Below w.heap.size w w' := by
 have hB0 : Below w.heap.size w (w.alloc (.cells #[.int .i64 p, .slice A k c] 26)) := zG.alloc (Nat.le_refl _) _
 have k0 : Blk (w.alloc (.cells #[.int .i64 p, .slice A k c] 26)) w.heap.size 26 #[.int .i64 p, .slice A k c] := Blk.new _ _ _
 have h14 := l14Code_any p A k c st (w.alloc (.cells #[.int .i64 p, .slice A k c] 26)) (by omega) (ha.below hB0)
 have h11 := fun w' (h : Below w.heap.size w w') => l11Code_any p A B k c m d st yss w' (by omega) hm (ha.below h) (hb.below h) hys
 have hcT := codeT_two p st yss
 obtain ⟨R, hR⟩ : ∃ R, R = codeT p st yss [] := ⟨_, rfl⟩
 obtain ⟨a, hae⟩ : ∃ a, a = codeT p st [] [] := ⟨_, rfl⟩
 obtain ⟨b, hbe⟩ : ∃ b, b = codeD p st yss := ⟨_, rfl⟩
 rw [← hR, ← hae, ← hbe] at hcT
 rw [← hae] at h14
 rw [← hbe] at h11
 rw [← hR]
 clear hR hae hbe
 obtain ⟨q0, q1⟩ := k0.two
 by_cases h0 : a = 0
 · rw [if_pos h0] at hcT
   subst h0 hcT
   go_enter Tryz.func54, Tryz.ntmps54
   go_wp2_with fail
   refine h14.mono ?_
   rintro e w1 ⟨rfl, hb1⟩
   have k1 := k0.below hb1 k0.lt
   have hB1 := hB0.trans (hb1.mono hB0.size)
   clear q0 q1 h14 hb1 k0 hB0
   obtain ⟨q0, q1⟩ := k1.two
   go_wp2_with fail
   refine (h11 _ hB1).mono ?_
   rintro e w2 ⟨rfl, hb2⟩
   go_wp2
   go_ret
   exact ⟨rfl, hB1.trans (hb2.mono hB1.size)⟩
 · rw [if_neg h0] at hcT
   subst hcT
   have hne : (R == 0) = false := by simpa using h0
   go_enter Tryz.func54, Tryz.ntmps54
   go_wp2_with fail
   refine h14.mono ?_
   rintro e w1 ⟨rfl, hb1⟩
   clear h11
   go_wp2
   go_ret
   exact ⟨rfl, hB0.trans (hb1.mono hB0.size)⟩
/-- InnerDerivation. -/
def indR (p : Int) (st xs ys : List Int) : List (List Int) × Int := if codeT p st [xs, ys] [] = 0 then (innM p st.length st xs ys, 0) else ([], codeT p st [xs, ys] [])
set_option maxHeartbeats 1600000 in
set_option maxRecDepth 8000 in
theorem InnerDerivation_any (p : Int) (A : Option Addr) (k c : Nat) (st : List Int) (X : Option Addr) (n cx : Nat) (xs : List Int) (Y : Option Addr) (m cy : Nat) (ys : List Int) (w : World) (hk6 : k ≤ 65536) (hc : k ≤ c) (hn : n ≤ 1048576) (hcx : n ≤ cx) (hm : m ≤ 1048576) (hcy : m ≤ cy) (ha : Rd w A k (ints st)) (hx : Rd w X n (ints xs)) (hy : Rd w Y m (ints ys)) :
    Calls Tryz.prog 16 #[.agg #[.int .i64 p, .slice A k c], .slice X n cx, .slice Y m cy] w fun e w' => ∃ A' c', e = .returned (.tuple #[.slice A' (indR p st xs ys).1.length c', .int .i64 (indR p st xs ys).2]) ∧ MkII w w' A' (indR p st xs ys).1.length c' (indR p st xs ys).1 := by
 have hB1 : Below w.heap.size w ((((w.alloc (.cells #[.int .i64 p, .slice A k c] 26)).alloc (.cells #[.slice X n cx] 24)).alloc (.cells #[.slice Y m cy] 24)).alloc (.cells #[.slice X n cx, .slice Y m cy] 24)) := (((zG.alloc (Nat.le_refl _) _).alloc (by simp) _).alloc (by simp; omega) _).alloc (by simp; omega) _
 have k1 := (((Blk.new w 26 #[.int .i64 p, .slice A k c]).alloc (.cells #[.slice X n cx] 24)).alloc (.cells #[.slice Y m cy] 24)).alloc (.cells #[.slice X n cx, .slice Y m cy] 24)
 have kx := ((Blk.newAt3 (w := (w.alloc (.cells #[.int .i64 p, .slice A k c] 26))) (g := w.heap.size + 1) (t := 24) (cs := #[.slice X n cx]) (by simp)).alloc (.cells #[.slice Y m cy] 24)).alloc (.cells #[.slice X n cx, .slice Y m cy] 24)
 have ky := (Blk.newAt3 (w := (w.alloc (.cells #[.int .i64 p, .slice A k c] 26)).alloc (.cells #[.slice X n cx] 24)) (g := w.heap.size + 2) (t := 24) (cs := #[.slice Y m cy]) (by simp)).alloc (.cells #[.slice X n cx, .slice Y m cy] 24)
 have hck := checkThree_any p A (some ⟨w.heap.size + 3, 0, none⟩) none k c 2 2 0 0 st [xs, ys] [] ((((w.alloc (.cells #[.int .i64 p, .slice A k c] 26)).alloc (.cells #[.slice X n cx] 24)).alloc (.cells #[.slice Y m cy] 24)).alloc (.cells #[.slice X n cx, .slice Y m cy] 24)) hk6 (by omega) (by omega) (ha.below hB1) (rdII_two (Blk.newAt3 (by simp)) (hx.below hB1) (hy.below hB1) hcx hcy) (all_two (by rw [hx.lenI]; omega) (by rw [hy.lenI]; omega)) (RdM3.nil _) (fun M hM => absurd hM (by simp))
 obtain ⟨z, hz⟩ : ∃ z, z = indR p st xs ys := ⟨_, rfl⟩
 rw [← hz]
 unfold indR at hz
 obtain ⟨cd, hcd⟩ : ∃ cd, cd = codeT p st [xs, ys] [] := ⟨_, rfl⟩
 rw [← hcd] at hck hz
 obtain ⟨q0, q1⟩ := k1.two
 have qx := kx.cell 0
 have qy := ky.cell 0
 by_cases h0 : cd = 0
 · rw [if_pos h0] at hz
   obtain ⟨hdb, hk3, hel, -⟩ := codeT_zero (hcd.symm.trans h0)
   obtain ⟨HP, -, hst⟩ := isDb_facts hdb
   obtain ⟨hp3, hp2⟩ := isP_ge HP
   rw [ha.lenI] at hk3 hel hz
   obtain ⟨e1, hxn⟩ := hel xs (by simp)
   obtain ⟨e2, hyn⟩ := hel ys (by simp)
   rw [hx.lenI] at e1
   rw [hy.lenI] at e2
   subst e1 e2 h0
   have hin := fun w' (h : Below w.heap.size w w') (k1 : Blk w' w.heap.size 26 #[.int .i64 p, .slice A k c]) (k2 : Blk w' (w.heap.size + 1) 24 #[.slice X (pw k) cx]) (k3 : Blk w' (w.heap.size + 2) 24 #[.slice Y (pw k) cy]) =>
    matrixOf_any 57 ⟨w.heap.size, 0, none⟩ ⟨w.heap.size + 1, 0, none⟩ ⟨w.heap.size + 2, 0, none⟩ (fun i => innL p k st xs ys (unitRow (pw k) i)) (fun _ _ => rfl) p A k c w' (by omega) (by omega) (fun i _ => ⟨innL_len _ _ _ _ _ _, innL_nums (by omega) _ _ _ _ _⟩)
     (fun i w2 Y2 cy2 hi hb2 hy2 hcy2 => innerAt_any p (by omega) hp2 k (by omega) A c st X cx xs Y cy ys Y2 cy2 (unitRow (pw k) i) w.heap.size (w.heap.size + 1) (w.heap.size + 2) w2 hc ((ha.below h).below hb2) hst ((hx.below h).below hb2) hxn hcx ((hy.below h).below hb2) hyn hcy hy2 (unitRow_nums (by omega) _ _) hcy2 (k1.below hb2 k1.lt) (k2.below hb2 k2.lt) (k3.below hb2 k3.lt))
   obtain ⟨M, hM⟩ : ∃ M, M = innM p k st xs ys := ⟨_, rfl⟩
   have hml : M.length = pw k := by rw [hM]; exact innM_len (by omega) _ _ _ _
   rw [← hM] at hz
   rw [show transL (tab (pw k) fun i => innL p k st xs ys (unitRow (pw k) i)) = M by rw [hM]; rfl] at hin
   rw [hz]
   have HIN := Lib.hid hin
   clear hcd hz hM hdb hel HP hst hxn hyn ha hx hy hin
   go_enter Tryz.func16, Tryz.ntmps16
   go_wp2_with fail
   refine hck.mono ?_
   rintro e w2 ⟨rfl, hb2⟩
   have k2 := k1.below hb2 k1.lt
   have kx2 := kx.below hb2 kx.lt
   have ky2 := ky.below hb2 ky.lt
   have hB2 := hB1.trans (hb2.mono hB1.size)
   clear q0 q1 qx qy hck k1 hb2 kx ky
   obtain ⟨q0, q1⟩ := k2.two
   go_wp2_with fail
   refine (HIN.out _ hB2 k2 kx2 ky2).mono ?_
   rintro e w3 ⟨A3, c3, rfl, hM3⟩
   go_wp2
   go_ret2
   show ∃ A' c', _ ∧ MkII w _ A' M.length c' M
   rw [hml]
   exact ⟨A3, c3, rfl, hM3.after hB2⟩
 · rw [if_neg h0] at hz
   have hne : (cd == 0) = false := by simpa using h0
   rw [hz]
   clear hcd hz
   go_enter Tryz.func16, Tryz.ntmps16
   go_wp2_with fail
   refine hck.mono ?_
   rintro e w2 ⟨rfl, hb2⟩
   go_wp2
   go_ret2
   exact ⟨_, _, rfl, MkII.nil (hB1.trans (hb2.mono hB1.size))⟩
/-- A list of matrices, each of the call's own. -/
def MkM3 (w0 w : World) (A : Option Addr) (n c : Nat) (mss : List (List (List Int))) : Prop := ∃ rows, Mk w0 w 32 A n c rows ∧ rows.length = mss.length ∧
 ∀ (k : Nat) (h : k < mss.length), ∃ A' c', rows[k]? = some (.slice A' mss[k].length c') ∧ MkII w0 w A' mss[k].length c' mss[k]
theorem MkII.grownBy {w0 w w' : World} {A : Option Addr} {n c : Nat} {xss : List (List Int)} (h : MkII w0 w A n c xss) {B : Nat} {A2 : Option Addr} {n2 c2 : Nat} {us : List Value} (ho : Own w w0.heap.size 32 A2 n2 c2 us) (hg : w.grownBy w' (Value.slice A2 n2 c2).ownBlock) : MkII w0 w' A n c xss := by
 obtain ⟨rows, hm, hn⟩ := h
 exact ⟨rows, ⟨hm.1.grown hg hm.1.size (fun k hk => (ho.lt k hk).1), hm.2.grown hg (hm.2.ne ho (by decide))⟩, hn.grown ho (by decide) hg⟩
theorem MkM3.rd {w0 w : World} {A : Option Addr} {n c : Nat} {mss : List (List (List Int))} (h : MkM3 w0 w A n c mss) : RdM3 w A n mss := by
 obtain ⟨rows, hm, hl, hk⟩ := h
 exact ⟨rows, hm.rd, hl, fun k hlt => by
  obtain ⟨A', c', e, ho⟩ := hk k hlt
  exact ⟨A', c', e, ho.rd, by obtain ⟨us, hm⟩ := ho.outer; exact hm.2.cap⟩⟩
theorem MkM3.below {w0 w w' : World} {A : Option Addr} {n c : Nat} {mss : List (List (List Int))} (h : MkM3 w0 w A n c mss) (hb : Below w.heap.size w w') : MkM3 w0 w' A n c mss := by
 obtain ⟨rows, hm, hl, hk⟩ := h
 exact ⟨rows, hm.below hb, hl, fun k hlt => by obtain ⟨A', c', e, ho⟩ := hk k hlt; exact ⟨A', c', e, ho.below hb⟩⟩
theorem MkM3.b {w0 w : World} {A : Option Addr} {n c : Nat} {mss : List (List (List Int))} (h : MkM3 w0 w A n c mss) : Below w0.heap.size w0 w := by
 obtain ⟨_, hm, _⟩ := h; exact hm.1
theorem MkM3.empty {w0 w : World} (h : Below w0.heap.size w0 w) : MkM3 w0 (w.alloc (.cells #[] 32)) (some ⟨w.heap.size, 0, none⟩) 0 0 [] := ⟨[], Mk.lit h #[] (by simp), rfl, fun k hk => absurd hk (by simp)⟩
theorem info_ss : (Tryz.prog.info? 32).map (fun i => (i.zero, i.size, i.bytes)) = some (some (.slice none 0 0), 1, 24) := by kernel_rfl
/-- A new matrix is appended. -/
theorem wpList_appM {ops : Array Oper} {rest : List Oper} {o : Oper} {a : Act} {Q : Exit → Act → World → Prop} (w0 w1 : World)
    (hgd : o.guard = none) (s x : Operand) (ho : o.op = .call { callee := .builtin .append, args := #[s, x], argTypes := #[52, 52] })
    (A : Option Addr) (n c : Nat) (mss : List (List (List Int))) (A1 : Option Addr) (m c1 : Nat) (M : List (List Int)) (hM : MkM3 w0 w1 A n c mss) (hr : MkII w0 w1 A1 m c1 M) (hn : n ≤ 1099511627776)
    (hs : a.eval s = .slice A n c) (hx : a.eval x = .slice (some ⟨w1.heap.size, 0, none⟩) 1 1)
    (h : ∀ A' c' w', MkM3 w0 w' A' (n + 1) c' (mss ++ [M]) → w1.grownBy w' (Value.slice A n c).ownBlock → (∃ g, A' = some ⟨g, 0, none⟩ ∧ ((Value.slice A n c).ownBlock = some g ∨ w1.heap.size ≤ g)) → wpList Tryz.prog ops Q rest (a.put o.dst (.slice A' (n + 1) c')) w') :
    wpList Tryz.prog ops Q (o :: rest) a (w1.alloc (.cells #[.slice A1 m c1] 32)) := by
 obtain ⟨rows, hm, hl, hrow⟩ := hM
 have hml : M.length = m := hr.len
 subst hml
 refine wpList_app1 w0 w1 52 32 (.slice none 0 0) 24 Tryz.underlying52 info_ss rfl (by omega) hgd s x ho A n c rows (.slice A1 M.length c1) hm hn rfl hs hx ?_
 intro A' c' w' hM' hg hat
 refine h A' c' w' ⟨_, hM', by simp [hl], fun k hk => ?_⟩ hg hat
 by_cases hlt : k < mss.length
 · obtain ⟨A2, c2, e, ho2⟩ := hrow k hlt
   simp only [List.getElem_append_left hlt]
   exact ⟨A2, c2, by rw [List.getElem?_append_left (by omega)]; exact e, ho2.grownBy (B := 0) hm.2 hg⟩
 · have hk' : k = mss.length := by simp at hk; omega
   subst hk'
   simp only [List.getElem_append_right (Nat.le_refl _), Nat.sub_self, List.getElem_cons_zero]
   exact ⟨A1, c1, by rw [List.getElem?_append_right (by omega), hl, Nat.sub_self]; rfl, hr.grownBy (B := 0) hm.2 hg⟩
theorem MkM3.ne_blk {w0 w : World} {A : Option Addr} {n c g : Nat} {mss : List (List (List Int))} {t : TypeId} {cs : Array Value} (h : MkM3 w0 w A n c mss) (hb : Blk w g t cs) (hE : 32 ≠ t) : some g ≠ (Value.slice A n c).ownBlock := by
 obtain ⟨rows, hm, _⟩ := h
 exact hm.2.ne_blk hb hE
theorem isDb_unit {p : Int} {st : List Int} (h : isDb p st = true) : ∀ b, b < st.length → st.getD b 0 % p ≠ 0 := fun b hb => by
 obtain ⟨HP, -, hn⟩ := isDb_facts h
 have h0 : st.contains 0 = false := by
  unfold isDb at h
  simp only [Bool.and_eq_true] at h
  simpa using h.2
 have hm : st.getD b 0 ∈ st := getD_mem 0 hb
 have := hn _ hm
 have hz : st.getD b 0 ≠ 0 := fun e => by
  rw [e] at hm
  have : st.contains 0 = true := List.contains_iff_mem.2 hm
  rw [h0] at this; cases this
 rw [Int.emod_eq_of_lt this.1 this.2]
 exact hz
end Go.Proofs.YtaiegpggccdgoaaGreat
namespace Go.Proofs.YtaiegpggccdgoaaGreat
section
variable {p : Int} {n : Nat} {M : List (List Int)}
/-- Powers in the ring. -/
def Mt.pw (x : Mt p n) : Nat → Mt p n
 | 0 => Mt.one x.pos
 | k + 1 => Mt.pw x k * x
end
section
variable {p : Int} {sq : List Int} {M : List (List Int)}
end
end Go.Proofs.YtaiegpggccdgoaaGreat
namespace Go.Proofs.YtaiegpggccdgoaaGreat
open Go.RowKit
set_option maxHeartbeats 400000 in
set_option maxRecDepth 8000 in
theorem likeInts_any (A B : Option Addr) (n m c d : Nat) (xs ys : List Int) (w : World) (hn : n ≤ 1099511627776) (hm : m ≤ 1099511627776)
    (ha : Rd w A n (ints xs)) (hb : Rd w B m (ints ys)) :
    Calls Tryz.prog 71 #[.slice A n c, .slice B m d] w fun e w' => e = .returned (.bool (decide (xs = ys))) ∧ ∃ j, w' = w.drewN j := by
 have hxl : xs.length = n := by have := ha.1; rwa [ints_length] at this
 have hyl : ys.length = m := by have := hb.1; rwa [ints_length] at this
 by_cases hnm : n = m
 · subst hnm
   have Hx := Lib.hid hxl; clear hxl
   have Hy := Lib.hid hyl; clear hyl
   go_enter Tryz.func71, Tryz.ntmps71
   go_wp2
   go_loopw [5] (fun i wr => ∃ k j : Nat, k ≤ n ∧ i = .int .i64 k ∧ xs.take k = ys.take k ∧ wr = w.drewN j) (fun i _ => n - (intOf i).toNat)
   case atStart => exact ⟨0, 0, by omega, rfl, by simp, rfl⟩
   case round =>
    obtain ⟨k, j, hk, rfl, hxy, rfl⟩ := hrel
    have H := Lib.hid hxy; clear hxy
    by_cases hlt : k < n
    · obtain ⟨g, o, rfl, hx, hcx⟩ := ha.int hlt
      obtain ⟨g', o', rfl, hy, hcy⟩ := hb.int hlt
      clear ha hb
      go_wp2
      go_quiet (fail)
      go_wp2
      · go_ret
        exact ⟨ret_bool (ne_of_get xs ys k hx hy (by assumption)).symm, _, World.drewN_drewN _ _ _⟩
      · go_roundw
        case rel => exact ⟨k + 1, _, by omega, by go_num, take_succ_eq xs ys k hx hy H.out (by simpa using (by assumption : (xs[k] != ys[k]) = false)), rfl⟩
        case measure => simp [intOf]; omega
    · go_wp2
      go_ret
      refine ⟨ret_bool ?_, _, rfl⟩
      have := H.out
      rw [List.take_of_length_le (by rw [Hx.out]; omega), List.take_of_length_le (by rw [Hy.out]; omega)] at this
      rw [this]; simp
 · have hne : decide (xs = ys) = false := by
    rw [decide_eq_false_iff_not]; rintro rfl; omega
   have Hne := Lib.hid hne; clear hne hxl hyl
   have hb0 : ((n : Int) != (m : Int)) = true := by rw [bne_iff_ne]; omega
   go_enter Tryz.func71, Tryz.ntmps71
   go_wp2
   go_ret
   exact ⟨ret_bool Hne.out.symm, 0, rfl⟩
/-- The sum of a matrix and a multiple of another one. -/
def sumL (p : Int) (U M : List (List Int)) (k : Int) : List (List Int) := tab U.length fun i => plusL p (U.getD i []) (M.getD i []) k
theorem sumL_len (p : Int) (U M : List (List Int)) (k : Int) : (sumL p U M k).length = U.length := tab_len _ _
theorem sumL_take {p : Int} {U M : List (List Int)} {k : Nat} {j : Int} (h : k < U.length) : (sumL p U M j).take (k + 1) = (sumL p U M j).take k ++ [plusL p (U.getD k []) (M.getD k []) j] := by
 have hl : k < (sumL p U M j).length := by rw [sumL_len]; exact h
 rw [List.take_succ_eq_append_getElem hl]
 congr 2
 rw [← getD_of_lt [] hl]
 unfold sumL
 rw [tab_getD h]
set_option maxHeartbeats 3200000 in
set_option maxRecDepth 8000 in
theorem sumG_any (p : Int) (U : Option Addr) (n cu : Nat) (U0 : List (List Int)) (A : Option Addr) (c : Nat) (M : List (List Int)) (kk : Int) (w : World) (hp : 2 ≤ p) (hp2 : p ≤ 13) (hn : n ≤ 65536) (hu : RdII w U n U0) (hU : Tab p n U0) (ha : RdII w A n M) (hT : Tab p n M) (hk1 : -1000 ≤ kk) (hk2 : kk ≤ 1000) :
    Calls Tryz.prog 52 #[.int .i64 p, .slice U n cu, .slice A n c, .int .i64 kk] w fun e w' => ∃ (A' : Option Addr) (c' : Nat), e = .returned (.slice A' n c') ∧ MkII w w' A' n c' (sumL p U0 M kk) := by
 have HM := Lib.hid hT
 have HU := Lib.hid hU
 have HOL : Hid ((sumL p U0 M kk).length = n) := Lib.hid ((sumL_len p U0 M kk).trans hu.len)
 obtain ⟨w3, hw3⟩ : ∃ W, W = w.alloc (.cells #[] 24) := ⟨_, rfl⟩
 have hA0 : Below w.heap.size w w3 := by rw [hw3]; exact zG.alloc (Nat.le_refl _) _
 have hO3 : MkII w w3 (some ⟨w.heap.size, 0, none⟩) 0 0 [] := by rw [hw3]; exact MkII.empty zG
 have hE3 : Blk w3 w.heap.size 24 #[] := by rw [hw3]; exact Blk.new _ _ _
 have a3 := ha.below hA0
 have u3 := hu.below hA0
 have hgr0 : Grows w3 w3 w.heap.size (.slice (some ⟨w.heap.size, 0, none⟩) 0 0) := ⟨CK.refl _, Nat.le_refl _, fun gb h => .inl (by simpa [Value.ownBlock] using h.symm)⟩
 clear hT hU ha hu
 go_enter Tryz.func52, Tryz.ntmps52
 go_wp2
 rw [← hw3]
 obtain ⟨g3, hg3⟩ : ∃ g, g = w.heap.size := ⟨_, rfl⟩
 rw [← hg3] at hO3 hE3 hgr0 ⊢
 clear hw3 hg3
 go_loopw [9, 14] (fun out i wr => ∃ (k : Nat) (A' : Option Addr) (c' : Nat), k ≤ n ∧ i = .int .i64 k ∧ out = .slice A' k c' ∧ MkII w wr A' k c' ((sumL p U0 M kk).take k) ∧ Grows w3 wr g3 (.slice A' k c')) (fun _ i _ => n - (intOf i).toNat)
 case atStart => exact ⟨0, _, _, by omega, rfl, rfl, by simpa using hO3, hgr0⟩
 case round =>
  obtain ⟨k, A', c', hk, rfl, rfl, hM, hgr⟩ := hrel
  clear hO3 hgr0
  by_cases hlt : k < n
  · obtain ⟨ga, oa, rfl, hxk, Ak, ck, hck, hrk, hcc⟩ := (a3.ck hgr.1).at_ hlt
    obtain ⟨gu, ou, rfl, hxu, Uk, cu2, hcu, hru, hcuc⟩ := (u3.ck hgr.1).at_ hlt
    have hnk := HM.out M[k] (List.getElem_mem hxk)
    have hnu := HU.out U0[k] (List.getElem_mem hxu)
    rw [hnk.1] at hck hrk hcc
    rw [hnu.1] at hcu hru hcuc
    have HGD : Hid (M.getD k [] = M[k]) := Lib.hid (getD_of_lt [] hxk)
    have HGU : Hid (U0.getD k [] = U0[k]) := Lib.hid (getD_of_lt [] hxu)
    obtain ⟨X, hX⟩ : ∃ X, X = M[k] := ⟨_, rfl⟩
    obtain ⟨V, hV0⟩ : ∃ X, X = U0[k] := ⟨_, rfl⟩
    rw [← hX] at hrk hnk HGD
    rw [← hV0] at hru hnu HGU
    have HXL : Hid (k < U0.length) := Lib.hid hxu
    clear hX hV0 hxk hxu hcc hcuc
    have HPL := Lib.hid fun (w' : World) (h : Below wr.heap.size wr w') => plus_any p Uk n cu2 Ak n ck kk V X w' hp hp2 hn (Nat.le_refl _) (hru.below h) hnu.2 (hrk.below h) hnk.2 hk1 hk2
    obtain ⟨Y, hY⟩ : ∃ Y, Y = plusL p V X kk := ⟨_, rfl⟩
    have HAP : Hid ((sumL p U0 M kk).take (k + 1) = (sumL p U0 M kk).take k ++ [Y]) := Lib.hid (by rw [sumL_take HXL.out, HGU.out, HGD.out, hY])
    rw [← hY] at HPL
    have HMM := Lib.hid hM
    have HGR := Lib.hid hgr
    clear hrk hru hY hM hgr hnk hnu
    go_wp2
    refine wp_obs 13 [[],[],[],[],[2,3],[2,3,4],[],[],[6,7],[6,7,8],[],[1,2,3,4,5,6,7,8,9,10],[1,2,3,4,5,6,7,8,9,10,11],[0,1,2,3,4,5,6,7,8,9,10,11,12],[0,1,2,3,4,5,6,7,8,9,10,11,12,13]] [VIs (.slice A' k c'), VIs (.int .i64 (p)), VIs (.slice (some ⟨gu, ou, none⟩) n cu), VIs (.int .i64 (k)), VIs (.pointer (some ⟨gu, ou + k, none⟩)), VIs (.slice Uk n cu2), VIs (.slice (some ⟨ga, oa, none⟩) n c), VIs (.int .i64 (k)), VIs (.pointer (some ⟨ga, oa + k, none⟩)), VIs (.slice Ak n ck), VIs (.int .i64 (kk)), VSl wr n Y, VNew wr n Y] (fun w' => w'.cell? ⟨gu, ou + k, none⟩ = some (.slice Uk n cu2) ∧ w'.cell? ⟨ga, oa + k, none⟩ = some (.slice Ak n ck) ∧ Below wr.heap.size wr w') (by kernel_rfl) (by kernel_rfl) (fun _ _ h hb => ⟨(hb.cell (World.block_lt_of_cell? _ _ h.1)).trans h.1, (hb.cell (World.block_lt_of_cell? _ _ h.2.1)).trans h.2.1, h.2.2.trans (hb.mono h.2.2.size)⟩) (⟨hcu, hck, zG.drew⟩) (fun x => ?_)
    refine zS (fun w' hS hV K hK => ?_) ?_
    · have q0 := hS.1; have q1 := hS.2.1; go_simp; exact zO hK
    refine zS (fun w' hS hV K hK => ?_) ?_
    · have q0 := hS.1; have q1 := hS.2.1; go_simp; exact zO hK
    refine zS (fun w' hS hV K hK => ?_) ?_
    · have q0 := hS.1; have q1 := hS.2.1; go_simp; exact zO hK
    refine zS (fun w' hS hV K hK => ?_) ?_
    · have q0 := hS.1; have q1 := hS.2.1; go_simp; exact zO hK
    refine zS (fun w' hS hV K hK => ?_) ?_
    · have e2 := zQ hV 2; have e3 := zQ hV 3; have q0 := hS.1; have q1 := hS.2.1; go_simp; exact zO hK
    refine zS (fun w' hS hV K hK => ?_) ?_
    · have e4 := zQ hV 4; have q0 := hS.1; have q1 := hS.2.1; go_simp; exact zO hK
    refine zS (fun w' hS hV K hK => ?_) ?_
    · have q0 := hS.1; have q1 := hS.2.1; go_simp; exact zO hK
    refine zS (fun w' hS hV K hK => ?_) ?_
    · have q0 := hS.1; have q1 := hS.2.1; go_simp; exact zO hK
    refine zS (fun w' hS hV K hK => ?_) ?_
    · have e6 := zQ hV 6; have e7 := zQ hV 7; have q0 := hS.1; have q1 := hS.2.1; go_simp; exact zO hK
    refine zS (fun w' hS hV K hK => ?_) ?_
    · have e8 := zQ hV 8; have q0 := hS.1; have q1 := hS.2.1; go_simp; exact zO hK
    refine zS (fun w' hS hV K hK => ?_) ?_
    · have q0 := hS.1; have q1 := hS.2.1; go_simp; exact zO hK
    refine zS (fun w' hS hV K hK => ?_) ?_
    · have e1 := zQ hV 1; have e5 := zQ hV 5; have e9 := zQ hV 9; have e10 := zQ hV 10; have q0 := hS.1; have q1 := hS.2.1; go_simp; refine (HPL.out _ hS.2.2).mono ?_; rintro e v1 ⟨A9, c9, rfl, hM⟩; exact hK.out _ _ _ rfl rfl ⟨_, _, rfl, hM.after hS.2.2⟩ hM.b
    refine zS (fun w' hS hV K hK => ?_) ?_
    · obtain ⟨A11, c11, e11, h11⟩ := hV 11 (by decide); have q0 := hS.1; have q1 := hS.2.1; go_simp; exact hK.out _ _ _ rfl rfl ⟨_, _, _, rfl, Blk.new _ _ _, h11.below (zG.alloc (Nat.le_refl _) _)⟩ (zG.alloc (Nat.le_refl _) _)
    refine fun w' hS hV => ?_
    have e0 := zT hV 0
    have e1 := zT hV 1
    have e2 := zT hV 2
    have e3 := zT hV 3
    have e4 := zT hV 4
    have e5 := zT hV 5
    have e6 := zT hV 6
    have e7 := zT hV 7
    have e8 := zT hV 8
    have e9 := zT hV 9
    have e10 := zT hV 10
    obtain ⟨A11, c11, e11, h11⟩ := hV 11 (by decide)
    obtain ⟨g12, A12, c12, e12, b12, h12⟩ := hV 12 (by decide)
    simp only [e0, e1, e2, e3, e4, e5, e6, e7, e8, e9, e10, e11, e12]
    clear e0 e1 e2 e3 e4 e5 e6 e7 e8 e9 e10 e11 e12
    obtain ⟨-, -, s2⟩ := hS
    refine any_plain (j := 13) (by kernel_rfl) (Eq.trans (by simp only [zA, zB, zC]; exact rfl) rfl) rfl (fun K hK => ?_)
    refine wp_appRow w wr w' _ _ rfl A' k c' _ A12 n c12 _ HMM.out h12 (by omega) g12 b12 (by rfl) (by rfl) ?_
    intro A20 c20 w20 hM20 hg20 hat20
    refine hK.out _ _ ?_
    simp only [Act.put, zD, zE, zF]
    refine any_one (j := 14) (by kernel_rfl) (Eq.trans (by simp only [zA, zB, zC]; exact rfl) rfl) (fun K hK => ?_)
    go_simp
    refine hK.out _ _ (wpAny_done (by kernel_rfl) ?_ _)
    have hgr7 := HGR.out.step (n' := k + 1) (c' := c20) hE3 s2 hg20 hat20
    clear hg20 hat20 s2
    go_wp2
    go_roundw
    case rel => exact ⟨k + 1, A20, c20, by omega, by go_num, rfl, by rw [HAP.out]; exact hM20, hgr7⟩
    case measure => simp [intOf]; omega
  · obtain rfl : k = n := by omega
    rw [List.take_of_length_le (by rw [HOL.out]; omega)] at hM
    go_wp2
    go_ret
    exact ⟨_, _, rfl, hM⟩
end Go.Proofs.YtaiegpggccdgoaaGreat
namespace Go.Proofs.YtaiegpggccdgoaaGreat
open Go Go.RowKit
/-- The numbers of the norm. -/
def dgL (p : Int) (k : Nat) (st : List Int) : List Int := tab (pw k) fun i => dnormL p k st (unitRow (pw k) i)
theorem dgL_len (p : Int) (k : Nat) (st : List Int) : (dgL p k st).length = pw k := tab_len _ _
theorem dgL_nums {p : Int} (hp : 0 < p) (k : Nat) (st : List Int) : NumsL p (dgL p k st) := NumsL.tab fun _ _ => (dblL_nums hp _ _ _ _).getD hp _
set_option maxHeartbeats 1600000 in
set_option maxRecDepth 8000 in
theorem ddiagonal_any (p : Int) (hp : 2 ≤ p) (hp2 : p ≤ 13) (k : Nat) (hk : k ≤ 4) (A : Option Addr) (c : Nat) (st : List Int) (w : World) (hc : k ≤ c) (ha : Rd w A k (ints st)) (hst : NumsL p st) :
    Calls Tryz.prog 118 #[.agg #[.int .i64 p, .slice A k c]] w fun e w' => ∃ A' c', e = .returned (.slice A' (pw k) c') ∧ MkI w w' A' (pw k) c' (dgL p k st) := by
 have hpk : pw k ≤ 16 := pw_le hk
 have hpos := pw_pos k
 have hB0 : Below w.heap.size w (w.alloc (.cells #[.int .i64 p, .slice A k c] 26)) := zG.alloc (Nat.le_refl _) _
 have k0 : Blk (w.alloc (.cells #[.int .i64 p, .slice A k c] 26)) w.heap.size 26 #[.int .i64 p, .slice A k c] := Blk.new _ _ _
 have k1 := k0.alloc (.cells #[] 2)
 have hM1 : MkI w ((w.alloc (.cells #[.int .i64 p, .slice A k c] 26)).alloc (.cells #[] 2)) (some ⟨w.heap.size + 1, 0, none⟩) 0 0 [] := by
  have := Mk.lit (E := 2) hB0 #[] (by simp)
  simpa [MkI, ints] using this
 obtain ⟨q0, q1⟩ := k1.two
 obtain ⟨n, hn⟩ : ∃ n, n = pw k := ⟨_, rfl⟩
 have hsz := fun w' => dsize_any p A k c w' hk
 obtain ⟨G, hG⟩ : ∃ G : Nat → Int, G = fun i => dnormL p k st (unitRow n i) := ⟨_, rfl⟩
 have hno : Hid (∀ (w' : World) (i : Nat) (X : Option Addr) (cx : Nat), Below w.heap.size w w' → n ≤ cx → Rd w' X n (ints (unitRow n i)) → Calls Tryz.prog 150 #[.agg #[.int .i64 p, .slice A k c], .slice X n cx] w' fun e w'' => e = .returned (.int .i64 (G i)) ∧ Below w'.heap.size w' w'') := Lib.hid fun w' i X cx hb hcx hX => by
  rw [hG]
  subst hn
  exact dnorm_any p hp hp2 k hk A c st X cx _ w' hc hcx (ha.below hb) hst hX (unitRow_nums hp _ _)
 have HPR : Hid (dgL p k st = tab n G) := Lib.hid (by rw [hG, hn]; rfl)
 rw [← hn] at hpk hpos hsz ⊢
 clear hn hG hst ha hB0 k0
 go_enter Tryz.func118, Tryz.ntmps118
 go_wp2_with fail
 refine (hsz _).mono ?_
 rintro e w2 ⟨rfl, hb2⟩
 have hM2 := hM1.below hb2
 have k2 := k1.below hb2 k1.lt
 clear q0 q1 k1
 go_wp2_with fail
 refine (unit_any n _ (by omega)).mono ?_
 rintro e w3 ⟨U, cU, rfl, hU⟩
 have hM3 := hM2.below hU.b
 have k3 := k2.below hU.b k2.lt
 have hsz2 : w.heap.size + 1 < w2.heap.size := by have := hb2.size; simp at this; omega
 have hKp : Keeps w2 w3 w3 (.slice (some ⟨w.heap.size + 1, 0, none⟩) 0 0) := ⟨Nat.le_refl _, fun _ _ _ => rfl, fun gb e => .inl (lt_of_own e hsz2)⟩
 have HU := Lib.hid hU
 clear hM1 hM2 k2 hb2 hsz2 hU
 go_wp2
 go_loopw [3, 11] (fun out i wr => ∃ (j : Nat) (A' : Option Addr) (c' : Nat), j ≤ n ∧ i = .int .i64 j ∧ out = .slice A' j c' ∧ Hid (MkI w wr A' j c' (tab j G)) ∧ Hid (Keeps w2 w3 wr (.slice A' j c')) ∧ Blk wr w.heap.size 26 #[.int .i64 p, .slice A k c]) (fun _ i _ => n - (intOf i).toNat)
 case atStart => exact ⟨0, _, _, by omega, rfl, rfl, Lib.hid (by simpa [tab] using hM3), Lib.hid hKp, k3⟩
 case round =>
  obtain ⟨j, A', c', hj, rfl, rfl, HM, HKP, kr⟩ := hrel
  clear hM3 hKp k3
  by_cases hlt : j < n
  · obtain ⟨gu, ou, rfl, hxk, A1, c1, hcu, hru, hcc⟩ := (HU.out.keep HKP.out.2.1).at_ hlt
    have hrow := unitM_get n j hxk
    rw [hrow, unitRow_len] at hru hcu hcc
    have hcall := hno.out wr j A1 c1 HM.out.b hcc hru
    obtain ⟨q0, q1⟩ := kr.two
    clear hru hrow hxk
    go_wp2_with fail
    refine hcall.mono ?_
    rintro e w7 ⟨rfl, hb7⟩
    have HB7 := Lib.hid hb7
    have k7 := kr.below hb7 kr.lt
    clear hcall q0 q1 hcu hb7
    go_wp2_with (at_builtin; refine wpList_app1 w _ 24 2 _ _ Tryz.underlying24 info_i rfl (by omega) rfl _ _ rfl A' j c' _ _ (HM.out.below HB7.out) (by omega) rfl rfl rfl ?_; intro A4 c4 w4 hM4 hg4 hat4)
    go_roundw
    case rel => exact ⟨j + 1, A4, c4, by omega, by go_num, rfl, Lib.hid (by rw [tab_succ]; simpa [MkI, ints] using hM4), Lib.hid (HKP.out.step HB7.out hg4 hat4), k7.grown hg4 ((HM.out.below HB7.out).2.ne_blk k7 (by decide))⟩
    case measure => simp [intOf]; omega
  · obtain rfl : j = n := by omega
    go_wp2
    go_ret
    exact ⟨_, _, rfl, by rw [HPR.out]; exact HM.out⟩
theorem isMx_mk {p : Int} {k : Nat} {M : List (List Int)} (hk : k ≤ 3) (hl : M.length = pw k) (hT : Tab p (pw k) M) : isMx p k M = true := by
 have h8 : pw k ≤ 8 := pw_le hk
 have h0 := pw_pos k
 have hrow := (hT.row (show 0 < M.length by omega)).1
 unfold isMx isTb
 rw [hrow, hl]
 simp only [Bool.and_eq_true, decide_eq_true_eq, beq_self_eq_true, and_true]
 refine ⟨by omega, by omega, List.all_eq_true.2 fun x hx => ?_⟩
 obtain ⟨h1, h2⟩ := hT x hx
 unfold isTbR nums
 rw [h1]
 simp only [Bool.and_eq_true, decide_eq_true_eq, beq_self_eq_true, true_and]
 exact ⟨⟨by omega, by omega⟩, List.all_eq_true.2 fun v hv => by have := h2 v hv; simp [inR]; omega⟩
theorem codeT_mk {p : Int} {st : List Int} {yss : List (List Int)} {mss : List (List (List Int))} (h : isDb p st = true) (h3 : st.length ≤ 3) (hy : ∀ ys ∈ yss, ys.length = pw st.length ∧ NumsL p ys) (hm : ∀ M ∈ mss, M.length = pw st.length ∧ Tab p (pw st.length) M) : codeT p st yss mss = 0 := by
 unfold codeT
 rw [if_pos h, if_neg (by omega), codeD_mk h hy, if_neg]
 rintro (hh | hh)
 · exact hh rfl
 · obtain ⟨M, h1, e⟩ := List.any_eq_true.1 hh
   rw [isMx_mk h3 (hm M h1).1 (hm M h1).2] at e
   cases e
theorem okM3_tab {p : Int} {k : Nat} {M : List (List Int)} (hk : k ≤ 3) (hl : M.length = pw k) (hT : Tab p (pw k) M) : okM3 M := by
 have h8 : pw k ≤ 8 := pw_le hk
 exact ⟨by omega, fun x hx => by have := (hT x hx).1; omega⟩
/-- The bracket of matrices. -/
def brMx (p : Int) (a b : List (List Int)) : List (List Int) := sumL p (timesM p a b) (timesM p b a) (-1)
set_option maxHeartbeats 1600000 in
set_option maxRecDepth 8000 in
theorem matrixBracket_any (p : Int) (A : Option Addr) (n c : Nat) (M : List (List Int)) (B : Option Addr) (d : Nat) (N : List (List Int)) (w : World) (hp : 2 ≤ p) (hp2 : p ≤ 13) (h0 : 0 < n) (hn : n ≤ 65536) (ha : RdII w A n M) (hM : Tab p n M) (hb : RdII w B n N) (hN : Tab p n N) :
    Calls Tryz.prog 63 #[.int .i64 p, .slice A n c, .slice B n d] w fun e w' => ∃ A' c', e = .returned (.slice A' n c') ∧ MkII w w' A' n c' (brMx p M N) := by
 have h1 := timesM_any p A n c M B d N w hp hp2 h0 hn ha hM hb hN
 have h2 := fun w' (h : Below w.heap.size w w') => timesM_any p B n d N A c M w' hp hp2 h0 hn (hb.below h) hN (ha.below h) hM
 have hT1 := timesM_tab (p := p) (n := n) (M := M) (by omega) h0 hN hb.len
 have hT2 := timesM_tab (p := p) (n := n) (M := N) (by omega) h0 hM ha.len
 have HMb := Lib.hid h2
 obtain ⟨X, hX⟩ : ∃ X, X = timesM p M N := ⟨_, rfl⟩
 obtain ⟨Y, hY⟩ : ∃ Y, Y = timesM p N M := ⟨_, rfl⟩
 have HBR : Hid (brMx p M N = sumL p X Y (-1)) := Lib.hid (by rw [hX, hY]; rfl)
 rw [← hX] at h1 hT1
 rw [← hY] at hT2 HMb
 have HT1 := Lib.hid hT1
 have HT2 := Lib.hid hT2
 clear h2 ha hM hb hN hX hY hT1 hT2
 go_enter Tryz.func63, Tryz.ntmps63
 go_wp2_with fail
 refine h1.mono ?_
 rintro e w1 ⟨A1, c1, rfl, hM1⟩
 have HM1 := Lib.hid hM1
 clear h1 hM1
 go_wp2_with fail
 refine (HMb.out _ HM1.out.b).mono ?_
 rintro e w2 ⟨A2, c2, rfl, hM2⟩
 have HM2 := Lib.hid hM2
 clear hM2
 go_wp2_with fail
 refine (sumG_any p A1 n c1 X A2 c2 Y (-1) w2 hp hp2 hn (HM1.out.below HM2.out.b).rd HT1.out HM2.out.rd HT2.out (by omega) (by omega)).mono ?_
 rintro e w3 ⟨A3, c3, rfl, hM3⟩
 go_wp2
 go_ret
 exact ⟨_, _, rfl, by rw [HBR.out]; exact hM3.after ((HM1.out.below HM2.out.b).b)⟩
theorem likeInts_same (A B : Option Addr) (n c d : Nat) (xs : List Int) (w : World) (hn : n ≤ 1099511627776) (ha : Rd w A n (ints xs)) (hb : Rd w B n (ints xs)) :
    Calls Tryz.prog 71 #[.slice A n c, .slice B n d] w fun e w' => e = .returned (.bool true) ∧ Below w.heap.size w w' :=
 (likeInts_any A B n n c d xs xs w hn hn ha hb).mono (by rintro e w' ⟨rfl, j, rfl⟩; exact ⟨by simp, below_drewN zG j⟩)
set_option maxHeartbeats 1600000 in
set_option maxRecDepth 8000 in
/-- Equal lists of lists. -/
theorem same9_ok (A B : Option Addr) (n ca cb : Nat) (M : List (List Int)) (w : World) (hn : n ≤ 65536) (hM : ∀ x ∈ M, x.length ≤ 65536) (ha : RdII w A n M) (hb : RdII w B n M) :
    Calls Tryz.prog 22 #[.slice A n ca, .slice B n cb] w fun e w' => e = .returned (.bool true) ∧ Below w.heap.size w w' := by
 go_enter Tryz.func22, Tryz.ntmps22
 go_wp2
 go_loopw [5] (fun i wr => ∃ j : Nat, j ≤ n ∧ i = .int .i64 j ∧ Hid (Below w.heap.size w wr)) (fun i _ => n - (intOf i).toNat)
 case atStart => exact ⟨0, by omega, rfl, Lib.hid zG⟩
 case round =>
  obtain ⟨j, hj, rfl, HB⟩ := hrel
  by_cases hlt : j < n
  · obtain ⟨g1, o1, rfl, hx1, A1, cj, c1, hr1, -⟩ := (ha.below HB.out).at_ hlt
    obtain ⟨g2, o2, rfl, hx2, A2, dj, c2, hr2, -⟩ := (hb.below HB.out).at_ hlt
    have hlj := hM _ (List.getElem_mem hx1)
    obtain ⟨row, hrow⟩ : ∃ z, z = M[j] := ⟨_, rfl⟩
    rw [← hrow] at c1 hr1 c2 hr2 hlj
    obtain ⟨nj, hnj⟩ : ∃ z, z = row.length := ⟨_, rfl⟩
    rw [← hnj] at c1 hr1 c2 hr2 hlj
    have HLI := Lib.hid (fun w' (h : Below wr.heap.size wr w') => likeInts_same A1 A2 nj cj dj row w' (by omega) (hr1.below h) (hr2.below h))
    clear hr1 hr2 hrow hnj hlj
    go_wp2
    refine wp_obs 10 [[],[],[0,1],[0,1,2],[],[],[4,5],[4,5,6],[0,1,2,3,4,5,6,7],[0,1,2,3,4,5,6,7,8]] [VIs (.slice (some ⟨g1, o1, none⟩) n ca), VIs (.int .i64 (j)), VIs (.pointer (some ⟨g1, o1 + j, none⟩)), VIs (.slice A1 nj cj), VIs (.slice (some ⟨g2, o2, none⟩) n cb), VIs (.int .i64 (j)), VIs (.pointer (some ⟨g2, o2 + j, none⟩)), VIs (.slice A2 nj dj), VIs (.bool true), VIs (.bool false)] (fun w' => w'.cell? ⟨g1, o1 + j, none⟩ = some (.slice A1 nj cj) ∧ w'.cell? ⟨g2, o2 + j, none⟩ = some (.slice A2 nj dj) ∧ Below wr.heap.size wr w') (by kernel_rfl) (by kernel_rfl) (fun _ _ h hb => ⟨(hb.cell (World.block_lt_of_cell? _ _ h.1)).trans h.1, (hb.cell (World.block_lt_of_cell? _ _ h.2.1)).trans h.2.1, h.2.2.trans (hb.mono h.2.2.size)⟩) (⟨c1, c2, zG.drew⟩) (fun x => ?_)
    refine zS (fun w' hS hV K hK => ?_) ?_
    · have q1 := hS.1; have q2 := hS.2.1; go_simp; exact zO hK
    refine zS (fun w' hS hV K hK => ?_) ?_
    · have q1 := hS.1; have q2 := hS.2.1; go_simp; exact zO hK
    refine zS (fun w' hS hV K hK => ?_) ?_
    · have e0 := zQ hV 0; have e1 := zQ hV 1; have q1 := hS.1; have q2 := hS.2.1; go_simp; exact zO hK
    refine zS (fun w' hS hV K hK => ?_) ?_
    · have e2 := zQ hV 2; have q1 := hS.1; have q2 := hS.2.1; go_simp; exact zO hK
    refine zS (fun w' hS hV K hK => ?_) ?_
    · have q1 := hS.1; have q2 := hS.2.1; go_simp; exact zO hK
    refine zS (fun w' hS hV K hK => ?_) ?_
    · have q1 := hS.1; have q2 := hS.2.1; go_simp; exact zO hK
    refine zS (fun w' hS hV K hK => ?_) ?_
    · have e4 := zQ hV 4; have e5 := zQ hV 5; have q1 := hS.1; have q2 := hS.2.1; go_simp; exact zO hK
    refine zS (fun w' hS hV K hK => ?_) ?_
    · have e6 := zQ hV 6; have q1 := hS.1; have q2 := hS.2.1; go_simp; exact zO hK
    refine zS (fun w' hS hV K hK => ?_) ?_
    · have e3 := zQ hV 3; have e7 := zQ hV 7; have q1 := hS.1; have q2 := hS.2.1; go_simp; refine (HLI.out w' hS.2.2).mono ?_; rintro e v1 ⟨rfl, hb9⟩; exact hK.out _ _ _ rfl rfl rfl hb9
    refine zS (fun w' hS hV K hK => ?_) ?_
    · have e8 := zQ hV 8; have q1 := hS.1; have q2 := hS.2.1; go_simp; exact zO hK
    refine fun w' hS hV => ?_
    have e0 := zT hV 0
    have e1 := zT hV 1
    have e2 := zT hV 2
    have e3 := zT hV 3
    have e4 := zT hV 4
    have e5 := zT hV 5
    have e6 := zT hV 6
    have e7 := zT hV 7
    have e8 := zT hV 8
    have e9 := zT hV 9
    simp only [e0, e1, e2, e3, e4, e5, e6, e7, e8, e9]
    clear e0 e1 e2 e3 e4 e5 e6 e7 e8 e9
    refine wpAny_done (by kernel_rfl) ?_ _
    obtain ⟨-, -, s2⟩ := hS
    have HB2 := Lib.hid (HB.out.trans (s2.mono HB.out.size))
    clear hV s2 c1 c2
    go_wp2
    go_roundw
    case rel => exact ⟨j + 1, by omega, by go_num, HB2⟩
    case measure => simp [intOf]; omega
  · go_wp2
    go_ret
    exact ⟨rfl, HB.out⟩
end Go.Proofs.YtaiegpggccdgoaaGreat
namespace Go.Proofs.YtaiegpggccdgoaaGreat
/-- A vector of the basis. -/
def uZ (i : Nat) (j : Nat) : Int := if j = i then 1 else 0
theorem gV_unitRow {n i : Nat} (hi : i < n) : ∀ j, gV (unitRow n i) j = uZ i j := fun j => by
 rw [gV_unit hi]; unfold uZ
 by_cases h : i = j
 · rw [if_pos h, if_pos h.symm]
 · rw [if_neg h, if_neg (Ne.symm h)]
theorem dm_right {st : List Int} {k q r : Nat} (x : Nat → Int) (hq : q < pw k) (hr : r < pw k) : dmulZ st k x (uZ q) r = x (r ^^^ q) * cD st k (r ^^^ q) q := by
 unfold dmulZ
 rw [sumTo_one (r ^^^ q) (xor_pw hr hq) (fun i hi hne => ?_)]
 · rw [show (r ^^^ q) ^^^ r = q by rw [Nat.xor_comm r q, Nat.xor_assoc, Nat.xor_self, Nat.xor_zero]]
   unfold uZ; rw [if_pos rfl, Int.mul_one]
 · unfold uZ
   rw [if_neg (fun e => hne (by rw [← e, Nat.xor_comm i r, ← Nat.xor_assoc, Nat.xor_self, Nat.zero_xor])), Int.mul_zero, Int.zero_mul]
theorem dm_left {st : List Int} {k i r : Nat} (y : Nat → Int) (hi : i < pw k) : dmulZ st k (uZ i) y r = y (i ^^^ r) * cD st k i (i ^^^ r) := by
 unfold dmulZ
 rw [sumTo_one i hi (fun j hj hne => by unfold uZ; rw [if_neg hne, Int.zero_mul, Int.zero_mul])]
 unfold uZ; rw [if_pos rfl, Int.one_mul]
/-- The inner derivation by coordinates. -/
theorem inn_co {p : Int} {k : Nat} (st : List Int) {x y z : List Int} (hx : x.length = pw k) (hy : y.length = pw k) (hz : z.length = pw k) {r : Nat} (hr : r < pw k) : gV (innL p k st x y z) r % p = derZ st k (gV x) (gV y) (gV z) r % p := by
 have hc : ∀ a b : List Int, a.length = pw k → b.length = pw k → ∀ s, s < pw k → gV (cmtL p k st a b) s % p = cmtZ st k (gV a) (gV b) s % p := fun a b ha hb s hs => by
  unfold cmtL cmtZ
  show (plusL p _ _ (-1)).getD s 0 % p = _
  rw [plusL_getD _ _ (by rw [dblL_len]; exact hs), cg_self]
  exact cg_add (dblL_md k st ha hb hs) (mul_md _ (dblL_md k st hb ha hs))
 have ha : gV (assL p k st x y z) r % p = assZ st k (gV x) (gV y) (gV z) r % p := by
  unfold assL assZ
  show (plusL p _ _ (-1)).getD r 0 % p = _
  rw [plusL_getD _ _ (by rw [dblL_len]; exact hr), cg_self]
  refine cg_add ?_ (mul_md _ ?_)
  · exact (dblL_md k st (dblL_len _ _ _ _ _) hz hr).trans (dmulZ_mod (fun i hi => dblL_md k st hx hy hi) (fun _ _ => rfl) hr)
  · exact (dblL_md k st hx (dblL_len _ _ _ _ _) hr).trans (dmulZ_mod (fun _ _ => rfl) (fun i hi => dblL_md k st hy hz hi) hr)
 unfold innL derZ
 show (plusL p _ _ (-3)).getD r 0 % p = _
 rw [plusL_getD _ _ (by rw [cmtL_len]; exact hr), cg_self]
 refine cg_add ((hc _ _ (cmtL_len _ _ _ _ _) hz r hr).trans ?_) (mul_md _ ha)
 unfold cmtZ
 exact cg_add (dmulZ_mod (fun i hi => hc x y hx hy i hi) (fun _ _ => rfl) hr) (mul_md _ (dmulZ_mod (fun _ _ => rfl) (fun i hi => hc x y hx hy i hi) hr))
theorem innM_ent {p : Int} (hp : 0 < p) {k : Nat} (st : List Int) {x y : List Int} (hx : x.length = pw k) (hy : y.length = pw k) {r i : Nat} (hr : r < pw k) (hi : i < pw k) : ent (innM p k st x y) r i % p = derZ st k (gV x) (gV y) (uZ i) r % p := by
 have hT : Tab p (pw k) (tab (pw k) fun i => innL p k st x y (unitRow (pw k) i)) := Tab.tab fun i _ => ⟨innL_len _ _ _ _ _ _, innL_nums hp _ _ _ _ _⟩
 have e : ent (innM p k st x y) r i = gV (innL p k st x y (unitRow (pw k) i)) r := by
  unfold innM
  have := transL_row hT (by rw [tab_len]; exact pw_pos k) hr
  unfold ent at this ⊢
  rw [this, tab_len, tab_getD hi, tab_getD hi]; rfl
 rw [e, inn_co st hx hy (unitRow_len _ _) hr, derZ_congr (fun j _ => gV_unitRow hi j) hr]
theorem matZ_uZ {N i : Nat} (m : Nat → Nat → Int) (hi : i < N) (a : Nat) : matZ N m (uZ i) a = m a i := by
 unfold matZ
 rw [sumTo_one i hi (fun j _ hj => by unfold uZ; rw [if_neg hj, Int.mul_zero])]
 unfold uZ; rw [if_pos rfl, Int.mul_one]
theorem uu_co {st : List Int} {k i q j : Nat} (hq : q < pw k) (hj : j < pw k) : dmulZ st k (uZ i) (uZ q) j = cD st k i q * uZ (i ^^^ q) j := by
 rw [dm_right _ hq hj]
 unfold uZ
 by_cases h0 : j = i ^^^ q
 · subst h0
   rw [show (i ^^^ q) ^^^ q = i by rw [Nat.xor_assoc, Nat.xor_self, Nat.xor_zero], if_pos rfl, if_pos rfl, Int.one_mul, Int.mul_one]
 · rw [if_neg (fun e => h0 (by rw [← e, Nat.xor_assoc, Nat.xor_self, Nat.xor_zero])), if_neg h0, Int.zero_mul, Int.mul_zero]
theorem brMx_ent {p : Int} (hp : 0 < p) {n : Nat} {M N : List (List Int)} (h0 : 0 < n) (hM : Tab p n M) (hN : Tab p n N) (hMl : M.length = n) (hNl : N.length = n) {a b : Nat} (ha : a < n) (hb : b < n) : ent (brMx p M N) a b % p = (matZ n (ent M) (matZ n (ent N) (uZ b)) a - matZ n (ent N) (matZ n (ent M) (uZ b)) a) % p := by
 have key : ∀ {A B : List (List Int)}, Tab p n A → Tab p n B → A.length = n → B.length = n → ent (timesM p A B) a b % p = matZ n (ent A) (matZ n (ent B) (uZ b)) a % p := fun {A B} hA hB hAl hBl => by
  have hcolB : (transL B).getD b [] = tab n fun j => ent B j b := by rw [transL_row hB (by omega) hb, hBl]
  have e : ent (timesM p A B) a b = dotL p ((transL B).getD b []) (A.getD a []) := by
   unfold ent timesM
   rw [tab_getD (by omega)]
   unfold applyL
   rw [tab_getD (by rw [transL_len hB (by omega)]; exact hb)]
  rw [e, hcolB]
  unfold dotL
  rw [tab_len, cg_self]
  unfold matZ
  congr 1
  refine sumTo_congr fun j hj => ?_
  rw [tab_getD hj, sumTo_one b hb (fun i _ hi => by unfold uZ; rw [if_neg hi, Int.mul_zero])]
  unfold uZ
  rw [if_pos rfl, Int.mul_one]
  exact Int.mul_comm _ _
 have hl1 : (timesM p M N).length = n := (timesM_len p M N).trans hMl
 have hrow1 := ((timesM_tab (M := M) hp h0 hN hNl).row (show a < (timesM p M N).length by omega)).1
 have e : ent (brMx p M N) a b = (ent (timesM p M N) a b + -1 * ent (timesM p N M) a b) % p := by
  unfold brMx sumL
  show ((tab _ _).getD a []).getD b 0 = _
  rw [tab_getD (by omega), plusL_getD _ _ (by omega)]; rfl
 rw [e, cg_self, cg_add (key hM hN hMl hNl) (mul_md (-1) (key hN hM hNl hMl))]
 congr 1; omega
theorem brMx_len {p : Int} (M N : List (List Int)) : (brMx p M N).length = M.length := by unfold brMx; rw [sumL_len, timesM_len]
theorem brMx_tab {p : Int} (hp : 0 < p) {n : Nat} {M N : List (List Int)} (h0 : 0 < n) (hN : Tab p n N) (hMl : M.length = n) (hNl : N.length = n) : Tab p n (brMx p M N) := by
 unfold brMx sumL
 refine Tab.tab fun i hi => ⟨?_, plusL_nums hp _ _ _⟩
 rw [plusL_len]
 exact ((timesM_tab (M := M) hp h0 hN hNl).row hi).1
theorem dgL_at {p : Int} {k : Nat} (st : List Int) {i : Nat} (hi : i < pw k) : (dgL p k st).getD i 0 % p = (cjS i * cD st k i i) % p := by
 unfold dgL dnormL
 rw [tab_getD hi]
 have h0 := pw_pos k
 have hcl : (conjL p (unitRow (pw k) i)).length = pw k := by rw [conjL_len, unitRow_len]
 have := dblL_md (p := p) k st (unitRow_len (pw k) i) hcl h0
 unfold gV at this
 rw [this, dmulZ_mod (x' := uZ i) (y' := fun j => cjS j * uZ i j) (fun b _ => by rw [← gV_unitRow hi]; rfl) (fun b hb => by rw [conjL_getD (by rw [unitRow_len]; exact hb), ← gV_unitRow hi]; rfl) h0, dm_left _ hi, Nat.xor_zero]
 unfold uZ; rw [if_pos rfl, Int.mul_one]
/-- A number of the cyclic form. -/
def frmL (p : Int) (k : Nat) (st : List Int) (i j q : Nat) : Int := (2 * (dblL p k st (dblL p k st (unitRow (pw k) i) (unitRow (pw k) j)) (unitRow (pw k) q)).getD 0 0) % p
theorem frmL_nums {p : Int} (hp : 0 < p) (k : Nat) (st : List Int) (i j q : Nat) : 0 ≤ frmL p k st i j q ∧ frmL p k st i j q < p := ⟨Int.emod_nonneg _ (by omega), Int.emod_lt_of_pos _ hp⟩
theorem frmL_co {p : Int} {k : Nat} (st : List Int) {i j q : Nat} (hi : i < pw k) (hj : j < pw k) (hq : q < pw k) : frmL p k st i j q % p = (if i ^^^ j = q then fmZ st k i j else 0) % p := by
 unfold frmL
 rw [cg_self]
 have h0 := pw_pos k
 have e1 : (dblL p k st (dblL p k st (unitRow (pw k) i) (unitRow (pw k) j)) (unitRow (pw k) q)).getD 0 0 % p = (cD st k i j * uZ (i ^^^ j) q * cD st k q q) % p := by
  have := dblL_md (p := p) k st (dblL_len p k st (unitRow (pw k) i) (unitRow (pw k) j)) (unitRow_len (pw k) q) h0
  unfold gV at this
  rw [this, dmulZ_mod (x' := dmulZ st k (uZ i) (uZ j)) (y' := uZ q) (fun b hb => ?_) (fun b _ => by rw [← gV_unitRow hq]; rfl) h0, dm_right _ hq h0, Nat.zero_xor, uu_co hj hq]
  have := dblL_md (p := p) k st (unitRow_len (pw k) i) (unitRow_len (pw k) j) hb
  unfold gV at this
  rw [this]
  exact dmulZ_mod (fun b _ => by rw [← gV_unitRow hi]; rfl) (fun b _ => by rw [← gV_unitRow hj]; rfl) hb
 rw [mul_md 2 e1]
 by_cases h : i ^^^ j = q
 · subst h
   rw [if_pos rfl]
   unfold fmZ uZ
   rw [if_pos rfl, Int.mul_one]
 · rw [if_neg h]
   unfold uZ
   rw [if_neg (fun e => h e.symm), Int.mul_zero, Int.zero_mul, Int.mul_zero]
/-- A number is written at a place that holds 0. -/
theorem set_dot (p : Int) {row : List Int} {a N : Nat} (c : Int) (ha : a < N) (hl : row.length = N) (h0 : row.getD a 0 = 0) (v : Nat → Int) : (sumTo N fun q => (row.set a c).getD q 0 * v q) % p = ((sumTo N fun q => row.getD q 0 * v q) + c * v a) % p := by
 have e : (sumTo N fun q => (row.set a c).getD q 0 * v q) = (sumTo N fun q => row.getD q 0 * v q + (if q = a then c * v a else 0)) := sumTo_congr fun q _ => by
  rw [getD_set, hl]
  by_cases h : a = q
  · subst h
    rw [if_pos ⟨rfl, ha⟩, if_pos rfl, h0]; omega
  · rw [if_neg (fun h' => h h'.1), if_neg (fun h' => h h'.symm)]; omega
 rw [e, sumTo_add, sumTo_one (f := fun q => if q = a then c * v a else 0) a ha (fun q _ hq => if_neg hq), if_pos rfl]
theorem zeros_dot (N M : Nat) (v : Nat → Int) : (sumTo N fun q => (List.replicate M (0 : Int)).getD q 0 * v q) = 0 := sumTo_zero (fun a _ => by
 by_cases h : a < M
 · rw [getD_of_lt 0 (by simpa using h)]; simp
 · rw [getD_of_ge 0 (by simp; omega)]; simp)
/-- The equation that a matrix is skew: the program's and the reference's. -/
def skewRow (p : Int) (n : Nat) (dg : List Int) (part i q : Nat) : List Int :=
 addAt p ((List.replicate (3 * (n * n)) 0).set (part * (n * n) + (i * n + q)) (dg.getD i 0)) (part * (n * n) + (q * n + i)) (dg.getD q 0)
def skewRowS (n : Nat) (dg : List Int) (part i q : Nat) : List Int :=
 ((List.replicate (3 * (n * n)) 0).set (part * (n * n) + (i * n + q)) (dg.getD i 0)).set (part * (n * n) + (q * n + i)) (dg.getD q 0)
/-- The equation of the form: the program's and the reference's. -/
def formTo (p : Int) (n : Nat) (F : Nat → Nat → Nat → Int) (i j q : Nat) : Nat → List Int
 | 0 => List.replicate (3 * (n * n)) 0
 | r + 1 => addAt p (addAt p (addAt p (formTo p n F i j q r) (r * n + i) (F r j q)) (n * n + (r * n + j)) (F i r q)) (2 * (n * n) + (r * n + q)) (F i j r)
def frmS (p : Int) (P : List (List Int)) (i j : Nat) : Int := (2 * ent P i j * ent P (i ^^^ j) (i ^^^ j)) % p
def formRowS (p : Int) (n : Nat) (P : List (List Int)) (i j q : Nat) : List Int :=
 (((List.replicate (3 * (n * n)) 0).set ((j ^^^ q) * n + i) (frmS p P (j ^^^ q) j)).set (n * n + ((i ^^^ q) * n + j)) (frmS p P i (i ^^^ q))).set (2 * (n * n) + ((i ^^^ j) * n + q)) (frmS p P i j)
theorem skewRow_len (p : Int) (n : Nat) (dg : List Int) (part i q : Nat) : (skewRow p n dg part i q).length = 3 * (n * n) := by unfold skewRow; rw [addAt_len, List.length_set, List.length_replicate]
theorem skewRowS_len (n : Nat) (dg : List Int) (part i q : Nat) : (skewRowS n dg part i q).length = 3 * (n * n) := by unfold skewRowS; rw [List.length_set, List.length_set, List.length_replicate]
theorem formTo_len (p : Int) (n : Nat) (F : Nat → Nat → Nat → Int) (i j q : Nat) : ∀ r, (formTo p n F i j q r).length = 3 * (n * n)
 | 0 => List.length_replicate
 | r + 1 => by unfold formTo; rw [addAt_len, addAt_len, addAt_len, formTo_len p n F i j q r]
theorem formRowS_len (p : Int) (n : Nat) (P : List (List Int)) (i j q : Nat) : (formRowS p n P i j q).length = 3 * (n * n) := by unfold formRowS; simp
theorem skewRow_nums {p : Int} (hp : 0 < p) (n : Nat) {dg : List Int} (hd : NumsL p dg) (part i q : Nat) : NumsL p (skewRow p n dg part i q) := addAt_nums hp ((NumsL.replicate hp _).set _ (hd.getD hp i)) _ _
theorem skewRowS_nums {p : Int} (hp : 0 < p) (n : Nat) {dg : List Int} (hd : NumsL p dg) (part i q : Nat) : NumsL p (skewRowS n dg part i q) := ((NumsL.replicate hp _).set _ (hd.getD hp i)).set _ (hd.getD hp q)
theorem formTo_nums {p : Int} (hp : 0 < p) (n : Nat) (F : Nat → Nat → Nat → Int) (i j q : Nat) : ∀ r, NumsL p (formTo p n F i j q r)
 | 0 => NumsL.replicate hp _
 | r + 1 => addAt_nums hp (addAt_nums hp (addAt_nums hp (formTo_nums hp n F i j q r) _ _) _ _) _ _
theorem frmS_nums {p : Int} (hp : 0 < p) (P : List (List Int)) (i j : Nat) : 0 ≤ frmS p P i j ∧ frmS p P i j < p := ⟨Int.emod_nonneg _ (by omega), Int.emod_lt_of_pos _ hp⟩
theorem formRowS_nums {p : Int} (hp : 0 < p) (n : Nat) (P : List (List Int)) (i j q : Nat) : NumsL p (formRowS p n P i j q) := (((NumsL.replicate hp _).set _ (frmS_nums hp P _ _)).set _ (frmS_nums hp P _ _)).set _ (frmS_nums hp P _ _)
theorem at3 {n part a b : Nat} (hp : part < 3) (ha : a < n) (hb : b < n) : part * (n * n) + (a * n + b) < 3 * (n * n) := by
 have h1 := at_lt ha hb
 have h2 := Nat.mul_le_mul_right (n * n) (show part + 1 ≤ 3 by omega)
 rw [Nat.add_mul, Nat.one_mul] at h2; omega
theorem skewRow_dot {p : Int} {n : Nat} (dg : List Int) {part i q : Nat} (hpt : part < 3) (hi : i < n) (hq : q < n) (v : Nat → Int) : (sumTo (3 * (n * n)) fun a => (skewRow p n dg part i q).getD a 0 * v a) % p = (v (part * (n * n) + (i * n + q)) * dg.getD i 0 + v (part * (n * n) + (q * n + i)) * dg.getD q 0) % p := by
 unfold skewRow
 rw [addAt_dot p _ (at3 hpt hq hi) (by rw [List.length_set, List.length_replicate]), Int.add_emod, set_dot p _ (at3 hpt hi hq) List.length_replicate (by rw [getD_of_lt 0 (by simpa using at3 hpt hi hq)]; simp), ← Int.add_emod, zeros_dot]
 congr 1
 rw [Int.mul_comm (dg.getD i 0), Int.mul_comm (dg.getD q 0)]; omega
theorem mul_inj {n a b c d : Nat} (hb : b < n) (hd : d < n) (h : a * n + b = c * n + d) : a = c ∧ b = d := by
 have hn : 0 < n := by omega
 have e1 : (a * n + b) / n = a := by rw [Nat.mul_comm, Nat.mul_add_div hn, Nat.div_eq_of_lt hb, Nat.add_zero]
 have e2 : (c * n + d) / n = c := by rw [Nat.mul_comm, Nat.mul_add_div hn, Nat.div_eq_of_lt hd, Nat.add_zero]
 have : a = c := by rw [← e1, h, e2]
 subst this
 exact ⟨rfl, by omega⟩
theorem skewRowS_dot {p : Int} {n : Nat} (dg : List Int) {part i q : Nat} (hpt : part < 3) (hi : i < n) (hq : q < n) (v : Nat → Int) : (sumTo (3 * (n * n)) fun a => (skewRowS n dg part i q).getD a 0 * v a) % p = (if i = q then v (part * (n * n) + (i * n + i)) * dg.getD i 0 else v (part * (n * n) + (i * n + q)) * dg.getD i 0 + v (part * (n * n) + (q * n + i)) * dg.getD q 0) % p := by
 unfold skewRowS
 by_cases h : i = q
 · subst h
   rw [if_pos rfl, List.set_set, set_dot p _ (at3 hpt hi hi) List.length_replicate (by rw [getD_of_lt 0 (by simpa using at3 hpt hi hi)]; simp), zeros_dot, Int.zero_add, Int.mul_comm]
 · rw [if_neg h]
   have h0 : ∀ a, a < 3 * (n * n) → (List.replicate (3 * (n * n)) (0 : Int)).getD a 0 = 0 := fun a ha => by rw [getD_of_lt 0 (by simpa using ha)]; simp
   have hne : part * (n * n) + (i * n + q) ≠ part * (n * n) + (q * n + i) := fun e => h (mul_inj hq hi (by omega)).1
   rw [set_dot p _ (at3 hpt hq hi) (by simp) (by rw [getD_set, if_neg (fun e => hne e.1)]; exact h0 _ (at3 hpt hq hi)), Int.add_emod, set_dot p _ (at3 hpt hi hq) (by simp) (h0 _ (at3 hpt hi hq)), ← Int.add_emod, zeros_dot]
   congr 1
   rw [Int.mul_comm (dg.getD i 0), Int.mul_comm (dg.getD q 0)]; omega
theorem formTo_dot {p : Int} {n : Nat} (F : Nat → Nat → Nat → Int) {i j q : Nat} (hi : i < n) (hj : j < n) (hq : q < n) (v : Nat → Int) : ∀ r, r ≤ n → (sumTo (3 * (n * n)) fun a => (formTo p n F i j q r).getD a 0 * v a) % p = (sumTo r fun s => F s j q * v (s * n + i) + F i s q * v (n * n + (s * n + j)) + F i j s * v (2 * (n * n) + (s * n + q))) % p
 | 0, _ => by unfold formTo; rw [zeros_dot]; rfl
 | r + 1, hr => by
  have hr' : r < n := by omega
  have a1 : r * n + i < 3 * (n * n) := by have := at3 (part := 0) (by omega) hr' hi; omega
  have a2 : n * n + (r * n + j) < 3 * (n * n) := by have := at3 (part := 1) (by omega) hr' hj; omega
  have a3 := at3 (part := 2) (by omega) hr' hq
  unfold formTo
  rw [addAt_dot p _ a3 (by rw [addAt_len, addAt_len, formTo_len]), Int.add_emod, addAt_dot p _ a2 (by rw [addAt_len, formTo_len]), ← Int.add_emod, Int.add_assoc, Int.add_emod, addAt_dot p _ a1 (formTo_len _ _ _ _ _ _ _), ← Int.add_emod, Int.add_assoc, Int.add_emod, formTo_dot F hi hj hq v r (by omega), ← Int.add_emod, sumTo_succ]
  congr 1; omega
theorem formRowS_dot {p : Int} {n : Nat} (P : List (List Int)) (hx : ∀ a b, a < n → b < n → a ^^^ b < n) {i j q : Nat} (hi : i < n) (hj : j < n) (hq : q < n) (v : Nat → Int) : (sumTo (3 * (n * n)) fun a => (formRowS p n P i j q).getD a 0 * v a) % p = (frmS p P (j ^^^ q) j * v ((j ^^^ q) * n + i) + frmS p P i (i ^^^ q) * v (n * n + ((i ^^^ q) * n + j)) + frmS p P i j * v (2 * (n * n) + ((i ^^^ j) * n + q))) % p := by
 have h0 : ∀ a, a < 3 * (n * n) → (List.replicate (3 * (n * n)) (0 : Int)).getD a 0 = 0 := fun a ha => by rw [getD_of_lt 0 (by simpa using ha)]; simp
 have b1 := at_lt (hx _ _ hj hq) hi
 have b2 := at_lt (hx _ _ hi hq) hj
 have b3 := at_lt (hx _ _ hi hj) hq
 unfold formRowS
 rw [set_dot p _ (by omega) (by simp) (by rw [getD_set, if_neg (fun e => by have := e.1; omega), getD_set, if_neg (fun e => by have := e.1; omega)]; exact h0 _ (by omega)), Int.add_emod, set_dot p _ (by omega) (by simp) (by rw [getD_set, if_neg (fun e => by have := e.1; omega)]; exact h0 _ (by omega)), ← Int.add_emod, Int.add_assoc, Int.add_emod, set_dot p _ (by omega) (by simp) (h0 _ (by omega)), ← Int.add_emod, zeros_dot]
 congr 1; omega
/-- Lists one after the other. -/
def fm {α : Type} : Nat → (Nat → List α) → List α
 | 0, _ => []
 | n + 1, G => fm n G ++ G n
theorem fm_succ {α : Type} (n : Nat) (G : Nat → List α) : fm (n + 1) G = fm n G ++ G n := rfl
theorem mem_fm {α : Type} {G : Nat → List α} {x : α} : ∀ {n : Nat}, x ∈ fm n G ↔ ∃ i, i < n ∧ x ∈ G i
 | 0 => by simp [fm]
 | n + 1 => by
  rw [fm_succ, List.mem_append, mem_fm]
  constructor
  · rintro (⟨i, h1, h2⟩ | h)
    · exact ⟨i, by omega, h2⟩
    · exact ⟨n, by omega, h⟩
  · rintro ⟨i, h1, h2⟩
    by_cases h : i < n
    · exact .inl ⟨i, h, h2⟩
    · obtain rfl : i = n := by omega
      exact .inr h2
theorem mem_tab {α : Type} {n : Nat} {f : Nat → α} {x : α} : x ∈ tab n f ↔ ∃ i, i < n ∧ x = f i := ⟨tab_mem, fun ⟨i, h, e⟩ => by subst e; unfold tab; exact List.mem_map.2 ⟨i, List.mem_range.2 h, rfl⟩⟩
/-- All equations of local triples: the skew ones, then those of the form. -/
def locL (n : Nat) (S : Nat → Nat → Nat → List Int) (R : Nat → Nat → Nat → List Int) : List (List Int) :=
 (fm 3 fun part => fm n fun i => tab (i + 1) (S part i)) ++ fm n fun i => fm n fun j => tab n (R i j)
theorem mem_locL {n : Nat} {S R : Nat → Nat → Nat → List Int} {x : List Int} : x ∈ locL n S R ↔ (∃ part i q, part < 3 ∧ i < n ∧ q ≤ i ∧ x = S part i q) ∨ ∃ i j q, i < n ∧ j < n ∧ q < n ∧ x = R i j q := by
 unfold locL
 simp only [List.mem_append, mem_fm, mem_tab]
 constructor
 · rintro (⟨part, h1, i, h2, q, h3, rfl⟩ | ⟨i, h1, j, h2, q, h3, rfl⟩)
   · exact .inl ⟨part, i, q, h1, h2, by omega, rfl⟩
   · exact .inr ⟨i, j, q, h1, h2, h3, rfl⟩
 · rintro (⟨part, i, q, h1, h2, h3, rfl⟩ | ⟨i, j, q, h1, h2, h3, rfl⟩)
   · exact .inl ⟨part, h1, i, h2, q, by omega, rfl⟩
   · exact .inr ⟨i, h1, j, h2, q, h3, rfl⟩
theorem locL_tab {p : Int} {n m : Nat} {S R : Nat → Nat → Nat → List Int} (h1 : ∀ part i q, (S part i q).length = m ∧ NumsL p (S part i q)) (h2 : ∀ i j q, (R i j q).length = m ∧ NumsL p (R i j q)) : Tab p m (locL n S R) := fun x hx => by
 rcases mem_locL.1 hx with ⟨a, b, c, -, -, -, rfl⟩ | ⟨a, b, c, -, -, -, rfl⟩
 · exact h1 a b c
 · exact h2 a b c
theorem orth_mem {p : Int} {n : Nat} {m : List (List Int)} {v : Nat → Int} : Orth p n m v ↔ ∀ x ∈ m, (sumTo n fun a => x.getD a 0 * v a) % p = 0 := by
 constructor
 · intro h x hx
   obtain ⟨i, hi, rfl⟩ := List.getElem_of_mem hx
   have := h i hi
   unfold ent at this
   rw [getD_of_lt [] hi] at this
   exact this
 · intro h i hi
   have := h _ (List.getElem_mem hi)
   unfold ent
   rw [getD_of_lt [] hi]
   exact this
/-- The program's equations and the reference's. -/
def locP (p : Int) (k : Nat) (st : List Int) : List (List Int) := locL (pw k) (fun part i q => skewRow p (pw k) (dgL p k st) part i q) fun i j q => formTo p (pw k) (frmL p k st) i j q (pw k)
def locS (p : Int) (k : Nat) (st : List Int) : List (List Int) := locL (pw k) (fun part i q => skewRowS (pw k) (dgL p k st) part i q) fun i j q => formRowS p (pw k) (prodM p k st) i j q
theorem locP_tab {p : Int} (hp : 0 < p) (k : Nat) (st : List Int) : Tab p (3 * (pw k * pw k)) (locP p k st) := locL_tab (fun _ _ _ => ⟨skewRow_len _ _ _ _ _ _, skewRow_nums hp _ (dgL_nums hp k st) _ _ _⟩) (fun _ _ _ => ⟨formTo_len _ _ _ _ _ _ _, formTo_nums hp _ _ _ _ _ _⟩)
theorem locS_tab {p : Int} (hp : 0 < p) (k : Nat) (st : List Int) : Tab p (3 * (pw k * pw k)) (locS p k st) := locL_tab (fun _ _ _ => ⟨skewRowS_len _ _ _ _ _, skewRowS_nums hp _ (dgL_nums hp k st) _ _ _⟩) (fun _ _ _ => ⟨formRowS_len _ _ _ _ _ _, formRowS_nums hp _ _ _ _ _⟩)
theorem two_dvd {p : Int} (hP : isP p = true) {x : Int} : (x + x) % p = 0 ↔ x % p = 0 := by
 obtain ⟨h3, h13⟩ := isP_ge hP
 constructor
 · intro h
   obtain ⟨c, hc⟩ := Int.dvd_of_emod_eq_zero h
   have hodd : ∃ m, p = 2 * m + 1 := ⟨p / 2, by simp [isP] at hP; omega⟩
   obtain ⟨m, hm⟩ := hodd
   refine Int.emod_eq_zero_of_dvd ⟨x - m * c, ?_⟩
   have e : p * c = 2 * (m * c) + c := by rw [hm, Int.add_mul, Int.one_mul, Int.mul_assoc]
   have e2 : p * (x - m * c) = p * x - p * (m * c) := Int.mul_sub _ _ _
   have e3 : p * x = 2 * (m * x) + x := by rw [hm, Int.add_mul, Int.one_mul, Int.mul_assoc]
   have e4 : p * (m * c) = m * (p * c) := by ac_rfl
   have e5 : m * (p * c) = m * (x + x) := by rw [hc]
   have e6 : m * (x + x) = 2 * (m * x) := by rw [Int.mul_add]; omega
   omega
 · intro h
   obtain ⟨c, hc⟩ := Int.dvd_of_emod_eq_zero h
   exact Int.emod_eq_zero_of_dvd ⟨c + c, by rw [Int.mul_add, ← hc]⟩
theorem dg_md {p : Int} {k : Nat} (st : List Int) {i : Nat} (hi : i < pw k) (y : Int) : (y * (dgL p k st).getD i 0) % p = (y * dgZ st k i) % p := mul_md _ (dgL_at st hi)
theorem skew_at {p : Int} {k : Nat} (st : List Int) {i q : Nat} (hi : i < pw k) (hq : q < pw k) (x y : Int) : (x * (dgL p k st).getD i 0 + y * (dgL p k st).getD q 0) % p = (x * dgZ st k i + y * dgZ st k q) % p := cg_add (dg_md st hi x) (dg_md st hq y)
theorem form_at {p : Int} {k : Nat} (st : List Int) {i j q : Nat} (hi : i < pw k) (hj : j < pw k) (hq : q < pw k) (v : Nat → Int) : (sumTo (pw k) fun s => frmL p k st s j q * v (s * pw k + i) + frmL p k st i s q * v (pw k * pw k + (s * pw k + j)) + frmL p k st i j s * v (2 * (pw k * pw k) + (s * pw k + q))) % p = (v ((j ^^^ q) * pw k + i) * fmZ st k (j ^^^ q) j + v (pw k * pw k + ((i ^^^ q) * pw k + j)) * fmZ st k i (i ^^^ q) + v (2 * (pw k * pw k) + ((i ^^^ j) * pw k + q)) * fmZ st k i j) % p := by
 have x1 : ∀ s, s ^^^ j = q → s = j ^^^ q := fun s e => by rw [← e, Nat.xor_comm j, Nat.xor_assoc, Nat.xor_self, Nat.xor_zero]
 have x2 : ∀ s, i ^^^ s = q → s = i ^^^ q := fun s e => by rw [← e, ← Nat.xor_assoc, Nat.xor_self, Nat.zero_xor]
 have y1 : (j ^^^ q) ^^^ j = q := by rw [Nat.xor_comm j q, Nat.xor_assoc, Nat.xor_self, Nat.xor_zero]
 have y2 : i ^^^ (i ^^^ q) = q := by rw [← Nat.xor_assoc, Nat.xor_self, Nat.zero_xor]
 rw [sumTo_add, sumTo_add]
 refine cg_add (cg_add ?_ ?_) ?_
 · rw [sumTo_mod p (g := fun s => if s = j ^^^ q then v ((j ^^^ q) * pw k + i) * fmZ st k (j ^^^ q) j else 0) (fun s hs => ?_), sumTo_one (j ^^^ q) (xor_pw hj hq) (fun s _ h => if_neg h), if_pos rfl]
   rw [md_mul _ (frmL_co st hs hj hq)]
   by_cases h : s = j ^^^ q
   · subst h
     rw [if_pos y1, if_pos rfl, Int.mul_comm]
   · rw [if_neg (fun e => h (x1 s e)), if_neg h, Int.zero_mul]
 · rw [sumTo_mod p (g := fun s => if s = i ^^^ q then v (pw k * pw k + ((i ^^^ q) * pw k + j)) * fmZ st k i (i ^^^ q) else 0) (fun s hs => ?_), sumTo_one (i ^^^ q) (xor_pw hi hq) (fun s _ h => if_neg h), if_pos rfl]
   rw [md_mul _ (frmL_co st hi hs hq)]
   by_cases h : s = i ^^^ q
   · subst h
     rw [if_pos y2, if_pos rfl, Int.mul_comm]
   · rw [if_neg (fun e => h (x2 s e)), if_neg h, Int.zero_mul]
 · rw [sumTo_mod p (g := fun s => if s = i ^^^ j then v (2 * (pw k * pw k) + ((i ^^^ j) * pw k + q)) * fmZ st k i j else 0) (fun s hs => ?_), sumTo_one (i ^^^ j) (xor_pw hi hj) (fun s _ h => if_neg h), if_pos rfl]
   rw [md_mul _ (frmL_co st hi hj hs)]
   by_cases h : s = i ^^^ j
   · subst h
     rw [if_pos rfl, if_pos rfl, Int.mul_comm]
   · rw [if_neg (fun e => h e.symm), if_neg h, Int.zero_mul]
theorem locP_orth {p : Int} (k : Nat) (st : List Int) (v : Nat → Int) : Orth p (3 * (pw k * pw k)) (locP p k st) v ↔ LocEq p st k v := by
 rw [orth_mem]
 constructor
 · intro h
   have hs : ∀ part i q, part < 3 → i < pw k → q ≤ i → (v (part * (pw k * pw k) + (i * pw k + q)) * dgZ st k i + v (part * (pw k * pw k) + (q * pw k + i)) * dgZ st k q) % p = 0 := fun part i q h1 h2 h3 => by
    have := h _ (mem_locL.2 (.inl ⟨part, i, q, h1, h2, h3, rfl⟩))
    rwa [skewRow_dot _ h1 h2 (by omega), skew_at st h2 (by omega)] at this
   refine ⟨fun part i q h1 h2 h3 => Int.dvd_of_emod_eq_zero ?_, fun i j q hi hj hq => Int.dvd_of_emod_eq_zero ?_⟩
   · by_cases hle : q ≤ i
     · exact hs part i q h1 h2 hle
     · have := hs part q i h1 h3 (by omega)
       rwa [Int.add_comm] at this
   · have := h _ (mem_locL.2 (.inr ⟨i, j, q, hi, hj, hq, rfl⟩))
     rwa [formTo_dot _ hi hj hq v _ (Nat.le_refl _), form_at st hi hj hq] at this
 · rintro ⟨h1, h2⟩ x hx
   rcases mem_locL.1 hx with ⟨part, i, q, a1, a2, a3, rfl⟩ | ⟨i, j, q, a1, a2, a3, rfl⟩
   · rw [skewRow_dot _ a1 a2 (by omega), skew_at st a2 (by omega)]
     exact Int.emod_eq_zero_of_dvd (h1 part i q a1 a2 (by omega))
   · rw [formTo_dot _ a1 a2 a3 v _ (Nat.le_refl _), form_at st a1 a2 a3]
     exact Int.emod_eq_zero_of_dvd (h2 i j q a1 a2 a3)
theorem frmS_co {p : Int} (hp : 0 < p) {k : Nat} (st : List Int) {i j : Nat} (hi : i < pw k) (hj : j < pw k) (y : Int) : (frmS p (prodM p k st) i j * y) % p = (y * fmZ st k i j) % p := by
 have hx := xor_pw hi hj
 rw [Int.mul_comm]
 refine mul_md y ?_
 unfold frmS fmZ
 rw [cg_self, prodM_ent hp st hi hj, prodM_ent hp st hx hx, Int.mul_assoc]
 exact mul_md 2 (cg_mul (cg_self p _) (cg_self p _))
theorem locS_orth {p : Int} (hP : isP p = true) (k : Nat) (st : List Int) (v : Nat → Int) : Orth p (3 * (pw k * pw k)) (locS p k st) v ↔ LocEq p st k v := by
 have hp : 0 < p := by have := isP_ge hP; omega
 have hx : ∀ a b, a < pw k → b < pw k → a ^^^ b < pw k := fun a b => xor_pw
 have key : ∀ part i q, part < 3 → i < pw k → q ≤ i → ((sumTo (3 * (pw k * pw k)) fun a => (skewRowS (pw k) (dgL p k st) part i q).getD a 0 * v a) % p = 0 ↔ (v (part * (pw k * pw k) + (i * pw k + q)) * dgZ st k i + v (part * (pw k * pw k) + (q * pw k + i)) * dgZ st k q) % p = 0) := fun part i q h1 h2 h3 => by
  rw [skewRowS_dot _ h1 h2 (show q < pw k by omega)]
  by_cases h : i = q
  · subst h
    rw [if_pos rfl, two_dvd hP, dg_md st h2]
  · rw [if_neg h, skew_at st h2 (by omega)]
 have kf : ∀ i j q, i < pw k → j < pw k → q < pw k → (sumTo (3 * (pw k * pw k)) fun a => (formRowS p (pw k) (prodM p k st) i j q).getD a 0 * v a) % p = (v ((j ^^^ q) * pw k + i) * fmZ st k (j ^^^ q) j + v (pw k * pw k + ((i ^^^ q) * pw k + j)) * fmZ st k i (i ^^^ q) + v (2 * (pw k * pw k) + ((i ^^^ j) * pw k + q)) * fmZ st k i j) % p := fun i j q hi hj hq => by
  rw [formRowS_dot _ hx hi hj hq]
  exact cg_add (cg_add (frmS_co hp st (hx _ _ hj hq) hj _) (frmS_co hp st hi (hx _ _ hi hq) _)) (frmS_co hp st hi hj _)
 rw [orth_mem]
 constructor
 · intro h
   have hs : ∀ part i q, part < 3 → i < pw k → q ≤ i → (v (part * (pw k * pw k) + (i * pw k + q)) * dgZ st k i + v (part * (pw k * pw k) + (q * pw k + i)) * dgZ st k q) % p = 0 := fun part i q h1 h2 h3 => (key part i q h1 h2 h3).1 (h _ (mem_locL.2 (.inl ⟨part, i, q, h1, h2, h3, rfl⟩)))
   refine ⟨fun part i q h1 h2 h3 => Int.dvd_of_emod_eq_zero ?_, fun i j q hi hj hq => Int.dvd_of_emod_eq_zero ?_⟩
   · by_cases hle : q ≤ i
     · exact hs part i q h1 h2 hle
     · have := hs part q i h1 h3 (by omega)
       rwa [Int.add_comm] at this
   · have := h _ (mem_locL.2 (.inr ⟨i, j, q, hi, hj, hq, rfl⟩))
     rwa [kf i j q hi hj hq] at this
 · rintro ⟨h1, h2⟩ x hx
   rcases mem_locL.1 hx with ⟨part, i, q, a1, a2, a3, rfl⟩ | ⟨i, j, q, a1, a2, a3, rfl⟩
   · exact (key part i q a1 a2 a3).2 (Int.emod_eq_zero_of_dvd (h1 part i q a1 a2 (by omega)))
   · rw [kf i j q a1 a2 a3]
     exact Int.emod_eq_zero_of_dvd (h2 i j q a1 a2 a3)
/-- The reference's count of the basis. -/
theorem locS_dim {p : Int} (hP : isP p = true) {st : List Int} {k : Nat} (hk : k ≤ 3) (hst : ∀ b, b < k → st.getD b 0 % p ≠ 0) : (kernL p (locS p k st) (3 * (pw k * pw k))).length = locN k :=
 loc_dim hP hk hst (locS_tab (by have := isP_ge hP; omega) k st) fun v => locS_orth hP k st v
end Go.Proofs.YtaiegpggccdgoaaGreat
namespace Go.Proofs.YtaiegpggccdgoaaGreat
open Go Go.RowKit
section
variable {P : Program}
/-- A whole list of slices is appended to one of the call's own. -/
theorem wpList_appVals {ops : Array Oper} {rest : List Oper} {o : Oper} {a : Act} {Q : Exit → Act → World → Prop} (w0 wr : World)
    (hgd : o.guard = none) (s x : Operand) (ho : o.op = .call { callee := .builtin .append, args := #[s, x], argTypes := #[32, 32] })
    (A : Option Addr) (n c : Nat) (us : List Value) (B : Option Addr) (m d : Nat) (vs : List Value) (hM : Mk w0 wr 24 A n c us) (hY : Rd wr B m vs) (hv : ∀ v ∈ vs, v.oneCell' = true) (h0 : 0 < m) (hn : n ≤ 65536) (hm : m ≤ 65536)
    (hs : a.eval s = .slice A n c) (hx : a.eval x = .slice B m d)
    (h : ∀ A' c' w', Mk w0 w' 24 A' (n + m) c' (us ++ vs) → wr.grownBy w' (Value.slice A n c).ownBlock → wpList Tryz.prog ops Q rest (a.put o.dst (.slice A' (n + m) c')) w') :
    wpList Tryz.prog ops Q (o :: rest) a wr := by
 obtain ⟨i, hi, h1, h2, h3⟩ := info_parts info_s
 obtain ⟨b1, b2⟩ := bound_of (show n + m ≤ 1099511627776 by omega)
 have hyl : vs.length = m := hY.1
 obtain ⟨g, o', rfl, hc⟩ := hY.2 h0
 refine wpList_append_own_at wr hgd s x 32 ho w0.heap.size 24 i _ 1 24 Tryz.underlying32 hi h1 h2 h3 rfl (by omega) (.slice A n c) n us hs hM.2 ⟨g, o', none⟩ m d vs hx (by rw [hyl, Nat.mul_one]) (fun j u hu => by rw [Addr.add_lit]; exact hc j u hu) hv (by simp only [maxLen]; omega) (by have := b2 24 (by omega); omega) hM.1.size ?_
 intro v' w' hown hg _ _
 have hb' : Below w0.heap.size w0 w' := hM.1.grown hg hM.1.size (fun k hk => (hM.2.lt k hk).1)
 rcases hown.2 with ⟨_, h0⟩ | ⟨g, cap, cur, rfl, hr⟩
 · omega
 · exact h _ _ _ ⟨hb', hown⟩ hg
end
/-- A slice of slices that is read, with the values that those hold. -/
def RdVV (w : World) (A : Option Addr) (n : Nat) (vss : List (List Value)) : Prop := ∃ rows, Rd w A n rows ∧ rows.length = vss.length ∧
 ∀ (k : Nat) (h : k < vss.length), ∃ A' c', rows[k]? = some (.slice A' vss[k].length c') ∧ Rd w A' vss[k].length vss[k]
theorem RdVV.len {w : World} {A : Option Addr} {n : Nat} {vss : List (List Value)} (h : RdVV w A n vss) : vss.length = n := by obtain ⟨rows, hr, hl, _⟩ := h; rw [← hl]; exact hr.1
theorem RdVV.below {w w' : World} {A : Option Addr} {n : Nat} {vss : List (List Value)} (h : RdVV w A n vss) (hb : Below w.heap.size w w') : RdVV w' A n vss := by
 obtain ⟨rows, hr, hl, hk⟩ := h
 exact ⟨rows, hr.below hb, hl, fun k h => by obtain ⟨A', c', e, h1⟩ := hk k h; exact ⟨A', c', e, h1.below hb⟩⟩
theorem RdVV.at_ {w : World} {A : Option Addr} {n : Nat} {vss : List (List Value)} (h : RdVV w A n vss) {k : Nat} (hk : k < n) : ∃ g o, A = some ⟨g, o, none⟩ ∧ ∃ (hx : k < vss.length) (A' : Option Addr) (c' : Nat), w.cell? ⟨g, o + k, none⟩ = some (.slice A' vss[k].length c') ∧ Rd w A' vss[k].length vss[k] := by
 obtain ⟨rows, hr, hl, hrow⟩ := h
 have hxl : k < vss.length := by rw [← hl, hr.1]; exact hk
 obtain ⟨g, o, rfl, hc⟩ := hr.2 (by omega)
 obtain ⟨A', c', e, h1⟩ := hrow k hxl
 exact ⟨g, o, rfl, hxl, A', c', hc k _ e, h1⟩
set_option maxHeartbeats 800000 in
set_option maxRecDepth 8000 in
theorem growS_any (n : Nat) (w : World) (h0 : 0 < n) (hn : n ≤ 65536) :
    Calls Tryz.prog 149 #[.slice none 0 0, .int .i64 n] w fun e w' => ∃ A c, e = .returned (.slice A 0 c) ∧ Mk w w' 24 A 0 c [] := by
 obtain ⟨i, hi, h1, h2, h3⟩ := info_parts info_s
 have hrz := fun ty => Lib.run_append_nil_zeros (P := Tryz.prog) w 32 3 ty 24 i (.slice none 0 0) .i64 .i64 Tryz.underlying32 Tryz.underlying3 hi h1 n h0 (by omega) (by omega) (by rw [h3]; omega)
 have hge := grownCap_ge w n 0 24
 have hle := grownCap_le_maxLen w n 0 24 (by simp only [maxLen]; omega)
 obtain ⟨G, hG⟩ : ∃ G, G = grownCap w n 0 24 := ⟨_, rfl⟩
 rw [← hG] at hrz hge hle
 obtain ⟨Z, hZ⟩ : ∃ Z, Z = Builtin.zeroCells (Value.slice none 0 0).cells n ++ Builtin.zeroCells (Value.slice none 0 0).cells (G - n) := ⟨_, rfl⟩
 rw [← hZ] at hrz
 have hZs : Z.size = G := by rw [hZ]; simp [size_zeroCells, Value.cells]; omega
 have hO := World.ownsRow_made (base := w.heap.size) (e := 24) (size := 1) w.drew Z G (Nat.le_refl _) hle (by omega)
 have hM : Mk w (w.drew.alloc (.cells Z 24)) 24 (some ⟨w.heap.size, 0, none⟩) 0 G [] := ⟨(⟨rfl, rfl, rfl, Nat.le_refl _, fun _ _ => rfl⟩ : Below w.heap.size w w.drew).alloc (Nat.le_refl _) _, hO⟩
 have hG2 : G ≤ 9223372036854775807 := by unfold maxLen at hle; omega
 have t1 : ¬ ((n : Int) < 0) := by omega
 clear hZ hG hZs hO hle
 go_enter Tryz.func149, Tryz.ntmps149
 go_wp2_with (at_builtin; refine Lib.wpList_append_run _ rfl _ _ _ _ rfl _ _ rfl rfl _ _ (hrz _) ?_)
 go_ret
 exact ⟨_, _, rfl, hM⟩
theorem flatten_stepV {M : List (List Value)} {k : Nat} (h : k < M.length) : (M.take (k + 1)).flatten = (M.take k).flatten ++ M[k] := by
 rw [List.take_succ_eq_append_getElem h, List.flatten_append, List.flatten_cons, List.flatten_nil, List.append_nil]
theorem flatten_leV {M : List (List Value)} {b : Nat} (h : ∀ r ∈ M, r.length ≤ b) : ∀ k, (M.take k).flatten.length ≤ k * b := by
 intro k
 induction k with
 | zero => simp
 | succ k ih =>
  by_cases hk : k < M.length
  · rw [flatten_stepV hk, List.length_append]
    have := h M[k] (List.getElem_mem hk)
    rw [Nat.add_mul]; omega
  · rw [List.take_of_length_le (by omega)] at ih ⊢
    rw [Nat.add_mul]; omega
set_option maxHeartbeats 6400000 in
set_option maxRecDepth 8000 in
theorem concatS_any (A : Option Addr) (n c : Nat) (M : List (List Value)) (w : World) (h0 : 0 < n) (hn : n ≤ 64) (ha : RdVV w A n M) (hr : ∀ r ∈ M, (0 < r.length ∧ r.length ≤ 1000) ∧ ∀ v ∈ r, v.oneCell' = true) :
    Calls Tryz.prog 116 #[.slice A n c] w fun e w' => ∃ A' c', e = .returned (.slice A' M.flatten.length c') ∧ Mk w w' 24 A' M.flatten.length c' M.flatten := by
 have HR := Lib.hid hr
 have HL := Lib.hid ha.len
 have HF := Lib.hid (flatten_leV (M := M) (b := 1000) fun r h => (hr r h).1.2)
 have hpos : 0 < M.flatten.length := by
  cases M with
  | nil => have := ha.len; simp at this; omega
  | cons r M => rw [List.flatten_cons, List.length_append]; have := (hr r (by simp)).1.1; omega
 have hle : M.flatten.length ≤ 64000 := by
  have := HF.out n
  rw [List.take_of_length_le (by rw [HL.out]; omega)] at this
  omega
 obtain ⟨T, hT⟩ : ∃ T, T = M.flatten.length := ⟨_, rfl⟩
 have HT := Lib.hid hT
 rw [← hT] at hpos hle ⊢
 have hgr := fun w' => growS_any T w' hpos (by omega)
 clear hr hT
 go_enter Tryz.func116, Tryz.ntmps116
 go_wp2
 go_loopw [3, 11] (fun s i wr => ∃ (k z : Nat), k ≤ n ∧ i = .int .i64 k ∧ s = .int .i64 z ∧ z = (M.take k).flatten.length ∧ w = wr) (fun _ i _ => n - (intOf i).toNat)
 case atStart => exact ⟨0, 0, by omega, rfl, rfl, rfl, rfl⟩
 case round =>
  obtain ⟨k, z, hk, rfl, rfl, hz, rfl⟩ := hrel
  have HZ := Lib.hid hz
  have hz2 := HF.out k
  rw [← hz] at hz2
  have hz3 : z ≤ 64000 := by omega
  clear hz hz2
  by_cases hlt : k < n
  · obtain ⟨g, o, rfl, hx, A1, c1, hc1, hr1⟩ := ha.at_ hlt
    have hl := (HR.out M[k] (List.getElem_mem hx)).1.2
    have HS : Hid ((M.take (k + 1)).flatten.length = z + M[k].length) := Lib.hid (by rw [flatten_stepV hx, List.length_append, ← HZ.out])
    obtain ⟨q, hq⟩ : ∃ q, q = M[k].length := ⟨_, rfl⟩
    rw [← hq] at hc1 hl HS
    clear hr1 hq
    have e1 : IntKind.i64.wrap ((z : Int) + (q : Int)) = ((z + q : Nat) : Int) := by rw [i64_fit _ (by omega) (by omega)]; omega
    have t1 : ¬ (((z + q : Nat) : Int) < 0) := by omega
    go_wp2
    go_roundw
    case rel => exact ⟨k + 1, z + q, by omega, by go_num, rfl, HS.out.symm, by first | rfl | trivial⟩
    case measure => simp [intOf]; omega
  · obtain rfl : k = n := by omega
    obtain rfl : z = T := by rw [HZ.out, HT.out, List.take_of_length_le (by rw [HL.out]; omega)]
    go_wp2_with fail
    refine (hgr _).mono ?_
    rintro e w1 ⟨A0, c0, rfl, hM0⟩
    go_wp2
    clear hgr
    go_loopw [6, 27] (fun s i wr => ∃ (j z : Nat) (B : Option Addr) (d : Nat), j ≤ k ∧ i = .int .i64 j ∧ s = .slice B z d ∧ z = (M.take j).flatten.length ∧ Mk w wr 24 B z d (M.take j).flatten) (fun _ i _ => k - (intOf i).toNat)
    case atStart => exact ⟨0, 0, _, _, by omega, rfl, rfl, rfl, by simpa using hM0⟩
    case round =>
     obtain ⟨j, y, B, d, hj, rfl, rfl, hy, hM⟩ := hrel
     have HY := Lib.hid hy
     have hy2 := HF.out j
     rw [← hy] at hy2
     have hy3 : y ≤ 64000 := by omega
     clear hy hy2
     by_cases hjt : j < k
     · have hb1 : Below w.heap.size w wr := hM.b
       obtain ⟨g, o, rfl, hx, A1, c1, hc1, hr1⟩ := (ha.below hb1).at_ hjt
       obtain ⟨⟨hl0, hl⟩, hv1⟩ := HR.out M[j] (List.getElem_mem hx)
       have HV1 := Lib.hid hv1
       clear hv1
       have HS : Hid ((M.take (j + 1)).flatten = (M.take j).flatten ++ M[j]) := Lib.hid (flatten_stepV hx)
       obtain ⟨q, hq⟩ : ∃ q, q = M[j].length := ⟨_, rfl⟩
       rw [← hq] at hc1 hl hl0 hr1
       have HM := Lib.hid hM
       have HQ := Lib.hid hq
       have HR1 := Lib.hid hr1
       clear hM hq hr1 hM0
       go_wp2_with (at_builtin; refine wpList_appVals w wr rfl _ _ rfl B y d _ A1 q c1 _ HM.out HR1.out HV1.out hl0 (by omega) (by omega) rfl rfl ?_; intro A' c' w' hM' _)
       go_roundw
       case rel => exact ⟨j + 1, y + q, A', c', by omega, by go_num, rfl, by rw [HS.out, List.length_append, ← HY.out, ← HQ.out], by rw [HS.out]; exact hM'⟩
       case measure => simp [intOf]; omega
     · obtain rfl : j = k := by omega
       have e9 : M.take j = M := List.take_of_length_le (by rw [HL.out]; omega)
       rw [e9] at hM
       obtain rfl : y = z := by rw [HY.out, HT.out, e9]
       go_wp2
       go_ret
       exact ⟨_, _, rfl, hM⟩
end Go.Proofs.YtaiegpggccdgoaaGreat
