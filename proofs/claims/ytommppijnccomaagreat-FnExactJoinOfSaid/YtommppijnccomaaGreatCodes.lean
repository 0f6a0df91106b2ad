/-
  The codes of spaces, multivectors, vectors and regular spaces: both sides.
-/
import Derived.Test.YtommppijnccomaaGreatImp1
import Derived.Test.YtommppijnccomaaGreatTasks
import Derived.Test.YtommppijnccomaaGreatF2
namespace Go.Proofs.YtommppijnccomaaGreat
open Go.RowKit

/-- The code of a space and of multivectors. -/
def codeM (P : Int) (sq : List Int) (yss : List (List Int)) : Int := if isSp P sq then (if yss.any fun ys => !(isMu P sq ys) then 2 else 0) else 1
/-- Is it a vector of a space with the squares sq? -/
def isVe (P : Int) (sq ys : List Int) : Bool := (((ys.length : Nat) : Int) == ((sq.length : Nat) : Int)) && nums P ys
/-- The code of a space and of vectors. -/
def codeV (P : Int) (sq : List Int) (yss : List (List Int)) : Int := if isSp P sq then (if yss.any fun ys => !(isVe P sq ys) then 2 else 0) else 1
/-- Is no square 0? -/
def regB (sq : List Int) : Bool := !(sq.contains 0)

set_option maxHeartbeats 800000 in
theorem notMu (P : Int) (n : Nat) (g : Nat) (A : Option Addr) (c : Nat) (sq : List Int) (w : World) (hn : n ≤ 6) (hsq : sq.length = n) (hp0 : 0 < P) (hp1 : P ≤ 13) (hk : Blk w g 28 #[.int .i64 P, .slice A n c]) :
    Tells 92 #[.pointer (some ⟨g, 0, none⟩)] w (fun ys => !(isMu P sq ys)) (fun ys => ys.length ≤ 1048576) := by
  intro w' D m d ys hb hr hm
  have hyl : ys.length = m := by have := hr.1; rwa [ints_length] at this
  rw [hyl] at hm
  have k0 := hk.below hb hk.lt
  obtain ⟨q0, q1⟩ := k0.two
  have Hsq := Lib.hid hsq
  clear hyl hsq
  simp only [List.append_toArray, List.cons_append, List.nil_append]
  go_enter Tryz.func92, Tryz.ntmps92
  go_wp2_with fail
  refine (isMulti_any P A D n c m d sq ys _ hn Hsq.out hm hp0 hp1 hr).mono ?_
  rintro e w1 ⟨rfl, hb1⟩
  obtain ⟨b, hb'⟩ : ∃ b, b = isMu P sq ys := ⟨_, rfl⟩
  rw [← hb']
  have HB := Lib.hid hb'; clear hb'
  go_wp2
  go_ret
  exact ⟨ret_bool (by rw [HB.out]), hb1⟩

set_option maxHeartbeats 800000 in
theorem isVector_any (P : Int) (A B : Option Addr) (n c m d : Nat) (xs ys : List Int) (w : World) (_hn : n ≤ 1048576) (hxl : xs.length = n) (hm : m ≤ 1048576) (hp0 : 0 < P) (hp1 : P ≤ 13) (hb : Rd w B m (ints ys)) :
    Calls Tryz.prog 53 #[.agg #[.int .i64 P, .slice A n c], .slice B m d] w fun e w' => e = .returned (.bool (isVe P xs ys)) ∧ Below w.heap.size w w' := by
  have hyl : ys.length = m := by have := hb.1; rwa [ints_length] at this
  have hmu : isVe P xs ys = ((((m : Nat) : Int) == ((n : Nat) : Int)) && nums P ys) := by unfold isVe; rw [hxl, hyl]
  have Hmu := Lib.hid hmu
  have hB : Below w.heap.size w (w.alloc (.cells #[.int .i64 P, .slice A n c] 28)) := (Below.refl _ _).alloc (Nat.le_refl _) _
  have k0 : Blk (w.alloc (.cells #[.int .i64 P, .slice A n c] 28)) w.heap.size 28 #[.int .i64 P, .slice A n c] := Blk.new _ _ _
  clear hmu hxl hyl
  cases h2 : (((m : Nat) : Int) == ((n : Nat) : Int))
  all_goals
    have H2 := Lib.hid h2
    go_enter Tryz.func53, Tryz.ntmps53
    go_wp2_with fail
    refine (dim_any _ _ _ _ _).mono ?_
    rintro e w1 ⟨rfl, hb1⟩
    have k1 := k0.below hb1 k0.lt
    obtain ⟨q0, q1⟩ := k1.two
    have hB1 := hB.trans (hb1.mono (by simp))
    clear k0
    go_wp2_with fail
  · go_ret
    exact ⟨ret_bool (by rw [Hmu.out, H2.out]; rfl), hB1⟩
  · refine (field_any _ _ _ _ _).mono ?_
    rintro e w2 ⟨rfl, hb2⟩
    have hB2 := hB1.trans (hb2.mono hB1.size)
    go_wp2_with fail
    refine (is_any _ _ _ _ _ _ hp0 (by omega) (by omega) (hb.below hB2)).mono ?_
    rintro e w3 ⟨rfl, rfl⟩
    go_wp2
    go_ret
    exact ⟨ret_bool (by rw [Hmu.out, H2.out]; rfl), hB2⟩


set_option maxRecDepth 8000 in
set_option maxHeartbeats 1000000 in
theorem checkMultis_any (P : Int) (A B : Option Addr) (n c m d : Nat) (sq : List Int) (yss : List (List Int)) (w : World) (hn : n ≤ 1048576) (hm : m ≤ 1048576) (ha : Rd w A n (ints sq)) (hb : RdII w B m yss) (hys : ∀ ys ∈ yss, ys.length ≤ 1048576) :
    Calls Tryz.prog 52 #[.agg #[.int .i64 P, .slice A n c], .slice B m d] w fun e w' => e = .returned (.int .i64 (codeM P sq yss)) ∧ Below w.heap.size w w' := by
  have hxl : sq.length = n := by have := ha.1; rwa [ints_length] at this
  have hB : Below w.heap.size w (w.alloc (.cells #[.int .i64 P, .slice A n c] 28)) := (Below.refl _ _).alloc (Nat.le_refl _) _
  have k0 : Blk (w.alloc (.cells #[.int .i64 P, .slice A n c] 28)) w.heap.size 28 #[.int .i64 P, .slice A n c] := Blk.new _ _ _
  have hmf : ∀ (fn : Fn) (first cap : Array Value) (w : World), (Instr.makeFunc fn first cap).run Tryz.prog w = .ok (.func fn first cap) w := fun _ _ _ _ => rfl
  cases h1 : isSp P sq
  · have H1 := Lib.hid h1; clear h1 hxl
    go_enter Tryz.func52, Tryz.ntmps52
    go_wp2_with fail
    refine (IsSpace_b _ _ _ _ _ _ (by omega) (ha.below hB) H1.out).mono ?_
    rintro e w1 ⟨rfl, hb1⟩
    go_wp2
    go_ret
    exact ⟨ret_int (by unfold codeM; rw [H1.out]; rfl), hB.trans (hb1.mono (by simp))⟩
  obtain ⟨hp, hd1, hd2, -⟩ := isSp_dim h1
  obtain ⟨hp0, hp1⟩ := isP_pos hp
  rw [hxl] at hd1 hd2
  have H1 := Lib.hid h1; have Hx := Lib.hid hxl; clear h1 hp hxl
  cases h2 : (yss.any fun ys => !(isMu P sq ys))
  all_goals
    have H2 := Lib.hid h2; clear h2
    go_enter Tryz.func52, Tryz.ntmps52
    go_wp2_with fail
    refine (IsSpace_b _ _ _ _ _ _ (by omega) (ha.below hB) H1.out).mono ?_
    rintro e w1 ⟨rfl, hb1⟩
    have hB1 := hB.trans (hb1.mono (by simp))
    have hT := notMu P n w.heap.size A c sq w1 (by omega) Hx.out hp0 hp1 (k0.below hb1 k0.lt)
    go_wp2_with fail
    refine (ContainsFunc_any _ _ _ _ _ _ _ _ _ (by omega) (hb.below hB1) hys hT (fun _ _ => rfl)).mono ?_
    rintro e w2 ⟨rfl, hb2⟩
    rw [H2.out]
    go_wp2
    go_ret
    exact ⟨ret_int (by unfold codeM; rw [H1.out, H2.out]; rfl), hB1.trans (hb2.mono hB1.size)⟩



/-- The code of a regular space, multivectors and vectors. -/
def codeVs (P : Int) (sq : List Int) (ms vs : List (List Int)) : Int := if codeM P sq ms = 0 then (if codeV P sq vs = 0 then (if regB sq then 0 else 5) else codeV P sq vs) else codeM P sq ms
theorem code_ne {a : Int} (h : ¬ a = 0) : (a != 0) = true := by simp [h]
theorem code_eq {a : Int} (h : a = 0) : (a != 0) = false := by simp [h]


theorem any_take_succ {α : Type} {q : α → Bool} {xs : List α} {k : Nat} (hk : k < xs.length) (h : (xs.take k).any q = false) (h2 : q xs[k] = false) : (xs.take (k + 1)).any q = false := by
  rw [List.take_succ_eq_append_getElem hk, List.any_append, h]; simpa using h2
set_option maxRecDepth 8000 in
set_option maxHeartbeats 1600000 in
theorem l04Code_any (P : Int) (A B : Option Addr) (n c m d : Nat) (sq : List Int) (yss : List (List Int)) (w : World) (hn : n ≤ 1048576) (hm : m ≤ 1048576) (ha : Rd w A n (ints sq)) (hb : RdII w B m yss) (hys : ∀ ys ∈ yss, ys.length ≤ 1048576) :
    Calls Tryz.prog 85 #[.agg #[.int .i64 P, .slice A n c], .slice B m d] w fun e w' => e = .returned (.int .i64 (codeM P sq yss)) ∧ Below w.heap.size w w' := by
  have hyl := hb.len
  have hB : Below w.heap.size w (w.alloc (.cells #[.int .i64 P, .slice A n c] 28)) := (Below.refl _ _).alloc (Nat.le_refl _) _
  have k0 : Blk (w.alloc (.cells #[.int .i64 P, .slice A n c] 28)) w.heap.size 28 #[.int .i64 P, .slice A n c] := Blk.new _ _ _
  have HY := Lib.hid hyl; clear hyl
  cases h1 : isSp P sq
  · have H1 := Lib.hid h1; clear h1
    go_enter Tryz.func85, Tryz.ntmps85
    go_wp2_with fail
    refine (l03Is_b _ _ _ _ _ _ (by omega) (ha.below hB) H1.out).mono ?_
    rintro e w1 ⟨rfl, hb1⟩
    go_wp2
    go_ret
    exact ⟨ret_int (by unfold codeM; rw [H1.out]; rfl), hB.trans (hb1.mono (by simp))⟩
  have H1 := Lib.hid h1; clear h1
  go_enter Tryz.func85, Tryz.ntmps85
  go_wp2_with fail
  refine (l03Is_b _ _ _ _ _ _ (by omega) (ha.below hB) H1.out).mono ?_
  rintro e w1 ⟨rfl, hb1⟩
  have hB1 := hB.trans (hb1.mono (by simp))
  have k1 := k0.below hb1 k0.lt
  clear k0 hb1 hB
  go_wp2_with fail
  go_loopw [5] (fun i wr => ∃ k : Nat, k ≤ m ∧ i = .int .i64 k ∧ (yss.take k).any (fun ys => !(isMu P sq ys)) = false ∧ Blk wr w.heap.size 28 #[.int .i64 P, .slice A n c] ∧ Below w.heap.size w wr) (fun i _ => m - (intOf i).toNat)
  case atStart => exact ⟨0, by omega, rfl, by simp, k1, hB1⟩
  case round =>
    obtain ⟨k, hk, rfl, ht, hk2, hBr⟩ := hrel
    have HT := Lib.hid ht
    clear k1 hB1 ht
    by_cases hlt : k < m
    · obtain ⟨g, o, rfl, hxk, A', c', hcx, hr, hcc⟩ := (hb.below hBr).at_ hlt
      have hr := (hb.at_ hlt)
      obtain ⟨g', o', e', hx', A'', c'', hcw, hrw, _⟩ := hr
      have hr0 : Rd w A' yss[k].length (ints yss[k]) := by
        injection e' with e'; injection e' with e1 e2 _
        subst e1; subst e2
        have := (hBr.cell (World.block_lt_of_cell? _ _ hcw)).trans hcw
        rw [hcx] at this
        injection this with this
        injection this with e3 _ _
        rw [e3]; exact hrw
      clear hcw hrw e' hr
      have hr := hr0
      clear hr0
      have HL := hys yss[k] (List.getElem_mem hxk)
      have i1 : (0 : Int) ≤ (k : Int) := by omega
      have i2 : (k : Int) < (m : Int) := by omega
      cases hi : (isSp P sq && isMu P sq yss[k])
      · have HI := Lib.hid hi
        clear hi
        go_wp2
        refine wp_obs 7 [[], [], [], [1, 2], [1, 2, 3], [0, 1, 2, 3, 4], [0, 1, 2, 3, 4, 5]] [VIs (.agg #[.int .i64 P, .slice A n c]), VIs (.slice (some ⟨g, o, none⟩) m d), VIs (.int .i64 k), VIs (.pointer (some ⟨g, o + k, none⟩)), VIs (.slice A' yss[k].length c'), VIs (.bool false), VIs (.bool true)] (fun w' => Blk w' w.heap.size 28 #[.int .i64 P, .slice A n c] ∧ Below w.heap.size w w' ∧ w'.cell? ⟨g, o + k, none⟩ = some (.slice A' yss[k].length c')) (by kernel_rfl) (by kernel_rfl) (fun _ _ h hb => ⟨h.1.below hb h.1.lt, h.2.1.trans (hb.mono h.2.1.size), (hb.cell (World.block_lt_of_cell? _ _ h.2.2)).trans h.2.2⟩) (⟨hk2.drew, hBr.drew, hcx⟩) (fun x => ?_)
        refine obs_step (Eq.trans (by simp only [List.getElem?_toArray, List.getElem?_cons_zero]; exact rfl) rfl) rfl (fun w' hS hV K hK => ?_) ?_
        · obtain ⟨q0, q1⟩ := hS.1.two; have q2 := hS.2.2
          go_simp
          exact hK.out _ _ _ rfl rfl rfl (Below.refl _ _)
        simp only [List.setIfInBounds_toArray, List.set_cons_zero, List.set_cons_succ]
        refine obs_step (Eq.trans (by simp only [List.getElem?_toArray, List.getElem?_cons_succ, List.getElem?_cons_zero]; exact rfl) rfl) rfl (fun w' hS hV K hK => ?_) ?_
        · obtain ⟨q0, q1⟩ := hS.1.two; have q2 := hS.2.2
          go_simp
          exact hK.out _ _ _ rfl rfl rfl (Below.refl _ _)
        simp only [List.setIfInBounds_toArray, List.set_cons_zero, List.set_cons_succ]
        refine obs_step (Eq.trans (by simp only [List.getElem?_toArray, List.getElem?_cons_succ, List.getElem?_cons_zero]; exact rfl) rfl) rfl (fun w' hS hV K hK => ?_) ?_
        · obtain ⟨q0, q1⟩ := hS.1.two; have q2 := hS.2.2
          go_simp
          exact hK.out _ _ _ rfl rfl rfl (Below.refl _ _)
        simp only [List.setIfInBounds_toArray, List.set_cons_zero, List.set_cons_succ]
        refine obs_step (Eq.trans (by simp only [List.getElem?_toArray, List.getElem?_cons_succ, List.getElem?_cons_zero]; exact rfl) rfl) rfl (fun w' hS hV K hK => ?_) ?_
        · simp only [List.mem_cons, List.not_mem_nil, or_false, forall_eq_or_imp, forall_eq, List.getD_cons_succ, List.getD_cons_zero, VIs, VAny] at hV
          obtain ⟨e1, e2⟩ := hV
          obtain ⟨q0, q1⟩ := hS.1.two; have q2 := hS.2.2
          go_simp
          exact hK.out _ _ _ rfl rfl rfl (Below.refl _ _)
        simp only [List.setIfInBounds_toArray, List.set_cons_zero, List.set_cons_succ]
        refine obs_step (Eq.trans (by simp only [List.getElem?_toArray, List.getElem?_cons_succ, List.getElem?_cons_zero]; exact rfl) rfl) rfl (fun w' hS hV K hK => ?_) ?_
        · simp only [List.mem_cons, List.not_mem_nil, or_false, forall_eq_or_imp, forall_eq, List.getD_cons_succ, List.getD_cons_zero, VIs, VAny] at hV
          obtain ⟨e1, e2, e3⟩ := hV
          obtain ⟨q0, q1⟩ := hS.1.two; have q2 := hS.2.2
          go_simp
          exact hK.out _ _ _ rfl rfl rfl (Below.refl _ _)
        simp only [List.setIfInBounds_toArray, List.set_cons_zero, List.set_cons_succ]
        refine obs_step (Eq.trans (by simp only [List.getElem?_toArray, List.getElem?_cons_succ, List.getElem?_cons_zero]; exact rfl) rfl) rfl (fun w' hS hV K hK => ?_) ?_
        · simp only [List.mem_cons, List.not_mem_nil, or_false, forall_eq_or_imp, forall_eq, List.getD_cons_succ, List.getD_cons_zero, VIs, VAny] at hV
          obtain ⟨e0, e1, e2, e3, e4⟩ := hV
          obtain ⟨q0, q1⟩ := hS.1.two; have q2 := hS.2.2
          go_simp
          refine (l04Is_b P A A' n c _ c' sq yss[k] _ hn HL (ha.below hS.2.1) (hr.below hS.2.1) HI.out).mono ?_
          rintro e w1 ⟨rfl, hb⟩
          exact hK.out _ _ _ rfl rfl rfl hb
        simp only [List.setIfInBounds_toArray, List.set_cons_zero, List.set_cons_succ]
        refine obs_step (Eq.trans (by simp only [List.getElem?_toArray, List.getElem?_cons_succ, List.getElem?_cons_zero]; exact rfl) rfl) rfl (fun w' hS hV K hK => ?_) ?_
        · simp only [List.mem_cons, List.not_mem_nil, or_false, forall_eq_or_imp, forall_eq, List.getD_cons_succ, List.getD_cons_zero, VIs, VAny] at hV
          obtain ⟨e0, e1, e2, e3, e4, e5⟩ := hV
          obtain ⟨q0, q1⟩ := hS.1.two; have q2 := hS.2.2
          go_simp
          exact hK.out _ _ _ rfl rfl rfl (Below.refl _ _)
        simp only [List.setIfInBounds_toArray, List.set_cons_zero, List.set_cons_succ]
        refine fun w' hS hV => ?_
        have hV := fun i hi => hV i (List.mem_range.1 hi)
        simp only [List.range, List.range.loop, List.mem_cons, List.not_mem_nil, or_false, forall_eq_or_imp, forall_eq, List.getD_cons_succ, List.getD_cons_zero, VIs, VAny] at hV
        obtain ⟨e0, e1, e2, e3, e4, e5, e6⟩ := hV
        simp only [e0, e1, e2, e3, e4, e5, e6]
        clear e0 e1 e2 e3 e4 e5 e6
        refine wpAny_done (by kernel_rfl) ?_ _
        go_wp2
        go_ret
        refine ⟨ret_int ?_, hS.2.1⟩
        have hmu : isMu P sq yss[k] = false := by have := HI.out; rw [H1.out] at this; simpa using this
        have : (yss.any fun ys => !(isMu P sq ys)) = true := List.any_eq_true.2 ⟨yss[k], List.getElem_mem hxk, by rw [hmu]; rfl⟩
        unfold codeM
        rw [H1.out, if_pos rfl, if_pos this]
      · have HI := Lib.hid hi
        clear hi
        go_wp2
        refine wp_obs 7 [[], [], [], [1, 2], [1, 2, 3], [0, 1, 2, 3, 4], [0, 1, 2, 3, 4, 5]] [VIs (.agg #[.int .i64 P, .slice A n c]), VIs (.slice (some ⟨g, o, none⟩) m d), VIs (.int .i64 k), VIs (.pointer (some ⟨g, o + k, none⟩)), VIs (.slice A' yss[k].length c'), VIs (.bool true), VIs (.bool false)] (fun w' => Blk w' w.heap.size 28 #[.int .i64 P, .slice A n c] ∧ Below w.heap.size w w' ∧ w'.cell? ⟨g, o + k, none⟩ = some (.slice A' yss[k].length c')) (by kernel_rfl) (by kernel_rfl) (fun _ _ h hb => ⟨h.1.below hb h.1.lt, h.2.1.trans (hb.mono h.2.1.size), (hb.cell (World.block_lt_of_cell? _ _ h.2.2)).trans h.2.2⟩) (⟨hk2.drew, hBr.drew, hcx⟩) (fun x => ?_)
        refine obs_step (Eq.trans (by simp only [List.getElem?_toArray, List.getElem?_cons_zero]; exact rfl) rfl) rfl (fun w' hS hV K hK => ?_) ?_
        · obtain ⟨q0, q1⟩ := hS.1.two; have q2 := hS.2.2
          go_simp
          exact hK.out _ _ _ rfl rfl rfl (Below.refl _ _)
        simp only [List.setIfInBounds_toArray, List.set_cons_zero, List.set_cons_succ]
        refine obs_step (Eq.trans (by simp only [List.getElem?_toArray, List.getElem?_cons_succ, List.getElem?_cons_zero]; exact rfl) rfl) rfl (fun w' hS hV K hK => ?_) ?_
        · obtain ⟨q0, q1⟩ := hS.1.two; have q2 := hS.2.2
          go_simp
          exact hK.out _ _ _ rfl rfl rfl (Below.refl _ _)
        simp only [List.setIfInBounds_toArray, List.set_cons_zero, List.set_cons_succ]
        refine obs_step (Eq.trans (by simp only [List.getElem?_toArray, List.getElem?_cons_succ, List.getElem?_cons_zero]; exact rfl) rfl) rfl (fun w' hS hV K hK => ?_) ?_
        · obtain ⟨q0, q1⟩ := hS.1.two; have q2 := hS.2.2
          go_simp
          exact hK.out _ _ _ rfl rfl rfl (Below.refl _ _)
        simp only [List.setIfInBounds_toArray, List.set_cons_zero, List.set_cons_succ]
        refine obs_step (Eq.trans (by simp only [List.getElem?_toArray, List.getElem?_cons_succ, List.getElem?_cons_zero]; exact rfl) rfl) rfl (fun w' hS hV K hK => ?_) ?_
        · simp only [List.mem_cons, List.not_mem_nil, or_false, forall_eq_or_imp, forall_eq, List.getD_cons_succ, List.getD_cons_zero, VIs, VAny] at hV
          obtain ⟨e1, e2⟩ := hV
          obtain ⟨q0, q1⟩ := hS.1.two; have q2 := hS.2.2
          go_simp
          exact hK.out _ _ _ rfl rfl rfl (Below.refl _ _)
        simp only [List.setIfInBounds_toArray, List.set_cons_zero, List.set_cons_succ]
        refine obs_step (Eq.trans (by simp only [List.getElem?_toArray, List.getElem?_cons_succ, List.getElem?_cons_zero]; exact rfl) rfl) rfl (fun w' hS hV K hK => ?_) ?_
        · simp only [List.mem_cons, List.not_mem_nil, or_false, forall_eq_or_imp, forall_eq, List.getD_cons_succ, List.getD_cons_zero, VIs, VAny] at hV
          obtain ⟨e1, e2, e3⟩ := hV
          obtain ⟨q0, q1⟩ := hS.1.two; have q2 := hS.2.2
          go_simp
          exact hK.out _ _ _ rfl rfl rfl (Below.refl _ _)
        simp only [List.setIfInBounds_toArray, List.set_cons_zero, List.set_cons_succ]
        refine obs_step (Eq.trans (by simp only [List.getElem?_toArray, List.getElem?_cons_succ, List.getElem?_cons_zero]; exact rfl) rfl) rfl (fun w' hS hV K hK => ?_) ?_
        · simp only [List.mem_cons, List.not_mem_nil, or_false, forall_eq_or_imp, forall_eq, List.getD_cons_succ, List.getD_cons_zero, VIs, VAny] at hV
          obtain ⟨e0, e1, e2, e3, e4⟩ := hV
          obtain ⟨q0, q1⟩ := hS.1.two; have q2 := hS.2.2
          go_simp
          refine (l04Is_b P A A' n c _ c' sq yss[k] _ hn HL (ha.below hS.2.1) (hr.below hS.2.1) HI.out).mono ?_
          rintro e w1 ⟨rfl, hb⟩
          exact hK.out _ _ _ rfl rfl rfl hb
        simp only [List.setIfInBounds_toArray, List.set_cons_zero, List.set_cons_succ]
        refine obs_step (Eq.trans (by simp only [List.getElem?_toArray, List.getElem?_cons_succ, List.getElem?_cons_zero]; exact rfl) rfl) rfl (fun w' hS hV K hK => ?_) ?_
        · simp only [List.mem_cons, List.not_mem_nil, or_false, forall_eq_or_imp, forall_eq, List.getD_cons_succ, List.getD_cons_zero, VIs, VAny] at hV
          obtain ⟨e0, e1, e2, e3, e4, e5⟩ := hV
          obtain ⟨q0, q1⟩ := hS.1.two; have q2 := hS.2.2
          go_simp
          exact hK.out _ _ _ rfl rfl rfl (Below.refl _ _)
        simp only [List.setIfInBounds_toArray, List.set_cons_zero, List.set_cons_succ]
        refine fun w' hS hV => ?_
        have hV := fun i hi => hV i (List.mem_range.1 hi)
        simp only [List.range, List.range.loop, List.mem_cons, List.not_mem_nil, or_false, forall_eq_or_imp, forall_eq, List.getD_cons_succ, List.getD_cons_zero, VIs, VAny] at hV
        obtain ⟨e0, e1, e2, e3, e4, e5, e6⟩ := hV
        simp only [e0, e1, e2, e3, e4, e5, e6]
        clear e0 e1 e2 e3 e4 e5 e6
        refine wpAny_done (by kernel_rfl) ?_ _
        go_wp2
        have hmu : isMu P sq yss[k] = true := by have := HI.out; rw [H1.out] at this; simpa using this
        have HN := Lib.hid (any_take_succ (q := fun ys => !(isMu P sq ys)) hxk HT.out (by rw [hmu]; rfl))
        clear hmu
        go_roundw
        case rel => exact ⟨k + 1, by omega, by go_num, HN.out, hS.1, hS.2.1⟩
        case measure => simp [intOf]; omega
    · obtain rfl : k = m := by omega
      go_wp2
      go_ret
      refine ⟨ret_int ?_, hBr⟩
      have := HT.out
      rw [List.take_of_length_le (by rw [HY.out]; omega)] at this
      unfold codeM
      rw [H1.out, this]; rfl

/-- The product of the first k squares. -/
def discT (p : Int) (sq : List Int) : Nat → Int
  | 0 => 1
  | k + 1 => discT p sq k * sq.getD k 0 % p
theorem discT_small (p : Int) (sq : List Int) (hp : 2 ≤ p) : ∀ k, 0 ≤ discT p sq k ∧ discT p sq k < p := by
  intro k
  cases k with
  | zero => simp only [discT]; omega
  | succ k => exact emod_small _ _ (by omega)
theorem mul_zero_all : ∀ p ∈ [(3 : Nat), 5, 7, 11, 13], ∀ a < p, ∀ b < p, a * b % p = 0 → a = 0 ∨ b = 0 := by decide +kernel
theorem mul_zero_mod {p a b : Int} (h : isP p = true) (ha : 0 ≤ a ∧ a < p) (hb : 0 ≤ b ∧ b < p) (h0 : a * b % p = 0) : a = 0 ∨ b = 0 := by
  have hm : p.toNat ∈ [(3 : Nat), 5, 7, 11, 13] := by
    have : p = 3 ∨ p = 5 ∨ p = 7 ∨ p = 11 ∨ p = 13 := by simp [isP] at h; omega
    rcases this with rfl | rfl | rfl | rfl | rfl <;> decide
  have hp : 0 < p := by omega
  have e : ((a.toNat * b.toNat % p.toNat : Nat) : Int) = 0 := by
    rw [Int.natCast_emod, Int.natCast_mul, Int.toNat_of_nonneg ha.1, Int.toNat_of_nonneg hb.1, Int.toNat_of_nonneg (by omega)]; exact h0
  have := mul_zero_all p.toNat hm a.toNat (by omega) b.toNat (by omega) (by omega)
  omega
theorem discT_zero {p : Int} (h : isP p = true) {sq : List Int} (hs : NumsL p sq) : ∀ k, k ≤ sq.length → (discT p sq k = 0 ↔ ∃ i, i < k ∧ sq.getD i 0 = 0) := by
  have hp := isP_ge h
  intro k
  induction k with
  | zero =>
    intro _
    simp only [discT]
    constructor
    · intro h; omega
    · rintro ⟨i, hi, _⟩; omega
  | succ k ih =>
    intro hk
    have ih := ih (by omega)
    simp only [discT]
    constructor
    · intro h0
      rcases mul_zero_mod h (discT_small p sq (by omega) k) (hs.getD (by omega) k) h0 with h1 | h1
      · obtain ⟨i, hi, hz⟩ := ih.1 h1; exact ⟨i, by omega, hz⟩
      · exact ⟨k, by omega, h1⟩
    · rintro ⟨i, hi, hz⟩
      by_cases hik : i = k
      · subst hik; rw [hz, Int.mul_zero]; rfl
      · rw [ih.2 ⟨i, by omega, hz⟩, Int.zero_mul]; rfl
theorem disc_reg {p : Int} (h : isP p = true) {sq : List Int} (hs : NumsL p sq) : (discT p sq sq.length == 0) = !(regB sq) := by
  unfold regB
  rw [Bool.not_not, Bool.eq_iff_iff, beq_iff_eq, discT_zero h hs _ (Nat.le_refl _), List.contains_iff_mem]
  constructor
  · rintro ⟨i, hi, hz⟩
    rw [List.getD_eq_getElem?_getD, List.getElem?_eq_getElem hi] at hz
    have : sq[i] = 0 := hz
    rw [← this]; exact List.getElem_mem hi
  · intro hm
    obtain ⟨i, hi, he⟩ := List.getElem_of_mem hm
    exact ⟨i, hi, by rw [List.getD_eq_getElem?_getD, List.getElem?_eq_getElem hi]; exact he⟩


/-- The code of a regular space and of multivectors. -/
def codeR (P : Int) (sq : List Int) (ms : List (List Int)) : Int := if codeM P sq ms = 0 then (if regB sq then 0 else 5) else codeM P sq ms
theorem nums_numsL {P : Int} {xs : List Int} (h : nums P xs = true) : NumsL P xs := fun x hx => by
  have := List.all_eq_true.1 h x hx
  simp [inR] at this
  omega
theorem codeM_sp {P : Int} {sq : List Int} {ms : List (List Int)} (h : codeM P sq ms = 0) : isSp P sq = true ∧ ∀ ys ∈ ms, isMu P sq ys = true := by
  unfold codeM at h
  cases h1 : isSp P sq
  · rw [h1] at h; simp at h
  · rw [h1, if_pos rfl] at h
    refine ⟨rfl, fun ys hy => ?_⟩
    cases h2 : isMu P sq ys
    · exfalso
      have : (ms.any fun ys => !(isMu P sq ys)) = true := List.any_eq_true.2 ⟨ys, hy, by rw [h2]; rfl⟩
      rw [if_pos this] at h
      omega
    · rfl


set_option maxHeartbeats 800000 in
theorem l03Vector_any (P : Int) (A B : Option Addr) (n c m d : Nat) (xs ys : List Int) (w : World) (_hn : n ≤ 1048576) (hxl : xs.length = n) (hm : m ≤ 1048576) (hp0 : 0 < P) (hp1 : P ≤ 13) (hb : Rd w B m (ints ys)) :
    Calls Tryz.prog 86 #[.agg #[.int .i64 P, .slice A n c], .slice B m d] w fun e w' => e = .returned (.bool (isVe P xs ys)) ∧ Below w.heap.size w w' := by
  have hyl : ys.length = m := by have := hb.1; rwa [ints_length] at this
  have hmu : isVe P xs ys = ((((m : Nat) : Int) == ((n : Nat) : Int)) && nums P ys) := by unfold isVe; rw [hxl, hyl]
  have Hmu := Lib.hid hmu
  have hB : Below w.heap.size w (w.alloc (.cells #[.int .i64 P, .slice A n c] 28)) := (Below.refl _ _).alloc (Nat.le_refl _) _
  have k0 : Blk (w.alloc (.cells #[.int .i64 P, .slice A n c] 28)) w.heap.size 28 #[.int .i64 P, .slice A n c] := Blk.new _ _ _
  obtain ⟨q0, q1⟩ := k0.two
  clear hmu hxl hyl
  cases h2 : (((m : Nat) : Int) == ((n : Nat) : Int))
  all_goals
    have H2 := Lib.hid h2
    go_enter Tryz.func86, Tryz.ntmps86
    go_wp2_with (go_at_call 122; refine (l01Numbers_any _ _ _ _ _ _ hp0 (by omega) (by omega) (hb.below hB)).mono ?_; rintro e w' ⟨rfl, rfl⟩)
    go_ret
    exact ⟨ret_bool (by rw [Hmu.out, H2.out]; rfl), hB⟩

end Go.Proofs.YtommppijnccomaaGreat
