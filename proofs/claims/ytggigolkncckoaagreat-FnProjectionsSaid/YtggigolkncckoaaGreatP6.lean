/-
  LawFnProjections: part 6 of the texts that the proof needs. No condition.
-/
import Derived.Test.YtggigolkncckoaaGreatP5
namespace Go.Proofs.YtggigolkncckoaaGreat
open Go.RowKit
/-- The code of a space and of multivectors. -/
def codeM (P : Int) (sq : List Int) (yss : List (List Int)) : Int := if isSp P sq then (if yss.any fun ys => !(isMu P sq ys) then 2 else 0) else 1
/-- Is it a vector of a space with the squares sq? -/
def isVe (P : Int) (sq ys : List Int) : Bool := (((ys.length : Nat) : Int) == ((sq.length : Nat) : Int)) && nums P ys
/-- The code of a space and of vectors. -/
def codeV (P : Int) (sq : List Int) (yss : List (List Int)) : Int := if isSp P sq then (if yss.any fun ys => !(isVe P sq ys) then 2 else 0) else 1
/-- Is no square 0? -/
def regB (sq : List Int) : Bool := !(sq.contains 0)
set_option maxHeartbeats 800000 in
theorem notMu (P : Int) (n : Nat) (g : Nat) (A : Option Addr) (c : Nat) (sq : List Int) (w : World) (hn : n ≤ 6) (hsq : sq.length = n) (hp0 : 0 < P) (hp1 : P ≤ 13) (hk : Blk w g 26 #[.int .i64 P, .slice A n c]) :
    Tells 277 #[.pointer (some ⟨g, 0, none⟩)] w (fun ys => !(isMu P sq ys)) (fun ys => ys.length ≤ 1048576) := by
  intro w' D m d ys hb hr hm
  have hyl : ys.length = m := by have := hr.1; rwa [ints_length] at this
  rw [hyl] at hm
  have k0 := hk.below hb hk.lt
  obtain ⟨q0, q1⟩ := k0.two
  have Hsq := Lib.hid hsq
  clear hyl hsq
  simp only [List.append_toArray, List.cons_append, List.nil_append]
  go_enter Tryz.func277, Tryz.ntmps277
  go_wp2_with fail
  refine (isMulti_any P A D n c m d sq ys _ hn Hsq.out hm hp0 hp1 hr).mono ?_
  rintro e w1 ⟨rfl, hb1⟩
  obtain ⟨b, hb'⟩ : ∃ b, b = isMu P sq ys := ⟨_, rfl⟩
  rw [← hb']
  have HB := Lib.hid hb'; clear hb'
  go_wp2
  go_ret
  exact ⟨ret_bool (by rw [HB.out]), hb1⟩
set_option maxHeartbeats 800000 in
theorem isVector_any (P : Int) (A B : Option Addr) (n c m d : Nat) (xs ys : List Int) (w : World) (_hn : n ≤ 1048576) (hxl : xs.length = n) (hm : m ≤ 1048576) (hp0 : 0 < P) (hp1 : P ≤ 13) (hb : Rd w B m (ints ys)) :
    Calls Tryz.prog 233 #[.agg #[.int .i64 P, .slice A n c], .slice B m d] w fun e w' => e = .returned (.bool (isVe P xs ys)) ∧ Below w.heap.size w w' := by
  have hyl : ys.length = m := by have := hb.1; rwa [ints_length] at this
  have hmu : isVe P xs ys = ((((m : Nat) : Int) == ((n : Nat) : Int)) && nums P ys) := by unfold isVe; rw [hxl, hyl]
  have Hmu := Lib.hid hmu
  have hB : Below w.heap.size w (w.alloc (.cells #[.int .i64 P, .slice A n c] 26)) := (Below.refl _ _).alloc (Nat.le_refl _) _
  have k0 : Blk (w.alloc (.cells #[.int .i64 P, .slice A n c] 26)) w.heap.size 26 #[.int .i64 P, .slice A n c] := Blk.new _ _ _
  clear hmu hxl hyl
  cases h2 : (((m : Nat) : Int) == ((n : Nat) : Int))
  all_goals
    have H2 := Lib.hid h2
    go_enter Tryz.func233, Tryz.ntmps233
    go_wp2_with fail
    refine (dim_any _ _ _ _ _).mono ?_
    rintro e w1 ⟨rfl, hb1⟩
    have k1 := k0.below hb1 k0.lt
    obtain ⟨q0, q1⟩ := k1.two
    have hB1 := hB.trans (hb1.mono (by simp))
    clear k0
    go_wp2_with fail
  · go_ret
    exact ⟨ret_bool (by rw [Hmu.out, H2.out]; rfl), hB1⟩
  · refine (field_any _ _ _ _ _).mono ?_
    rintro e w2 ⟨rfl, hb2⟩
    have hB2 := hB1.trans (hb2.mono hB1.size)
    go_wp2_with fail
    refine (is_any _ _ _ _ _ _ hp0 (by omega) (by omega) (hb.below hB2)).mono ?_
    rintro e w3 ⟨rfl, rfl⟩
    go_wp2
    go_ret
    exact ⟨ret_bool (by rw [Hmu.out, H2.out]; rfl), hB2⟩
set_option maxHeartbeats 800000 in
theorem notVe (P : Int) (n : Nat) (g : Nat) (A : Option Addr) (c : Nat) (sq : List Int) (w : World) (hn : n ≤ 1048576) (hsq : sq.length = n) (hp0 : 0 < P) (hp1 : P ≤ 13) (hk : Blk w g 26 #[.int .i64 P, .slice A n c]) :
    Tells 299 #[.pointer (some ⟨g, 0, none⟩)] w (fun ys => !(isVe P sq ys)) (fun ys => ys.length ≤ 1048576) := by
  intro w' D m d ys hb hr hm
  have hyl : ys.length = m := by have := hr.1; rwa [ints_length] at this
  rw [hyl] at hm
  have k0 := hk.below hb hk.lt
  obtain ⟨q0, q1⟩ := k0.two
  have Hsq := Lib.hid hsq
  clear hyl hsq
  simp only [List.append_toArray, List.cons_append, List.nil_append]
  go_enter Tryz.func299, Tryz.ntmps299
  go_wp2_with fail
  refine (isVector_any P A D n c m d sq ys _ hn Hsq.out hm hp0 hp1 hr).mono ?_
  rintro e w1 ⟨rfl, hb1⟩
  obtain ⟨b, hb'⟩ : ∃ b, b = isVe P sq ys := ⟨_, rfl⟩
  rw [← hb']
  have HB := Lib.hid hb'; clear hb'
  go_wp2
  go_ret
  exact ⟨ret_bool (by rw [HB.out]), hb1⟩
set_option maxRecDepth 8000 in
set_option maxHeartbeats 1000000 in
theorem checkMultis_any (P : Int) (A B : Option Addr) (n c m d : Nat) (sq : List Int) (yss : List (List Int)) (w : World) (hn : n ≤ 1048576) (hm : m ≤ 1048576) (ha : Rd w A n (ints sq)) (hb : RdII w B m yss) (hys : ∀ ys ∈ yss, ys.length ≤ 1048576) :
    Calls Tryz.prog 128 #[.agg #[.int .i64 P, .slice A n c], .slice B m d] w fun e w' => e = .returned (.int .i64 (codeM P sq yss)) ∧ Below w.heap.size w w' := by
  have hxl : sq.length = n := by have := ha.1; rwa [ints_length] at this
  have hB : Below w.heap.size w (w.alloc (.cells #[.int .i64 P, .slice A n c] 26)) := (Below.refl _ _).alloc (Nat.le_refl _) _
  have k0 : Blk (w.alloc (.cells #[.int .i64 P, .slice A n c] 26)) w.heap.size 26 #[.int .i64 P, .slice A n c] := Blk.new _ _ _
  have hmf : ∀ (fn : Fn) (first cap : Array Value) (w : World), (Instr.makeFunc fn first cap).run Tryz.prog w = .ok (.func fn first cap) w := fun _ _ _ _ => rfl
  cases h1 : isSp P sq
  · have H1 := Lib.hid h1; clear h1 hxl
    go_enter Tryz.func128, Tryz.ntmps128
    go_wp2_with fail
    refine (IsSpace_b _ _ _ _ _ _ (by omega) (ha.below hB) H1.out).mono ?_
    rintro e w1 ⟨rfl, hb1⟩
    go_wp2
    go_ret
    exact ⟨ret_int (by unfold codeM; rw [H1.out]; rfl), hB.trans (hb1.mono (by simp))⟩
  obtain ⟨hp, hd1, hd2, -⟩ := isSp_dim h1
  obtain ⟨hp0, hp1⟩ := isP_pos hp
  rw [hxl] at hd1 hd2
  have H1 := Lib.hid h1; have Hx := Lib.hid hxl; clear h1 hp hxl
  cases h2 : (yss.any fun ys => !(isMu P sq ys))
  all_goals
    have H2 := Lib.hid h2; clear h2
    go_enter Tryz.func128, Tryz.ntmps128
    go_wp2_with fail
    refine (IsSpace_b _ _ _ _ _ _ (by omega) (ha.below hB) H1.out).mono ?_
    rintro e w1 ⟨rfl, hb1⟩
    have hB1 := hB.trans (hb1.mono (by simp))
    have hT := notMu P n w.heap.size A c sq w1 (by omega) Hx.out hp0 hp1 (k0.below hb1 k0.lt)
    go_wp2_with fail
    refine (ContainsFunc_any _ _ _ _ _ _ _ _ _ (by omega) (hb.below hB1) hys hT (fun _ _ => rfl)).mono ?_
    rintro e w2 ⟨rfl, hb2⟩
    rw [H2.out]
    go_wp2
    go_ret
    exact ⟨ret_int (by unfold codeM; rw [H1.out, H2.out]; rfl), hB1.trans (hb2.mono hB1.size)⟩
set_option maxRecDepth 8000 in
set_option maxHeartbeats 1000000 in
theorem checkVectors_any (P : Int) (A B : Option Addr) (n c m d : Nat) (sq : List Int) (yss : List (List Int)) (w : World) (hn : n ≤ 1048576) (hm : m ≤ 1048576) (ha : Rd w A n (ints sq)) (hb : RdII w B m yss) (hys : ∀ ys ∈ yss, ys.length ≤ 1048576) :
    Calls Tryz.prog 163 #[.agg #[.int .i64 P, .slice A n c], .slice B m d] w fun e w' => e = .returned (.int .i64 (codeV P sq yss)) ∧ Below w.heap.size w w' := by
  have hxl : sq.length = n := by have := ha.1; rwa [ints_length] at this
  have hB : Below w.heap.size w (w.alloc (.cells #[.int .i64 P, .slice A n c] 26)) := (Below.refl _ _).alloc (Nat.le_refl _) _
  have k0 : Blk (w.alloc (.cells #[.int .i64 P, .slice A n c] 26)) w.heap.size 26 #[.int .i64 P, .slice A n c] := Blk.new _ _ _
  have hmf : ∀ (fn : Fn) (first cap : Array Value) (w : World), (Instr.makeFunc fn first cap).run Tryz.prog w = .ok (.func fn first cap) w := fun _ _ _ _ => rfl
  cases h1 : isSp P sq
  · have H1 := Lib.hid h1; clear h1 hxl
    go_enter Tryz.func163, Tryz.ntmps163
    go_wp2_with fail
    refine (IsSpace_b _ _ _ _ _ _ (by omega) (ha.below hB) H1.out).mono ?_
    rintro e w1 ⟨rfl, hb1⟩
    go_wp2
    go_ret
    exact ⟨ret_int (by unfold codeV; rw [H1.out]; rfl), hB.trans (hb1.mono (by simp))⟩
  obtain ⟨hp, hd1, hd2, -⟩ := isSp_dim h1
  obtain ⟨hp0, hp1⟩ := isP_pos hp
  rw [hxl] at hd1 hd2
  have H1 := Lib.hid h1; have Hx := Lib.hid hxl; clear h1 hp hxl
  cases h2 : (yss.any fun ys => !(isVe P sq ys))
  all_goals
    have H2 := Lib.hid h2; clear h2
    go_enter Tryz.func163, Tryz.ntmps163
    go_wp2_with fail
    refine (IsSpace_b _ _ _ _ _ _ (by omega) (ha.below hB) H1.out).mono ?_
    rintro e w1 ⟨rfl, hb1⟩
    have hB1 := hB.trans (hb1.mono (by simp))
    have hT := notVe P n w.heap.size A c sq w1 (by omega) Hx.out hp0 hp1 (k0.below hb1 k0.lt)
    go_wp2_with fail
    refine (ContainsFunc_any _ _ _ _ _ _ _ _ _ (by omega) (hb.below hB1) hys hT (fun _ _ => rfl)).mono ?_
    rintro e w2 ⟨rfl, hb2⟩
    rw [H2.out]
    go_wp2
    go_ret
    exact ⟨ret_int (by unfold codeV; rw [H1.out, H2.out]; rfl), hB1.trans (hb2.mono hB1.size)⟩
set_option maxHeartbeats 400000 in
theorem regular_any (P : Int) (A : Option Addr) (n c : Nat) (sq : List Int) (w : World) (hn : n ≤ 1048576) (ha : Rd w A n (ints sq)) :
    Calls Tryz.prog 162 #[.agg #[.int .i64 P, .slice A n c]] w fun e w' => e = .returned (.bool (regB sq)) ∧ Below w.heap.size w w' := by
  have hB : Below w.heap.size w (w.alloc (.cells #[.int .i64 P, .slice A n c] 26)) := (Below.refl _ _).alloc (Nat.le_refl _) _
  have k0 : Blk (w.alloc (.cells #[.int .i64 P, .slice A n c] 26)) w.heap.size 26 #[.int .i64 P, .slice A n c] := Blk.new _ _ _
  obtain ⟨b, hb⟩ : ∃ b, b = sq.contains 0 := ⟨_, rfl⟩
  have HB := Lib.hid hb
  clear hb
  go_enter Tryz.func162, Tryz.ntmps162
  go_wp2_with (go_at_call 298; refine (Contains_b _ _ _ _ _ _ (by omega) (ha.below hB) HB.out.symm).mono ?_; rintro e w' ⟨rfl, rfl⟩)
  go_ret
  exact ⟨ret_bool (by unfold regB; rw [HB.out]), hB⟩
/-- The code of a regular space, multivectors and vectors. -/
def codeVs (P : Int) (sq : List Int) (ms vs : List (List Int)) : Int := if codeM P sq ms = 0 then (if codeV P sq vs = 0 then (if regB sq then 0 else 5) else codeV P sq vs) else codeM P sq ms
theorem code_ne {a : Int} (h : ¬ a = 0) : (a != 0) = true := by simp [h]
theorem code_eq {a : Int} (h : a = 0) : (a != 0) = false := by simp [h]
set_option maxHeartbeats 1000000 in
theorem checkVersors_any (P : Int) (A B C : Option Addr) (n c m d l f : Nat) (sq : List Int) (ms vs : List (List Int)) (w : World) (hn : n ≤ 1048576) (hm : m ≤ 1048576) (hl : l ≤ 1048576) (ha : Rd w A n (ints sq)) (hb : RdII w B m ms) (hms : ∀ ys ∈ ms, ys.length ≤ 1048576) (hc : RdII w C l vs) (hvs : ∀ ys ∈ vs, ys.length ≤ 1048576) :
    Calls Tryz.prog 150 #[.agg #[.int .i64 P, .slice A n c], .slice B m d, .slice C l f] w fun e w' => e = .returned (.int .i64 (codeVs P sq ms vs)) ∧ Below w.heap.size w w' := by
  have hB : Below w.heap.size w (w.alloc (.cells #[.int .i64 P, .slice A n c] 26)) := (Below.refl _ _).alloc (Nat.le_refl _) _
  have k0 : Blk (w.alloc (.cells #[.int .i64 P, .slice A n c] 26)) w.heap.size 26 #[.int .i64 P, .slice A n c] := Blk.new _ _ _
  have hcm := checkMultis_any P A B n c m d sq ms _ hn hm (ha.below hB) (hb.below hB) hms
  obtain ⟨r1, h1⟩ : ∃ r, r = codeM P sq ms := ⟨_, rfl⟩
  obtain ⟨r2, h2⟩ : ∃ r, r = codeV P sq vs := ⟨_, rfl⟩
  obtain ⟨r3, h3⟩ : ∃ r, r = regB sq := ⟨_, rfl⟩
  have HV : Hid (codeVs P sq ms vs = if r1 = 0 then (if r2 = 0 then (if r3 then 0 else 5) else r2) else r1) := Lib.hid (by rw [h1, h2, h3]; rfl)
  rw [← h1] at hcm
  have H2 := Lib.hid h2; have H3 := Lib.hid h3
  clear h1 h2 h3
  by_cases e1 : r1 = 0
  · have E1 := Lib.hid e1
    have b1 := code_eq e1
    clear e1
    by_cases e2 : r2 = 0
    · have E2 := Lib.hid e2
      have b2 := code_eq e2
      clear e2
      cases r3
      all_goals
        go_enter Tryz.func150, Tryz.ntmps150
        go_wp2_with fail
        refine hcm.mono ?_
        rintro e w1 ⟨rfl, hb1⟩
        have hB1 := hB.trans (hb1.mono (by simp))
        have k1 := k0.below hb1 k0.lt
        obtain ⟨q0, q1⟩ := k1.two
        clear k0
        go_wp2_with fail
        refine (checkVectors_any P A C n c l f sq vs _ hn hl (ha.below hB1) (hc.below hB1) hvs).mono ?_
        rintro e w2 ⟨rfl, hb2⟩
        rw [← H2.out]
        have hB2 := hB1.trans (hb2.mono hB1.size)
        have k2 := k1.below hb2 k1.lt
        clear q0 q1 k1
        obtain ⟨q0, q1⟩ := k2.two
        go_wp2_with fail
        refine (regular_any P A n c sq _ hn (ha.below hB2)).mono ?_
        rintro e w3 ⟨rfl, hb3⟩
        rw [← H3.out]
        go_wp2
        go_ret
        exact ⟨ret_int (by rw [HV.out, if_pos E1.out, if_pos E2.out]; rfl), hB2.trans (hb3.mono hB2.size)⟩
    · have E2 := Lib.hid e2
      have b2 := code_ne e2
      clear e2
      go_enter Tryz.func150, Tryz.ntmps150
      go_wp2_with fail
      refine hcm.mono ?_
      rintro e w1 ⟨rfl, hb1⟩
      have hB1 := hB.trans (hb1.mono (by simp))
      have k1 := k0.below hb1 k0.lt
      obtain ⟨q0, q1⟩ := k1.two
      clear k0
      go_wp2_with fail
      refine (checkVectors_any P A C n c l f sq vs _ hn hl (ha.below hB1) (hc.below hB1) hvs).mono ?_
      rintro e w2 ⟨rfl, hb2⟩
      rw [← H2.out]
      go_wp2
      go_ret
      exact ⟨ret_int (by rw [HV.out, if_pos E1.out, if_neg E2.out]), hB1.trans (hb2.mono hB1.size)⟩
  · have E1 := Lib.hid e1
    have b1 := code_ne e1
    clear e1
    go_enter Tryz.func150, Tryz.ntmps150
    go_wp2_with fail
    refine hcm.mono ?_
    rintro e w1 ⟨rfl, hb1⟩
    go_wp2
    go_ret
    exact ⟨ret_int (by rw [HV.out, if_neg E1.out]), hB.trans (hb1.mono (by simp))⟩
theorem any_take_succ {α : Type} {q : α → Bool} {xs : List α} {k : Nat} (hk : k < xs.length) (h : (xs.take k).any q = false) (h2 : q xs[k] = false) : (xs.take (k + 1)).any q = false := by
  rw [List.take_succ_eq_append_getElem hk, List.any_append, h]; simpa using h2
set_option maxRecDepth 8000 in
set_option maxHeartbeats 1600000 in
theorem l04Code_any (P : Int) (A B : Option Addr) (n c m d : Nat) (sq : List Int) (yss : List (List Int)) (w : World) (hn : n ≤ 1048576) (hm : m ≤ 1048576) (ha : Rd w A n (ints sq)) (hb : RdII w B m yss) (hys : ∀ ys ∈ yss, ys.length ≤ 1048576) :
    Calls Tryz.prog 130 #[.agg #[.int .i64 P, .slice A n c], .slice B m d] w fun e w' => e = .returned (.int .i64 (codeM P sq yss)) ∧ Below w.heap.size w w' := by
  have hyl := hb.len
  have hB : Below w.heap.size w (w.alloc (.cells #[.int .i64 P, .slice A n c] 26)) := (Below.refl _ _).alloc (Nat.le_refl _) _
  have k0 : Blk (w.alloc (.cells #[.int .i64 P, .slice A n c] 26)) w.heap.size 26 #[.int .i64 P, .slice A n c] := Blk.new _ _ _
  have HY := Lib.hid hyl; clear hyl
  cases h1 : isSp P sq
  · have H1 := Lib.hid h1; clear h1
    go_enter Tryz.func130, Tryz.ntmps130
    go_wp2_with fail
    refine (l03Is_b _ _ _ _ _ _ (by omega) (ha.below hB) H1.out).mono ?_
    rintro e w1 ⟨rfl, hb1⟩
    go_wp2
    go_ret
    exact ⟨ret_int (by unfold codeM; rw [H1.out]; rfl), hB.trans (hb1.mono (by simp))⟩
  have H1 := Lib.hid h1; clear h1
  go_enter Tryz.func130, Tryz.ntmps130
  go_wp2_with fail
  refine (l03Is_b _ _ _ _ _ _ (by omega) (ha.below hB) H1.out).mono ?_
  rintro e w1 ⟨rfl, hb1⟩
  have hB1 := hB.trans (hb1.mono (by simp))
  have k1 := k0.below hb1 k0.lt
  clear k0 hb1 hB
  go_wp2_with fail
  go_loopw [5] (fun i wr => ∃ k : Nat, k ≤ m ∧ i = .int .i64 k ∧ (yss.take k).any (fun ys => !(isMu P sq ys)) = false ∧ Blk wr w.heap.size 26 #[.int .i64 P, .slice A n c] ∧ Below w.heap.size w wr) (fun i _ => m - (intOf i).toNat)
  case atStart => exact ⟨0, by omega, rfl, by simp, k1, hB1⟩
  case round =>
    obtain ⟨k, hk, rfl, ht, hk2, hBr⟩ := hrel
    have HT := Lib.hid ht
    clear k1 hB1 ht
    by_cases hlt : k < m
    · obtain ⟨g, o, rfl, hxk, A', c', hcx, hr, hcc⟩ := (hb.below hBr).at_ hlt
      have hr := (hb.at_ hlt)
      obtain ⟨g', o', e', hx', A'', c'', hcw, hrw, _⟩ := hr
      have hr0 : Rd w A' yss[k].length (ints yss[k]) := by
        injection e' with e'; injection e' with e1 e2 _
        subst e1; subst e2
        have := (hBr.cell (World.block_lt_of_cell? _ _ hcw)).trans hcw
        rw [hcx] at this
        injection this with this
        injection this with e3 _ _
        rw [e3]; exact hrw
      clear hcw hrw e' hr
      have hr := hr0
      clear hr0
      have HL := hys yss[k] (List.getElem_mem hxk)
      have i1 : (0 : Int) ≤ (k : Int) := by omega
      have i2 : (k : Int) < (m : Int) := by omega
      cases hi : (isSp P sq && isMu P sq yss[k])
      · have HI := Lib.hid hi
        clear hi
        go_wp2
        refine wp_obs 7 [[], [], [], [1, 2], [1, 2, 3], [0, 1, 2, 3, 4], [0, 1, 2, 3, 4, 5]] [VIs (.agg #[.int .i64 P, .slice A n c]), VIs (.slice (some ⟨g, o, none⟩) m d), VIs (.int .i64 k), VIs (.pointer (some ⟨g, o + k, none⟩)), VIs (.slice A' yss[k].length c'), VIs (.bool false), VIs (.bool true)] (fun w' => Blk w' w.heap.size 26 #[.int .i64 P, .slice A n c] ∧ Below w.heap.size w w' ∧ w'.cell? ⟨g, o + k, none⟩ = some (.slice A' yss[k].length c')) (by kernel_rfl) (by kernel_rfl) (fun _ _ h hb => ⟨h.1.below hb h.1.lt, h.2.1.trans (hb.mono h.2.1.size), (hb.cell (World.block_lt_of_cell? _ _ h.2.2)).trans h.2.2⟩) (⟨hk2.drew, hBr.drew, hcx⟩) (fun x => ?_)
        refine obs_step (Eq.trans (by simp only [List.getElem?_toArray, List.getElem?_cons_zero]; exact rfl) rfl) rfl (fun w' hS hV K hK => ?_) ?_
        · obtain ⟨q0, q1⟩ := hS.1.two; have q2 := hS.2.2
          go_simp
          exact hK.out _ _ _ rfl rfl rfl (Below.refl _ _)
        simp only [List.setIfInBounds_toArray, List.set_cons_zero, List.set_cons_succ]
        refine obs_step (Eq.trans (by simp only [List.getElem?_toArray, List.getElem?_cons_succ, List.getElem?_cons_zero]; exact rfl) rfl) rfl (fun w' hS hV K hK => ?_) ?_
        · obtain ⟨q0, q1⟩ := hS.1.two; have q2 := hS.2.2
          go_simp
          exact hK.out _ _ _ rfl rfl rfl (Below.refl _ _)
        simp only [List.setIfInBounds_toArray, List.set_cons_zero, List.set_cons_succ]
        refine obs_step (Eq.trans (by simp only [List.getElem?_toArray, List.getElem?_cons_succ, List.getElem?_cons_zero]; exact rfl) rfl) rfl (fun w' hS hV K hK => ?_) ?_
        · obtain ⟨q0, q1⟩ := hS.1.two; have q2 := hS.2.2
          go_simp
          exact hK.out _ _ _ rfl rfl rfl (Below.refl _ _)
        simp only [List.setIfInBounds_toArray, List.set_cons_zero, List.set_cons_succ]
        refine obs_step (Eq.trans (by simp only [List.getElem?_toArray, List.getElem?_cons_succ, List.getElem?_cons_zero]; exact rfl) rfl) rfl (fun w' hS hV K hK => ?_) ?_
        · simp only [List.mem_cons, List.not_mem_nil, or_false, forall_eq_or_imp, forall_eq, List.getD_cons_succ, List.getD_cons_zero, VIs, VAny] at hV
          obtain ⟨e1, e2⟩ := hV
          obtain ⟨q0, q1⟩ := hS.1.two; have q2 := hS.2.2
          go_simp
          exact hK.out _ _ _ rfl rfl rfl (Below.refl _ _)
        simp only [List.setIfInBounds_toArray, List.set_cons_zero, List.set_cons_succ]
        refine obs_step (Eq.trans (by simp only [List.getElem?_toArray, List.getElem?_cons_succ, List.getElem?_cons_zero]; exact rfl) rfl) rfl (fun w' hS hV K hK => ?_) ?_
        · simp only [List.mem_cons, List.not_mem_nil, or_false, forall_eq_or_imp, forall_eq, List.getD_cons_succ, List.getD_cons_zero, VIs, VAny] at hV
          obtain ⟨e1, e2, e3⟩ := hV
          obtain ⟨q0, q1⟩ := hS.1.two; have q2 := hS.2.2
          go_simp
          exact hK.out _ _ _ rfl rfl rfl (Below.refl _ _)
        simp only [List.setIfInBounds_toArray, List.set_cons_zero, List.set_cons_succ]
        refine obs_step (Eq.trans (by simp only [List.getElem?_toArray, List.getElem?_cons_succ, List.getElem?_cons_zero]; exact rfl) rfl) rfl (fun w' hS hV K hK => ?_) ?_
        · simp only [List.mem_cons, List.not_mem_nil, or_false, forall_eq_or_imp, forall_eq, List.getD_cons_succ, List.getD_cons_zero, VIs, VAny] at hV
          obtain ⟨e0, e1, e2, e3, e4⟩ := hV
          obtain ⟨q0, q1⟩ := hS.1.two; have q2 := hS.2.2
          go_simp
          refine (l04Is_b P A A' n c _ c' sq yss[k] _ hn HL (ha.below hS.2.1) (hr.below hS.2.1) HI.out).mono ?_
          rintro e w1 ⟨rfl, hb⟩
          exact hK.out _ _ _ rfl rfl rfl hb
        simp only [List.setIfInBounds_toArray, List.set_cons_zero, List.set_cons_succ]
        refine obs_step (Eq.trans (by simp only [List.getElem?_toArray, List.getElem?_cons_succ, List.getElem?_cons_zero]; exact rfl) rfl) rfl (fun w' hS hV K hK => ?_) ?_
        · simp only [List.mem_cons, List.not_mem_nil, or_false, forall_eq_or_imp, forall_eq, List.getD_cons_succ, List.getD_cons_zero, VIs, VAny] at hV
          obtain ⟨e0, e1, e2, e3, e4, e5⟩ := hV
          obtain ⟨q0, q1⟩ := hS.1.two; have q2 := hS.2.2
          go_simp
          exact hK.out _ _ _ rfl rfl rfl (Below.refl _ _)
        simp only [List.setIfInBounds_toArray, List.set_cons_zero, List.set_cons_succ]
        refine fun w' hS hV => ?_
        have hV := fun i hi => hV i (List.mem_range.1 hi)
        simp only [List.range, List.range.loop, List.mem_cons, List.not_mem_nil, or_false, forall_eq_or_imp, forall_eq, List.getD_cons_succ, List.getD_cons_zero, VIs, VAny] at hV
        obtain ⟨e0, e1, e2, e3, e4, e5, e6⟩ := hV
        simp only [e0, e1, e2, e3, e4, e5, e6]
        clear e0 e1 e2 e3 e4 e5 e6
        refine wpAny_done (by kernel_rfl) ?_ _
        go_wp2
        go_ret
        refine ⟨ret_int ?_, hS.2.1⟩
        have hmu : isMu P sq yss[k] = false := by have := HI.out; rw [H1.out] at this; simpa using this
        have : (yss.any fun ys => !(isMu P sq ys)) = true := List.any_eq_true.2 ⟨yss[k], List.getElem_mem hxk, by rw [hmu]; rfl⟩
        unfold codeM
        rw [H1.out, if_pos rfl, if_pos this]
      · have HI := Lib.hid hi
        clear hi
        go_wp2
        refine wp_obs 7 [[], [], [], [1, 2], [1, 2, 3], [0, 1, 2, 3, 4], [0, 1, 2, 3, 4, 5]] [VIs (.agg #[.int .i64 P, .slice A n c]), VIs (.slice (some ⟨g, o, none⟩) m d), VIs (.int .i64 k), VIs (.pointer (some ⟨g, o + k, none⟩)), VIs (.slice A' yss[k].length c'), VIs (.bool true), VIs (.bool false)] (fun w' => Blk w' w.heap.size 26 #[.int .i64 P, .slice A n c] ∧ Below w.heap.size w w' ∧ w'.cell? ⟨g, o + k, none⟩ = some (.slice A' yss[k].length c')) (by kernel_rfl) (by kernel_rfl) (fun _ _ h hb => ⟨h.1.below hb h.1.lt, h.2.1.trans (hb.mono h.2.1.size), (hb.cell (World.block_lt_of_cell? _ _ h.2.2)).trans h.2.2⟩) (⟨hk2.drew, hBr.drew, hcx⟩) (fun x => ?_)
        refine obs_step (Eq.trans (by simp only [List.getElem?_toArray, List.getElem?_cons_zero]; exact rfl) rfl) rfl (fun w' hS hV K hK => ?_) ?_
        · obtain ⟨q0, q1⟩ := hS.1.two; have q2 := hS.2.2
          go_simp
          exact hK.out _ _ _ rfl rfl rfl (Below.refl _ _)
        simp only [List.setIfInBounds_toArray, List.set_cons_zero, List.set_cons_succ]
        refine obs_step (Eq.trans (by simp only [List.getElem?_toArray, List.getElem?_cons_succ, List.getElem?_cons_zero]; exact rfl) rfl) rfl (fun w' hS hV K hK => ?_) ?_
        · obtain ⟨q0, q1⟩ := hS.1.two; have q2 := hS.2.2
          go_simp
          exact hK.out _ _ _ rfl rfl rfl (Below.refl _ _)
        simp only [List.setIfInBounds_toArray, List.set_cons_zero, List.set_cons_succ]
        refine obs_step (Eq.trans (by simp only [List.getElem?_toArray, List.getElem?_cons_succ, List.getElem?_cons_zero]; exact rfl) rfl) rfl (fun w' hS hV K hK => ?_) ?_
        · obtain ⟨q0, q1⟩ := hS.1.two; have q2 := hS.2.2
          go_simp
          exact hK.out _ _ _ rfl rfl rfl (Below.refl _ _)
        simp only [List.setIfInBounds_toArray, List.set_cons_zero, List.set_cons_succ]
        refine obs_step (Eq.trans (by simp only [List.getElem?_toArray, List.getElem?_cons_succ, List.getElem?_cons_zero]; exact rfl) rfl) rfl (fun w' hS hV K hK => ?_) ?_
        · simp only [List.mem_cons, List.not_mem_nil, or_false, forall_eq_or_imp, forall_eq, List.getD_cons_succ, List.getD_cons_zero, VIs, VAny] at hV
          obtain ⟨e1, e2⟩ := hV
          obtain ⟨q0, q1⟩ := hS.1.two; have q2 := hS.2.2
          go_simp
          exact hK.out _ _ _ rfl rfl rfl (Below.refl _ _)
        simp only [List.setIfInBounds_toArray, List.set_cons_zero, List.set_cons_succ]
        refine obs_step (Eq.trans (by simp only [List.getElem?_toArray, List.getElem?_cons_succ, List.getElem?_cons_zero]; exact rfl) rfl) rfl (fun w' hS hV K hK => ?_) ?_
        · simp only [List.mem_cons, List.not_mem_nil, or_false, forall_eq_or_imp, forall_eq, List.getD_cons_succ, List.getD_cons_zero, VIs, VAny] at hV
          obtain ⟨e1, e2, e3⟩ := hV
          obtain ⟨q0, q1⟩ := hS.1.two; have q2 := hS.2.2
          go_simp
          exact hK.out _ _ _ rfl rfl rfl (Below.refl _ _)
        simp only [List.setIfInBounds_toArray, List.set_cons_zero, List.set_cons_succ]
        refine obs_step (Eq.trans (by simp only [List.getElem?_toArray, List.getElem?_cons_succ, List.getElem?_cons_zero]; exact rfl) rfl) rfl (fun w' hS hV K hK => ?_) ?_
        · simp only [List.mem_cons, List.not_mem_nil, or_false, forall_eq_or_imp, forall_eq, List.getD_cons_succ, List.getD_cons_zero, VIs, VAny] at hV
          obtain ⟨e0, e1, e2, e3, e4⟩ := hV
          obtain ⟨q0, q1⟩ := hS.1.two; have q2 := hS.2.2
          go_simp
          refine (l04Is_b P A A' n c _ c' sq yss[k] _ hn HL (ha.below hS.2.1) (hr.below hS.2.1) HI.out).mono ?_
          rintro e w1 ⟨rfl, hb⟩
          exact hK.out _ _ _ rfl rfl rfl hb
        simp only [List.setIfInBounds_toArray, List.set_cons_zero, List.set_cons_succ]
        refine obs_step (Eq.trans (by simp only [List.getElem?_toArray, List.getElem?_cons_succ, List.getElem?_cons_zero]; exact rfl) rfl) rfl (fun w' hS hV K hK => ?_) ?_
        · simp only [List.mem_cons, List.not_mem_nil, or_false, forall_eq_or_imp, forall_eq, List.getD_cons_succ, List.getD_cons_zero, VIs, VAny] at hV
          obtain ⟨e0, e1, e2, e3, e4, e5⟩ := hV
          obtain ⟨q0, q1⟩ := hS.1.two; have q2 := hS.2.2
          go_simp
          exact hK.out _ _ _ rfl rfl rfl (Below.refl _ _)
        simp only [List.setIfInBounds_toArray, List.set_cons_zero, List.set_cons_succ]
        refine fun w' hS hV => ?_
        have hV := fun i hi => hV i (List.mem_range.1 hi)
        simp only [List.range, List.range.loop, List.mem_cons, List.not_mem_nil, or_false, forall_eq_or_imp, forall_eq, List.getD_cons_succ, List.getD_cons_zero, VIs, VAny] at hV
        obtain ⟨e0, e1, e2, e3, e4, e5, e6⟩ := hV
        simp only [e0, e1, e2, e3, e4, e5, e6]
        clear e0 e1 e2 e3 e4 e5 e6
        refine wpAny_done (by kernel_rfl) ?_ _
        go_wp2
        have hmu : isMu P sq yss[k] = true := by have := HI.out; rw [H1.out] at this; simpa using this
        have HN := Lib.hid (any_take_succ (q := fun ys => !(isMu P sq ys)) hxk HT.out (by rw [hmu]; rfl))
        clear hmu
        go_roundw
        case rel => exact ⟨k + 1, by omega, by go_num, HN.out, hS.1, hS.2.1⟩
        case measure => simp [intOf]; omega
    · obtain rfl : k = m := by omega
      go_wp2
      go_ret
      refine ⟨ret_int ?_, hBr⟩
      have := HT.out
      rw [List.take_of_length_le (by rw [HY.out]; omega)] at this
      unfold codeM
      rw [H1.out, this]; rfl
theorem mul_zero_all : ∀ p ∈ [(3 : Nat), 5, 7, 11, 13], ∀ a < p, ∀ b < p, a * b % p = 0 → a = 0 ∨ b = 0 := by decide +kernel
theorem mul_zero_mod {p a b : Int} (h : isP p = true) (ha : 0 ≤ a ∧ a < p) (hb : 0 ≤ b ∧ b < p) (h0 : a * b % p = 0) : a = 0 ∨ b = 0 := by
  have hm : p.toNat ∈ [(3 : Nat), 5, 7, 11, 13] := by
    have : p = 3 ∨ p = 5 ∨ p = 7 ∨ p = 11 ∨ p = 13 := by simp [isP] at h; omega
    rcases this with rfl | rfl | rfl | rfl | rfl <;> decide
  have hp : 0 < p := by omega
  have e : ((a.toNat * b.toNat % p.toNat : Nat) : Int) = 0 := by
    rw [Int.natCast_emod, Int.natCast_mul, Int.toNat_of_nonneg ha.1, Int.toNat_of_nonneg hb.1, Int.toNat_of_nonneg (by omega)]; exact h0
  have := mul_zero_all p.toNat hm a.toNat (by omega) b.toNat (by omega) (by omega)
  omega
theorem nums_numsL {P : Int} {xs : List Int} (h : nums P xs = true) : NumsL P xs := fun x hx => by
  have := List.all_eq_true.1 h x hx
  simp [inR] at this
  omega
theorem codeM_sp {P : Int} {sq : List Int} {ms : List (List Int)} (h : codeM P sq ms = 0) : isSp P sq = true ∧ ∀ ys ∈ ms, isMu P sq ys = true := by
  unfold codeM at h
  cases h1 : isSp P sq
  · rw [h1] at h; simp at h
  · rw [h1, if_pos rfl] at h
    refine ⟨rfl, fun ys hy => ?_⟩
    cases h2 : isMu P sq ys
    · exfalso
      have : (ms.any fun ys => !(isMu P sq ys)) = true := List.any_eq_true.2 ⟨ys, hy, by rw [h2]; rfl⟩
      rw [if_pos this] at h
      omega
    · rfl
set_option maxHeartbeats 800000 in
theorem l03Vector_any (P : Int) (A B : Option Addr) (n c m d : Nat) (xs ys : List Int) (w : World) (_hn : n ≤ 1048576) (hxl : xs.length = n) (hm : m ≤ 1048576) (hp0 : 0 < P) (hp1 : P ≤ 13) (hb : Rd w B m (ints ys)) :
    Calls Tryz.prog 146 #[.agg #[.int .i64 P, .slice A n c], .slice B m d] w fun e w' => e = .returned (.bool (isVe P xs ys)) ∧ Below w.heap.size w w' := by
  have hyl : ys.length = m := by have := hb.1; rwa [ints_length] at this
  have hmu : isVe P xs ys = ((((m : Nat) : Int) == ((n : Nat) : Int)) && nums P ys) := by unfold isVe; rw [hxl, hyl]
  have Hmu := Lib.hid hmu
  have hB : Below w.heap.size w (w.alloc (.cells #[.int .i64 P, .slice A n c] 26)) := (Below.refl _ _).alloc (Nat.le_refl _) _
  have k0 : Blk (w.alloc (.cells #[.int .i64 P, .slice A n c] 26)) w.heap.size 26 #[.int .i64 P, .slice A n c] := Blk.new _ _ _
  obtain ⟨q0, q1⟩ := k0.two
  clear hmu hxl hyl
  cases h2 : (((m : Nat) : Int) == ((n : Nat) : Int))
  all_goals
    have H2 := Lib.hid h2
    go_enter Tryz.func146, Tryz.ntmps146
    go_wp2_with (go_at_call 292; refine (l01Numbers_any _ _ _ _ _ _ hp0 (by omega) (by omega) (hb.below hB)).mono ?_; rintro e w' ⟨rfl, rfl⟩)
    go_ret
    exact ⟨ret_bool (by rw [Hmu.out, H2.out]; rfl), hB⟩
end Go.Proofs.YtggigolkncckoaaGreat
namespace Go.Proofs.YtggigolkncckoaaGreat
theorem xor_eq_iff (a k m : Nat) : a ^^^ k = m ↔ k = a ^^^ m := by
  constructor
  · rintro rfl; rw [← Nat.xor_assoc, Nat.xor_self, Nat.zero_xor]
  · rintro rfl; rw [← Nat.xor_assoc, Nat.xor_self, Nat.zero_xor]
/-- What row a adds to place m. -/
def term (p : Int) (sq : List Int) (t : Nat → Nat → Bool) (x y : List Int) (m a : Nat) : Int :=
  if t a (a ^^^ m) = true then x.getD a 0 * y.getD (a ^^^ m) 0 * fac p sq a (a ^^^ m) else 0
theorem addRow_getD (p : Int) (sq : List Int) (t : Nat → Nat → Bool) (x y : List Int) (a : Nat) (out : List Int) (m : Nat) (hm : m < out.length) (h0 : out.getD m 0 % p = out.getD m 0) :
    ∀ k, (addRow p sq t x y a out k).getD m 0 = if a ^^^ m < k then (out.getD m 0 + term p sq t x y m a) % p else out.getD m 0 := by
  intro k
  induction k with
  | zero => rw [if_neg (by omega)]; simp [addRow]
  | succ k ih =>
    rw [addRow_succ]
    have hl : (addRow p sq t x y a out k).length = out.length := addRow_len _ _ _ _ _ _ _ _
    unfold addPair
    by_cases hk : a ^^^ k = m
    · have hk' := (xor_eq_iff a k m).1 hk
      have h1 : ¬ a ^^^ m < k := by omega
      have h2 : a ^^^ m < k + 1 := by omega
      rw [if_neg h1] at ih
      rw [if_pos (c := a ^^^ m < k + 1) h2]
      unfold term
      rw [← hk']
      by_cases hc : x.getD a 0 ≠ 0 ∧ y.getD k 0 ≠ 0 ∧ t a k = true
      · rw [if_pos hc, if_pos hc.2.2, getD_set, if_pos ⟨hk, by rw [hl, hk]; exact hm⟩, hk, ih]
      · rw [if_neg hc, ih]
        by_cases ht : t a k = true
        · rw [if_pos ht]
          have : x.getD a 0 * y.getD k 0 = 0 := by
            by_cases h1 : x.getD a 0 = 0
            · rw [h1, Int.zero_mul]
            · by_cases h2 : y.getD k 0 = 0
              · rw [h2, Int.mul_zero]
              · exact absurd ⟨h1, h2, ht⟩ hc
          rw [this, Int.zero_mul, Int.add_zero, h0]
        · rw [if_neg ht, Int.add_zero, h0]
    · have hk' : k ≠ a ^^^ m := fun e => hk ((xor_eq_iff a k m).2 e)
      have e : (if x.getD a 0 ≠ 0 ∧ y.getD k 0 ≠ 0 ∧ t a k = true then (addRow p sq t x y a out k).set (a ^^^ k) (((addRow p sq t x y a out k).getD (a ^^^ k) 0 + x.getD a 0 * y.getD k 0 * fac p sq a k) % p) else addRow p sq t x y a out k).getD m 0 = (addRow p sq t x y a out k).getD m 0 := by
        split
        · rw [getD_set, if_neg (fun h => hk h.1)]
        · rfl
      rw [e, ih]
      by_cases h1 : a ^^^ m < k
      · rw [if_pos h1, if_pos (by omega)]
      · rw [if_neg h1, if_neg (by omega)]
theorem addRows_getD (p : Int) (sq : List Int) (t : Nat → Nat → Bool) (x y : List Int) (n m : Nat) (hy : y.length = pw n) (hm : m < pw n) :
    ∀ k, k ≤ pw n → (addRows p sq t x y (List.replicate (pw n) 0) k).getD m 0 = sumTo k (term p sq t x y m) % p := by
  intro k
  induction k with
  | zero =>
    intro _
    rw [show addRows p sq t x y (List.replicate (pw n) 0) 0 = List.replicate (pw n) 0 from rfl, getD_of_lt 0 (by simpa using hm)]
    simp [sumTo]
  | succ k ih =>
    intro hk
    have ih := ih (by omega)
    have hl : (addRows p sq t x y (List.replicate (pw n) 0) k).length = pw n := by rw [addRows_len]; simp
    rw [addRows_succ, addRow_getD p sq t x y k _ m (by rw [hl]; exact hm) (by rw [ih, Int.emod_emod_of_dvd _ (Int.dvd_refl p)]), if_pos (by rw [hy]; exact xor_lt (by omega) hm), ih]
    exact sumTo_step p k _
theorem prodL_getD (p : Int) (sq : List Int) (t : Nat → Nat → Bool) (x y : List Int) (n m : Nat) (hx : x.length = pw n) (hy : y.length = pw n) (hm : m < pw n) :
    (prodL p sq t x y).getD m 0 = sumTo (pw n) (term p sq t x y m) % p := by
  unfold prodL
  rw [hx]
  exact addRows_getD p sq t x y n m hy hm _ (Nat.le_refl _)
theorem sumTo_zero {n : Nat} {f : Nat → Int} (h : ∀ i, i < n → f i = 0) : sumTo n f = 0 := by
  induction n with
  | zero => rfl
  | succ n ih => rw [sumTo_succ, ih (fun i hi => h i (by omega)), h n (by omega)]; rfl
theorem sumTo_one {n : Nat} {f : Nat → Int} (k : Nat) (hk : k < n) (h : ∀ i, i < n → i ≠ k → f i = 0) : sumTo n f = f k := by
  induction n with
  | zero => omega
  | succ n ih =>
    rw [sumTo_succ]
    by_cases e : k = n
    · subst e; rw [sumTo_zero (fun i hi => h i (by omega) (by omega)), Int.zero_add]
    · rw [ih (by omega) (fun i hi => h i (by omega)), h n (by omega) (by omega), Int.add_zero]
theorem sumTo_add (n : Nat) (f g : Nat → Int) : sumTo n (fun i => f i + g i) = sumTo n f + sumTo n g := by
  induction n with
  | zero => rfl
  | succ n ih => rw [sumTo_succ, sumTo_succ, sumTo_succ, ih]; omega
theorem sumTo_mul (n : Nat) (f : Nat → Int) (c : Int) : sumTo n (fun i => c * f i) = c * sumTo n f := by
  induction n with
  | zero => simp [sumTo]
  | succ n ih => rw [sumTo_succ, sumTo_succ, ih, Int.mul_add]
theorem sumTo_comm (n m : Nat) (f : Nat → Nat → Int) : sumTo n (fun i => sumTo m (f i)) = sumTo m (fun j => sumTo n (fun i => f i j)) := by
  induction n with
  | zero => exact (sumTo_zero (fun _ _ => rfl)).symm
  | succ n ih => rw [sumTo_succ, ih, ← sumTo_add]; rfl
theorem pc_zero : pc 0 = 0 := by simp [pc]
theorem bit_zero (i : Nat) : bit 0 i = 0 := by simp [bit]
theorem fac_zero_left (p : Int) (sq : List Int) (b : Nat) : fac p sq 0 b = 1 := by
  have h1 : ∀ i, swaps 0 b i = 0 := by
    intro i
    induction i with
    | zero => rfl
    | succ i ih => simp [swaps, ih, pc_zero]
  have h2 : ∀ i, common p sq 0 b i = 1 := by
    intro i
    induction i with
    | zero => rfl
    | succ i ih => simp [common, ih, bit_zero]
  unfold fac
  rw [h1, h2]; rfl
theorem bladeL_getD (n m i : Nat) (hi : i < pw n) : (bladeL n m).getD i 0 = if m = i then 1 else 0 := by
  unfold bladeL
  rw [getD_set]
  by_cases h : m = i
  · subst h; rw [if_pos ⟨rfl, by simpa using hi⟩, if_pos rfl]
  · rw [if_neg (fun hh => h hh.1), if_neg h, getD_of_lt 0 (by simpa using hi)]; simp
/-- 1 times a multivector. -/
theorem one_mul (p : Int) (sq : List Int) (n : Nat) (xs : List Int) (hx : xs.length = pw n) (hn : NumsL p xs) : mulL p sq (bladeL n 0) xs = xs := by
  apply list_ext_getD 0 (by unfold mulL; rw [prodL_len, bladeL_len, hx])
  intro m hm
  have hm : m < pw n := by unfold mulL at hm; rwa [prodL_len, bladeL_len] at hm
  unfold mulL
  rw [prodL_getD p sq _ _ xs n m (bladeL_len n 0) hx hm, sumTo_one 0 (pw_pos n) (fun i hi h0 => by unfold term; rw [if_pos rfl, bladeL_getD n 0 i hi, if_neg (fun e => h0 e.symm), Int.zero_mul, Int.zero_mul])]
  unfold term
  rw [if_pos rfl, bladeL_getD n 0 0 (pw_pos n), if_pos rfl, Nat.zero_xor, fac_zero_left, Int.one_mul, Int.mul_one]
  obtain ⟨h1, h2⟩ := hn _ (getD_mem 0 (by rw [hx]; exact hm))
  exact Int.emod_eq_of_lt h1 h2
theorem mulL_len (p : Int) (sq xs ys : List Int) : (mulL p sq xs ys).length = xs.length := prodL_len _ _ _ _ _
theorem mulL_nums {p : Int} (hp : 0 < p) (sq xs ys : List Int) : NumsL p (mulL p sq xs ys) := prodL_nums sq _ _ _ hp
theorem timesL_two (p : Int) (sq : List Int) (n : Nat) (xs ys : List Int) (hx : xs.length = pw n) (hn : NumsL p xs) : timesL p sq n [xs, ys] = mulL p sq xs ys := by
  show mulL p sq (mulL p sq (bladeL n 0) xs) ys = _
  rw [one_mul p sq n xs hx hn]
end Go.Proofs.YtggigolkncckoaaGreat
namespace Go.Proofs.YtggigolkncckoaaGreat
open Go.RowKit
/-- The places 1, 2, 4, .. of a list. -/
def partL (n : Nat) (x : List Int) : List Int := (List.range n).map fun i => x.getD (2 ^ i) 0
theorem partL_len (n : Nat) (x : List Int) : (partL n x).length = n := by simp [partL]
theorem partL_nums {p : Int} (hp : 0 < p) (n : Nat) (x : List Int) (h : NumsL p x) : NumsL p (partL n x) := fun y hy => by
  obtain ⟨i, _, rfl⟩ := List.mem_map.1 hy
  exact h.getD hp _
theorem partL_succ (k : Nat) (x : List Int) : partL (k + 1) x = partL k x ++ [x.getD (2 ^ k) 0] := by simp [partL, List.range_succ]
set_option maxHeartbeats 800000 in
theorem vectorPart_any (P : Int) (A : Option Addr) (n c : Nat) (X : Option Addr) (cx : Nat) (x : List Int) (w : World) (hn : n ≤ 10) (hx : Rd w X (pw n) (ints x)) :
    Calls Tryz.prog 301 #[.agg #[.int .i64 P, .slice A n c], .slice X (pw n) cx] w fun e w' => ∃ A' c', e = .returned (.slice A' n c') ∧ MkI w w' A' n c' (partL n x) := by
  have hB0 : Below w.heap.size w (w.alloc (.cells #[.int .i64 P, .slice A n c] 26)) := (Below.refl _ w).alloc (Nat.le_refl _) _
  have hM0 := Mk.lit (E := 2) hB0 #[] (by simp)
  go_enter Tryz.func301, Tryz.ntmps301
  go_wp2_with (go_at_call 139; refine (dim_any _ _ _ _ _).mono ?_; rintro e w1 ⟨rfl, hb1⟩)
  have hM : MkI w w1 (some ⟨w.heap.size + 1, 0, none⟩) 0 0 [] := by have := hM0.below hb1; simpa [MkI, ints] using this
  clear hM0 hb1 hB0
  go_loopw [5, 6, 10] (fun out _ i wr => ∃ (k : Nat) (A' : Option Addr) (c' : Nat), k ≤ n ∧ i = .int .i64 k ∧ out = .slice A' k c' ∧ MkI w wr A' k c' (partL k x)) (fun _ _ i _ => n - (intOf i).toNat)
  case atStart => exact ⟨0, _, _, by omega, rfl, rfl, by simpa [partL] using hM⟩
  case round =>
    obtain ⟨k, A', c', hk, rfl, rfl, hM2⟩ := hrel
    clear hM
    by_cases hlt : k < n
    · have h2 := two_lt hlt
      have hw : wrap64 (2 ^ k) = ((2 ^ k : Nat) : Int) := wrap_pw k (by omega)
      obtain ⟨q, hq⟩ : ∃ q : Nat, q = 2 ^ k := ⟨_, rfl⟩
      rw [← hq] at h2 hw
      obtain ⟨gx, ox, rfl, hxk, hcx⟩ := (hx.below hM2.b).int h2
      have HV : Hid (partL (k + 1) x = partL k x ++ [x[q]]) := Lib.hid (by rw [partL_succ, ← hq, List.getD_eq_getElem?_getD, List.getElem?_eq_getElem hxk]; rfl)
      have HM := Lib.hid hM2
      clear hq hM2
      go_wp2_with (at_builtin; refine wpList_app1 w _ 24 2 _ _ Tryz.underlying24 info_i rfl (by omega) rfl _ _ rfl A' k c' _ _ HM.out (by omega) rfl rfl rfl ?_; intro A2 c2 w2 hM3 _ _)
      go_roundw
      case rel => exact ⟨k + 1, A2, c2, by omega, by go_num, rfl, by rw [HV.out]; simpa [MkI, ints] using hM3⟩
      case measure => simp [intOf]; omega
    · obtain rfl : k = n := by omega
      go_wp2
      go_ret
      exact ⟨_, _, rfl, hM2⟩
set_option maxHeartbeats 800000 in
theorem l04List_any (P : Int) (A : Option Addr) (n c : Nat) (X : Option Addr) (cx : Nat) (x : List Int) (w : World) (hn : n ≤ 10) (hx : Rd w X (pw n) (ints x)) :
    Calls Tryz.prog 332 #[.agg #[.int .i64 P, .slice A n c], .slice X (pw n) cx] w fun e w' => ∃ A' c', e = .returned (.slice A' n c') ∧ MkI w w' A' n c' (partL n x) := by
  have hB0 : Below w.heap.size w (w.alloc (.cells #[.int .i64 P, .slice A n c] 26)) := (Below.refl _ w).alloc (Nat.le_refl _) _
  have hk0 : Blk (w.alloc (.cells #[.int .i64 P, .slice A n c] 26)) w.heap.size 26 #[.int .i64 P, .slice A n c] := Blk.new w _ _
  have hM0 := Mk.lit (E := 2) hB0 #[] (by simp)
  have hM : MkI w ((w.alloc (.cells #[.int .i64 P, .slice A n c] 26)).alloc (.cells #[] 2)) (some ⟨w.heap.size + 1, 0, none⟩) 0 0 [] := by simpa [MkI, ints] using hM0
  have hk1 := hk0.alloc (.cells #[] 2)
  go_enter Tryz.func332, Tryz.ntmps332
  go_wp2
  clear hM0 hB0 hk0
  obtain ⟨w1, hw1⟩ : ∃ W, W = (w.alloc (.cells #[.int .i64 P, .slice A n c] 26)).alloc (.cells #[] 2) := ⟨_, rfl⟩
  rw [← hw1] at hM hk1 ⊢
  clear hw1
  go_loopw [5, 6] (fun out i wr => ∃ (k : Nat) (A' : Option Addr) (c' : Nat), k ≤ n ∧ i = .int .i64 k ∧ out = .slice A' k c' ∧ MkI w wr A' k c' (partL k x) ∧ Blk wr w.heap.size 26 #[.int .i64 P, .slice A n c]) (fun _ i _ => n - (intOf i).toNat)
  case atStart => exact ⟨0, _, _, by omega, rfl, rfl, by simpa [partL] using hM, hk1⟩
  case round =>
    obtain ⟨k, A', c', hk, rfl, rfl, hM2, hk2⟩ := hrel
    clear hM hk1
    obtain ⟨kc0, kc1⟩ := hk2.two
    by_cases hlt : k < n
    · have h2 := two_lt hlt
      have hw : wrap64 (2 ^ k) = ((2 ^ k : Nat) : Int) := wrap_pw k (by omega)
      obtain ⟨q, hq⟩ : ∃ q : Nat, q = 2 ^ k := ⟨_, rfl⟩
      rw [← hq] at h2 hw
      obtain ⟨gx, ox, rfl, hxk, hcx⟩ := (hx.below hM2.b).int h2
      have HV : Hid (partL (k + 1) x = partL k x ++ [x[q]]) := Lib.hid (by rw [partL_succ, ← hq, List.getD_eq_getElem?_getD, List.getElem?_eq_getElem hxk]; rfl)
      have HM := Lib.hid hM2
      have HNE := Lib.hid (Own.ne_blk hM2.2 hk2 (by decide))
      clear hq hM2
      go_wp2_with (at_builtin; refine wpList_app1 w _ 24 2 _ _ Tryz.underlying24 info_i rfl (by omega) rfl _ _ rfl A' k c' _ _ HM.out (by omega) rfl rfl rfl ?_; intro A2 c2 w2 hM3 hgr _)
      have hk3 := hk2.grown hgr HNE.out
      go_roundw
      case rel => exact ⟨k + 1, A2, c2, by omega, by go_num, rfl, by rw [HV.out]; simpa [MkI, ints] using hM3, hk3⟩
      case measure => simp [intOf]; omega
    · obtain rfl : k = n := by omega
      go_wp2
      go_ret
      exact ⟨_, _, rfl, hM2⟩
end Go.Proofs.YtggigolkncckoaaGreat
namespace Go.Proofs.YtggigolkncckoaaGreat
open Go.RowKit
theorem lead_lt_iff (v : List Int) : leadL v < v.length ↔ ∃ i, i < v.length ∧ v.getD i 0 ≠ 0 := by
  constructor
  · intro h; exact ⟨leadL v, h, leadL_at v h⟩
  · rintro ⟨i, hi, hne⟩
    rcases Nat.lt_or_ge i (leadL v) with h | h
    · exact absurd (leadL_before v i h) hne
    · omega
theorem firstL_part (xs : List Int) (k : Nat) : decide (0 ≤ firstL (partG xs k)) = hasG xs k := by
  rw [Bool.eq_iff_iff, decide_eq_true_eq, hasG_iff]
  have h := lead_lt_iff (partG xs k)
  rw [partG_len] at h
  unfold firstL
  rw [partG_len]
  constructor
  · intro h0
    by_cases hl : leadL (partG xs k) < xs.length
    · obtain ⟨i, hi, hne⟩ := h.1 hl
      rw [partG_getD hi] at hne
      by_cases hp : pc i = k
      · rw [if_pos hp] at hne; exact ⟨i, hi, hne, hp⟩
      · rw [if_neg hp] at hne; exact absurd rfl hne
    · rw [if_neg hl] at h0; omega
  · rintro ⟨i, hi, hne, hp⟩
    rw [if_pos (h.2 ⟨i, hi, by rw [partG_getD hi, if_pos hp]; exact hne⟩)]
    omega
theorem gradesL_n (xs : List Int) (n : Nat) (hn : n ≤ 6) (hx : xs.length = pw n) : ((List.range (n + 1)).filter (hasG xs)).map (fun k : Nat => (k : Int)) = gradesL xs := by
  unfold gradesL
  congr 1
  have h : ∀ j, n + 1 + j ≤ 7 → (List.range (n + 1 + j)).filter (hasG xs) = (List.range (n + 1)).filter (hasG xs) := by
    intro j
    induction j with
    | zero => intro _; rfl
    | succ j ih =>
      intro hj
      rw [show n + 1 + (j + 1) = (n + 1 + j) + 1 by omega, List.range_succ, List.filter_append, ih (by omega)]
      have : hasG xs (n + 1 + j) = false := by
        rw [Bool.eq_false_iff]
        intro hh
        obtain ⟨i, hi, _, hp⟩ := (hasG_iff _ _).1 hh
        have := pc_le n i (by rw [hx] at hi; exact hi)
        omega
      simp [this]
  have := h (7 - (n + 1)) (by omega)
  rw [show n + 1 + (7 - (n + 1)) = 7 by omega] at this
  exact this.symm
/-- The grades up to k, collected. -/
def grT (xs : List Int) (k : Nat) : List Int := ((List.range k).filter (hasG xs)).map fun k : Nat => (k : Int)
theorem grT_succ (xs : List Int) (k : Nat) : grT xs (k + 1) = if hasG xs k then grT xs k ++ [(k : Int)] else grT xs k := by
  unfold grT
  rw [List.range_succ, List.filter_append, List.map_append, List.filter_cons, List.filter_nil]
  split
  · rfl
  · rw [List.map_nil, List.append_nil]
theorem grT_le (xs : List Int) (k : Nat) : (grT xs k).length ≤ k := by
  unfold grT
  rw [List.length_map]
  exact Nat.le_trans (List.length_filter_le _ _) (by simp)
set_option maxHeartbeats 800000 in
theorem l04Grades_any (P : Int) (A : Option Addr) (n c : Nat) (X : Option Addr) (cx : Nat) (xs : List Int) (w : World) (hn : n ≤ 6) (hx : Rd w X (pw n) (ints xs)) :
    Calls Tryz.prog 137 #[.agg #[.int .i64 P, .slice A n c], .slice X (pw n) cx] w fun e w' => ∃ A' c', e = .returned (.slice A' (gradesL xs).length c') ∧ MkI w w' A' (gradesL xs).length c' (gradesL xs) := by
  have hxl := hx.lenI
  have HPW64 : pw n ≤ 64 := pw_le hn
  have HG : Hid (grT xs (n + 1) = gradesL xs) := Lib.hid (gradesL_n xs n hn hxl)
  have hB0 : Below w.heap.size w (w.alloc (.cells #[.int .i64 P, .slice A n c] 26)) := (Below.refl _ w).alloc (Nat.le_refl _) _
  have k0 : Blk (w.alloc (.cells #[.int .i64 P, .slice A n c] 26)) w.heap.size 26 #[.int .i64 P, .slice A n c] := Blk.new w _ _
  have hM0 := Mk.lit (E := 2) hB0 #[] (by simp)
  have hM1 : MkI w ((w.alloc (.cells #[.int .i64 P, .slice A n c] 26)).alloc (.cells #[] 2)) (some ⟨w.heap.size + 1, 0, none⟩) 0 0 [] := by simpa [MkI, ints] using hM0
  have k1 := k0.alloc (.cells #[] 2)
  clear hxl
  go_enter Tryz.func137, Tryz.ntmps137
  go_wp2
  clear hM0 hB0 k0
  obtain ⟨w1, hw1⟩ : ∃ W, W = (w.alloc (.cells #[.int .i64 P, .slice A n c] 26)).alloc (.cells #[] 2) := ⟨_, rfl⟩
  rw [← hw1] at hM1 k1 ⊢
  clear hw1
  go_loopw [5, 6] (fun o i wr => ∃ (k : Nat) (A' : Option Addr) (c' : Nat), k ≤ n + 1 ∧ i = .int .i64 k ∧ o = .slice A' (grT xs k).length c' ∧ MkI w wr A' (grT xs k).length c' (grT xs k) ∧ Blk wr w.heap.size 26 #[.int .i64 P, .slice A n c]) (fun _ i _ => n + 1 - (intOf i).toNat)
  case atStart => exact ⟨0, _, _, by omega, rfl, rfl, by simpa [MkI, ints, grT] using hM1, k1⟩
  case round =>
    obtain ⟨k, A', c', hk, rfl, rfl, hM, hk2⟩ := hrel
    clear hM1 k1
    obtain ⟨q0, q1⟩ := hk2.two
    have HS := Lib.hid (grT_succ xs k)
    have hle := grT_le xs k
    have HT := Lib.hid (firstL_part xs k)
    by_cases hlt : k ≤ n
    · obtain ⟨l, hl⟩ : ∃ l, l = (grT xs k).length := ⟨_, rfl⟩
      rw [← hl] at hle hM ⊢
      have HL := Lib.hid hl
      have HR := Lib.hid (hx.below hM.b)
      have HM := Lib.hid hM
      clear hl hM
      cases hh : hasG xs k
      all_goals
        have HH := Lib.hid hh
        have hb : decide (0 ≤ firstL (partG xs k)) = hasG xs k := HT.out
        rw [hh] at hb
        clear hh
        go_wp2_with fail
        refine (l04Part_any _ _ _ _ _ _ HPW64 (by omega) HR.out).mono ?_
        rintro e w1 ⟨A1, c1, rfl, hP⟩
        have hk3 := hk2.below hP.b hk2.lt
        have HM2 := Lib.hid (HM.out.below hP.b)
        clear q0 q1
        obtain ⟨q0, q1⟩ := hk3.two
        go_wp2_with fail
        refine (l02First_any _ _ _ _ _ (by omega) hP.rd).mono ?_
        rintro e w2 ⟨rfl, rfl⟩
      · go_wp2
        go_roundw
        case rel =>
          have e : grT xs (k + 1) = grT xs k := by rw [HS.out, HH.out]; rfl
          exact ⟨k + 1, A', c', by omega, by go_num, by rw [e, ← HL.out], by rw [e, ← HL.out]; exact HM2.out, hk3⟩
        case measure => simp [intOf]; omega
      · go_wp2_with (at_builtin; refine wpList_app1 w _ 24 2 _ _ Tryz.underlying24 info_i rfl (by omega) rfl _ _ rfl A' l c' _ _ HM2.out (by omega) rfl rfl rfl ?_; intro A2 c2 w3 hM3 hgr _)
        have hk4 := hk3.grown hgr (HM2.out.2.ne_blk hk3 (by decide))
        go_roundw
        case rel =>
          have e : grT xs (k + 1) = grT xs k ++ [(k : Int)] := by rw [HS.out, HH.out]; rfl
          have el : (grT xs (k + 1)).length = l + 1 := by rw [e, List.length_append, HL.out]; rfl
          exact ⟨k + 1, A2, c2, by omega, by go_num, by rw [el], by rw [el, e]; simpa [MkI, ints] using hM3, hk4⟩
        case measure => simp [intOf]; omega
    · obtain rfl : k = n + 1 := by omega
      rw [HG.out] at hM ⊢
      go_wp2
      go_ret
      exact ⟨_, _, rfl, hM⟩
end Go.Proofs.YtggigolkncckoaaGreat
namespace Go.Proofs.YtggigolkncckoaaGreat
open Go.RowKit
theorem lengthS_any (A : Option Addr) (n c : Nat) (w : World) :
    Calls Tryz.prog 329 #[.slice A n c] w fun e w' => e = .returned (.int .i64 n) ∧ w = w' := by
  go_enter Tryz.func329, Tryz.ntmps329
  go_wp2
  go_ret
  exact ⟨rfl, rfl⟩
theorem isMu_spec3 {P : Int} {sq ys : List Int} (h : isMu P sq ys = true) : ys.length = pw sq.length ∧ NumsL P ys := by
  unfold isMu at h
  simp only [Bool.and_eq_true, beq_iff_eq] at h
  exact ⟨by have := h.1; omega, nums_numsL h.2⟩
theorem isVe_spec3 {P : Int} {sq ys : List Int} (h : isVe P sq ys = true) : ys.length = sq.length ∧ NumsL P ys := by
  unfold isVe at h
  simp only [Bool.and_eq_true, beq_iff_eq] at h
  exact ⟨by have := h.1; omega, nums_numsL h.2⟩
theorem codeM_spec3 {P : Int} {sq : List Int} {ms : List (List Int)} (h : codeM P sq ms = 0) : isP P = true ∧ 2 ≤ P ∧ P ≤ 13 ∧ 1 ≤ sq.length ∧ sq.length ≤ 6 ∧ NumsL P sq ∧ ∀ ys ∈ ms, ys.length = pw sq.length ∧ NumsL P ys := by
  obtain ⟨h1, h2⟩ := codeM_sp h
  obtain ⟨hp, hd1, hd2, hnum⟩ := isSp_dim h1
  have := isP_ge hp
  exact ⟨hp, by omega, by omega, hd1, hd2, nums_numsL hnum, fun ys hy => isMu_spec3 (h2 ys hy)⟩
/-- Is it a blade of vectors? -/
def isBl (P : Int) (sq : List Int) (n : Nat) (xs : List Int) : Bool := decide ((gradesL xs).length = 1) && decide ((((subL P sq n xs).length : Nat) : Int) = (gradesL xs).getD 0 0)
/-- The code of a space and blades. -/
def codeL (P : Int) (sq : List Int) (ms : List (List Int)) : Int := if codeM P sq ms = 0 then (if ms.all (isBl P sq sq.length) then 0 else 5) else codeM P sq ms
theorem codeL_zero {P : Int} {sq : List Int} {ms : List (List Int)} (h : codeL P sq ms = 0) : codeM P sq ms = 0 ∧ ms.all (isBl P sq sq.length) = true := by
  unfold codeL at h
  by_cases h1 : codeM P sq ms = 0
  · rw [if_pos h1] at h
    by_cases h2 : ms.all (isBl P sq sq.length) = true
    · exact ⟨h1, h2⟩
    · rw [if_neg h2] at h; exact absurd h (by omega)
  · rw [if_neg h1] at h; exact absurd h h1
theorem codeL_bad {P : Int} {sq : List Int} {ms : List (List Int)} (h : codeM P sq ms = 0) {xs : List Int} (hm : xs ∈ ms) (hx : isBl P sq sq.length xs = false) : codeL P sq ms = 5 := by
  unfold codeL
  rw [if_pos h, if_neg]
  intro hall
  have := List.all_eq_true.1 hall xs hm
  rw [hx] at this
  cases this
theorem codeL_good {P : Int} {sq : List Int} {ms : List (List Int)} (h : codeM P sq ms = 0) (hall : ms.all (isBl P sq sq.length) = true) : codeL P sq ms = 0 := by
  unfold codeL
  rw [if_pos h, if_pos hall]
theorem codeL_ne {P : Int} {sq : List Int} {ms : List (List Int)} (h : ¬ codeM P sq ms = 0) : codeL P sq ms = codeM P sq ms := by
  unfold codeL
  rw [if_neg h]
theorem all_take3 {α : Type} {f : α → Bool} {xs : List α} {k : Nat} (hk : k < xs.length) (h : (xs.take k).all f = true) (hf : f xs[k] = true) : (xs.take (k + 1)).all f = true := by
  rw [List.take_succ_eq_append_getElem hk, List.all_append, h]
  simp [hf]
/-- A multivector, a vector: the code of a blade and a vector. -/
def codeLv (P : Int) (sq xs v : List Int) : Int := if codeM P sq [xs] = 0 then (if isVe P sq v then (if isBl P sq sq.length xs then 0 else 5) else 2) else codeM P sq [xs]
theorem codeLv_zero {P : Int} {sq xs v : List Int} (h : codeLv P sq xs v = 0) : codeM P sq [xs] = 0 ∧ isVe P sq v = true ∧ isBl P sq sq.length xs = true := by
  unfold codeLv at h
  by_cases h1 : codeM P sq [xs] = 0
  · rw [if_pos h1] at h
    cases h2 : isVe P sq v
    · rw [h2] at h; simp at h
    · rw [h2, if_pos rfl] at h
      cases h3 : isBl P sq sq.length xs
      · rw [h3] at h; simp at h
      · exact ⟨h1, rfl, rfl⟩
  · rw [if_neg h1] at h; exact absurd h h1
set_option maxHeartbeats 3200000 in
set_option maxRecDepth 8000 in
theorem isBlade_any (P : Int) (A : Option Addr) (n c : Nat) (sq : List Int) (X : Option Addr) (cx : Nat) (xs : List Int) (w : World) (HP : isP P = true) (hn : n ≤ 6) (h0 : 0 < n) (ha : Rd w A n (ints sq)) (hs : NumsL P sq) (hx : Rd w X (pw n) (ints xs)) (hxs : NumsL P xs) :
    Calls Tryz.prog 234 #[.agg #[.int .i64 P, .slice A n c], .slice X (pw n) cx] w fun e w' => e = .returned (.bool (isBl P sq n xs)) ∧ Below w.heap.size w w' := by
  obtain ⟨hp3, hp2⟩ := isP_ge HP
  have hp : 2 ≤ P := by omega
  have hpn := pw_pos n
  have hpw : pw n ≤ 64 := pw_le hn
  have hB0 : Below w.heap.size w (w.alloc (.cells #[.int .i64 P, .slice A n c] 26)) := (Below.refl _ _).alloc (Nat.le_refl _) _
  have k0 : Blk (w.alloc (.cells #[.int .i64 P, .slice A n c] 26)) w.heap.size 26 #[.int .i64 P, .slice A n c] := Blk.new _ _ _
  have hgl := gradesL_len xs
  have hsl := subL_len HP sq n xs
  have hsub := fun w' (hb : Below w.heap.size w w') => subspace_any P A n c sq X cx xs w' HP hn h0 (ha.below hb) hs (hx.below hb) hxs
  have HSUB := Lib.hid hsub
  clear hsub
  obtain ⟨q0, q1⟩ := k0.two
  go_enter Tryz.func234, Tryz.ntmps234
  go_wp2_with fail
  refine (gradesOf_any X (pw n) cx xs _ hpw (hx.below hB0)).mono ?_
  rintro e w1 ⟨G, cg, rfl, hG⟩
  have k1 := k0.below hG.b k0.lt
  have hB1 := hB0.trans (hG.b.mono hB0.size)
  have HGL : Hid ((isBl P sq n xs) = (decide ((gradesL xs).length = 1) && decide ((((subL P sq n xs).length : Nat) : Int) = (gradesL xs).getD 0 0))) := Lib.hid rfl
  have hgr := hG.rd
  obtain ⟨L, hL⟩ : ∃ L, L = gradesL xs := ⟨_, rfl⟩
  rw [← hL] at hgr hgl HGL ⊢
  obtain ⟨q, hq⟩ : ∃ q, q = (subL P sq n xs).length := ⟨_, rfl⟩
  have HQ := Lib.hid hq
  rw [← hq] at HGL hsl
  obtain ⟨m, hm⟩ : ∃ m, m = L.length := ⟨_, rfl⟩
  rw [← hm] at hgr hgl HGL ⊢
  clear k0 hB0 q0 q1 hG hL hq
  have HM := Lib.hid hm
  by_cases h1 : m = 1
  · obtain ⟨gg, og, rfl, hg0, hcg⟩ := hgr.int (show 0 < m by omega)
    have HG0 : Hid (L.getD 0 0 = L[0]) := Lib.hid (getD_of_lt 0 hg0)
    rw [Nat.add_zero] at hcg
    obtain ⟨gv, hgv⟩ : ∃ v, v = L[0] := ⟨_, rfl⟩
    rw [← hgv] at hcg HG0
    clear hgv hg0 hgr hm
    have HZ0 : Hid (isBl P sq n xs = (((q : Nat) : Int) == gv)) := Lib.hid (by rw [HGL.out, HG0.out, h1, Bool.eq_iff_iff]; simp)
    cases hz : (((q : Nat) : Int) == gv)
    all_goals
      have HZ := Lib.hid (HZ0.out.trans hz)
      subst h1
    · go_wp2
      refine wp_obs 14 [[], [0], [0, 1], [0, 1, 2], [0, 1, 2, 3], [0, 1, 2, 3], [0, 1, 2, 3, 4, 5], [0, 1, 2, 3, 4, 5, 6], [0, 1, 2, 3], [0, 1, 2, 3, 8], [0, 1, 2, 3, 8, 9], [0, 1, 2, 3, 4, 5, 6, 7, 8, 9, 10], [0, 1, 2, 3, 4, 5, 6, 7, 8, 9, 10, 11], [0, 1, 2, 3, 4, 5, 6, 7, 8, 9, 10, 11, 12]] [VIs (.slice (some ⟨gg, og, none⟩) 1 cg), VIs (.int .i64 ((1 : Nat))), VIs (.bool true), VIs (.bool true), VIs (.agg #[.int .i64 P, .slice A n c]), VIs (.slice X (pw n) cx), VMat w q (subL P sq n xs), VIs (.int .i64 (q)), VIs (.slice (some ⟨gg, og, none⟩) 1 cg), VIs (.pointer (some ⟨gg, og, none⟩)), VIs (.int .i64 (gv)), VIs (.bool false), VIs (.bool false), VIs (.bool false)] (fun w' => w'.cell? ⟨gg, og, none⟩ = some (.int .i64 gv) ∧ Blk w' w.heap.size 26 #[.int .i64 P, .slice A n c] ∧ Below w.heap.size w w') (by kernel_rfl) (by kernel_rfl) (fun _ _ h hb => ⟨(hb.cell (World.block_lt_of_cell? _ _ h.1)).trans h.1, h.2.1.below hb h.2.1.lt, h.2.2.trans (hb.mono h.2.2.size)⟩) (⟨hcg, k1.drew, hB1.drew⟩) (fun x => ?_)
      refine obs_step (Eq.trans (by simp only [List.getElem?_toArray, List.getElem?_cons_zero]; exact rfl) rfl) rfl (fun w' hS hV K hK => ?_) ?_
      · have q2 := hS.1; obtain ⟨q0, q1⟩ := hS.2.1.two
        go_simp
        exact hK.out _ _ _ rfl rfl rfl (Below.refl _ _)
      simp only [List.setIfInBounds_toArray, List.set_cons_zero, List.set_cons_succ]
      refine obs_step (Eq.trans (by simp only [List.getElem?_toArray, List.getElem?_cons_succ, List.getElem?_cons_zero]; exact rfl) rfl) rfl (fun w' hS hV K hK => ?_) ?_
      · have e0 : x 0 = (.slice (some ⟨gg, og, none⟩) 1 cg) := hV 0 (by decide)
        have q2 := hS.1; obtain ⟨q0, q1⟩ := hS.2.1.two
        go_simp
        exact hK.out _ _ _ rfl rfl rfl (Below.refl _ _)
      simp only [List.setIfInBounds_toArray, List.set_cons_zero, List.set_cons_succ]
      refine obs_step (Eq.trans (by simp only [List.getElem?_toArray, List.getElem?_cons_succ, List.getElem?_cons_zero]; exact rfl) rfl) rfl (fun w' hS hV K hK => ?_) ?_
      · have e0 : x 0 = (.slice (some ⟨gg, og, none⟩) 1 cg) := hV 0 (by decide)
        have e1 : x 1 = (.int .i64 ((1 : Nat))) := hV 1 (by decide)
        have q2 := hS.1; obtain ⟨q0, q1⟩ := hS.2.1.two
        go_simp
        exact hK.out _ _ _ rfl rfl rfl (Below.refl _ _)
      simp only [List.setIfInBounds_toArray, List.set_cons_zero, List.set_cons_succ]
      refine obs_step (Eq.trans (by simp only [List.getElem?_toArray, List.getElem?_cons_succ, List.getElem?_cons_zero]; exact rfl) rfl) rfl (fun w' hS hV K hK => ?_) ?_
      · have e0 : x 0 = (.slice (some ⟨gg, og, none⟩) 1 cg) := hV 0 (by decide)
        have e1 : x 1 = (.int .i64 ((1 : Nat))) := hV 1 (by decide)
        have e2 : x 2 = (.bool true) := hV 2 (by decide)
        have q2 := hS.1; obtain ⟨q0, q1⟩ := hS.2.1.two
        go_simp
        exact hK.out _ _ _ rfl rfl rfl (Below.refl _ _)
      simp only [List.setIfInBounds_toArray, List.set_cons_zero, List.set_cons_succ]
      refine obs_step (Eq.trans (by simp only [List.getElem?_toArray, List.getElem?_cons_succ, List.getElem?_cons_zero]; exact rfl) rfl) rfl (fun w' hS hV K hK => ?_) ?_
      · have e0 : x 0 = (.slice (some ⟨gg, og, none⟩) 1 cg) := hV 0 (by decide)
        have e1 : x 1 = (.int .i64 ((1 : Nat))) := hV 1 (by decide)
        have e2 : x 2 = (.bool true) := hV 2 (by decide)
        have e3 : x 3 = (.bool true) := hV 3 (by decide)
        have q2 := hS.1; obtain ⟨q0, q1⟩ := hS.2.1.two
        go_simp
        exact hK.out _ _ _ rfl rfl rfl (Below.refl _ _)
      simp only [List.setIfInBounds_toArray, List.set_cons_zero, List.set_cons_succ]
      refine obs_step (Eq.trans (by simp only [List.getElem?_toArray, List.getElem?_cons_succ, List.getElem?_cons_zero]; exact rfl) rfl) rfl (fun w' hS hV K hK => ?_) ?_
      · have e0 : x 0 = (.slice (some ⟨gg, og, none⟩) 1 cg) := hV 0 (by decide)
        have e1 : x 1 = (.int .i64 ((1 : Nat))) := hV 1 (by decide)
        have e2 : x 2 = (.bool true) := hV 2 (by decide)
        have e3 : x 3 = (.bool true) := hV 3 (by decide)
        have q2 := hS.1; obtain ⟨q0, q1⟩ := hS.2.1.two
        go_simp
        exact hK.out _ _ _ rfl rfl rfl (Below.refl _ _)
      simp only [List.setIfInBounds_toArray, List.set_cons_zero, List.set_cons_succ]
      refine obs_step (Eq.trans (by simp only [List.getElem?_toArray, List.getElem?_cons_succ, List.getElem?_cons_zero]; exact rfl) rfl) rfl (fun w' hS hV K hK => ?_) ?_
      · have e0 : x 0 = (.slice (some ⟨gg, og, none⟩) 1 cg) := hV 0 (by decide)
        have e1 : x 1 = (.int .i64 ((1 : Nat))) := hV 1 (by decide)
        have e2 : x 2 = (.bool true) := hV 2 (by decide)
        have e3 : x 3 = (.bool true) := hV 3 (by decide)
        have e4 : x 4 = (.agg #[.int .i64 P, .slice A n c]) := hV 4 (by decide)
        have e5 : x 5 = (.slice X (pw n) cx) := hV 5 (by decide)
        have q2 := hS.1; obtain ⟨q0, q1⟩ := hS.2.1.two
        go_simp
        refine (HSUB.out _ hS.2.2).mono ?_
        rw [← HQ.out]
        rintro e v1 ⟨A2, c2, rfl, hM⟩
        exact hK.out _ _ _ rfl rfl ⟨_, _, rfl, hM.after hS.2.2⟩ hM.b
      simp only [List.setIfInBounds_toArray, List.set_cons_zero, List.set_cons_succ]
      refine obs_step (Eq.trans (by simp only [List.getElem?_toArray, List.getElem?_cons_succ, List.getElem?_cons_zero]; exact rfl) rfl) rfl (fun w' hS hV K hK => ?_) ?_
      · have e0 : x 0 = (.slice (some ⟨gg, og, none⟩) 1 cg) := hV 0 (by decide)
        have e1 : x 1 = (.int .i64 ((1 : Nat))) := hV 1 (by decide)
        have e2 : x 2 = (.bool true) := hV 2 (by decide)
        have e3 : x 3 = (.bool true) := hV 3 (by decide)
        have e4 : x 4 = (.agg #[.int .i64 P, .slice A n c]) := hV 4 (by decide)
        have e5 : x 5 = (.slice X (pw n) cx) := hV 5 (by decide)
        obtain ⟨A6, c6, e6, h6⟩ := hV 6 (by decide)
        have q2 := hS.1; obtain ⟨q0, q1⟩ := hS.2.1.two
        go_simp
        refine (lengthS_any _ _ _ _).mono ?_
        rintro e v1 ⟨rfl, rfl⟩
        exact hK.out _ _ _ rfl rfl rfl (Below.refl _ _)
      simp only [List.setIfInBounds_toArray, List.set_cons_zero, List.set_cons_succ]
      refine obs_step (Eq.trans (by simp only [List.getElem?_toArray, List.getElem?_cons_succ, List.getElem?_cons_zero]; exact rfl) rfl) rfl (fun w' hS hV K hK => ?_) ?_
      · have e0 : x 0 = (.slice (some ⟨gg, og, none⟩) 1 cg) := hV 0 (by decide)
        have e1 : x 1 = (.int .i64 ((1 : Nat))) := hV 1 (by decide)
        have e2 : x 2 = (.bool true) := hV 2 (by decide)
        have e3 : x 3 = (.bool true) := hV 3 (by decide)
        have q2 := hS.1; obtain ⟨q0, q1⟩ := hS.2.1.two
        go_simp
        exact hK.out _ _ _ rfl rfl rfl (Below.refl _ _)
      simp only [List.setIfInBounds_toArray, List.set_cons_zero, List.set_cons_succ]
      refine obs_step (Eq.trans (by simp only [List.getElem?_toArray, List.getElem?_cons_succ, List.getElem?_cons_zero]; exact rfl) rfl) rfl (fun w' hS hV K hK => ?_) ?_
      · have e0 : x 0 = (.slice (some ⟨gg, og, none⟩) 1 cg) := hV 0 (by decide)
        have e1 : x 1 = (.int .i64 ((1 : Nat))) := hV 1 (by decide)
        have e2 : x 2 = (.bool true) := hV 2 (by decide)
        have e3 : x 3 = (.bool true) := hV 3 (by decide)
        have e8 : x 8 = (.slice (some ⟨gg, og, none⟩) 1 cg) := hV 8 (by decide)
        have q2 := hS.1; obtain ⟨q0, q1⟩ := hS.2.1.two
        go_simp
        exact hK.out _ _ _ rfl rfl rfl (Below.refl _ _)
      simp only [List.setIfInBounds_toArray, List.set_cons_zero, List.set_cons_succ]
      refine obs_step (Eq.trans (by simp only [List.getElem?_toArray, List.getElem?_cons_succ, List.getElem?_cons_zero]; exact rfl) rfl) rfl (fun w' hS hV K hK => ?_) ?_
      · have e0 : x 0 = (.slice (some ⟨gg, og, none⟩) 1 cg) := hV 0 (by decide)
        have e1 : x 1 = (.int .i64 ((1 : Nat))) := hV 1 (by decide)
        have e2 : x 2 = (.bool true) := hV 2 (by decide)
        have e3 : x 3 = (.bool true) := hV 3 (by decide)
        have e8 : x 8 = (.slice (some ⟨gg, og, none⟩) 1 cg) := hV 8 (by decide)
        have e9 : x 9 = (.pointer (some ⟨gg, og, none⟩)) := hV 9 (by decide)
        have q2 := hS.1; obtain ⟨q0, q1⟩ := hS.2.1.two
        go_simp
        exact hK.out _ _ _ rfl rfl rfl (Below.refl _ _)
      simp only [List.setIfInBounds_toArray, List.set_cons_zero, List.set_cons_succ]
      refine obs_step (Eq.trans (by simp only [List.getElem?_toArray, List.getElem?_cons_succ, List.getElem?_cons_zero]; exact rfl) rfl) rfl (fun w' hS hV K hK => ?_) ?_
      · have e0 : x 0 = (.slice (some ⟨gg, og, none⟩) 1 cg) := hV 0 (by decide)
        have e1 : x 1 = (.int .i64 ((1 : Nat))) := hV 1 (by decide)
        have e2 : x 2 = (.bool true) := hV 2 (by decide)
        have e3 : x 3 = (.bool true) := hV 3 (by decide)
        have e4 : x 4 = (.agg #[.int .i64 P, .slice A n c]) := hV 4 (by decide)
        have e5 : x 5 = (.slice X (pw n) cx) := hV 5 (by decide)
        obtain ⟨A6, c6, e6, h6⟩ := hV 6 (by decide)
        have e7 : x 7 = (.int .i64 (q)) := hV 7 (by decide)
        have e8 : x 8 = (.slice (some ⟨gg, og, none⟩) 1 cg) := hV 8 (by decide)
        have e9 : x 9 = (.pointer (some ⟨gg, og, none⟩)) := hV 9 (by decide)
        have e10 : x 10 = (.int .i64 (gv)) := hV 10 (by decide)
        have q2 := hS.1; obtain ⟨q0, q1⟩ := hS.2.1.two
        go_simp
        exact hK.out _ _ _ rfl rfl rfl (Below.refl _ _)
      simp only [List.setIfInBounds_toArray, List.set_cons_zero, List.set_cons_succ]
      refine obs_step (Eq.trans (by simp only [List.getElem?_toArray, List.getElem?_cons_succ, List.getElem?_cons_zero]; exact rfl) rfl) rfl (fun w' hS hV K hK => ?_) ?_
      · have e0 : x 0 = (.slice (some ⟨gg, og, none⟩) 1 cg) := hV 0 (by decide)
        have e1 : x 1 = (.int .i64 ((1 : Nat))) := hV 1 (by decide)
        have e2 : x 2 = (.bool true) := hV 2 (by decide)
        have e3 : x 3 = (.bool true) := hV 3 (by decide)
        have e4 : x 4 = (.agg #[.int .i64 P, .slice A n c]) := hV 4 (by decide)
        have e5 : x 5 = (.slice X (pw n) cx) := hV 5 (by decide)
        obtain ⟨A6, c6, e6, h6⟩ := hV 6 (by decide)
        have e7 : x 7 = (.int .i64 (q)) := hV 7 (by decide)
        have e8 : x 8 = (.slice (some ⟨gg, og, none⟩) 1 cg) := hV 8 (by decide)
        have e9 : x 9 = (.pointer (some ⟨gg, og, none⟩)) := hV 9 (by decide)
        have e10 : x 10 = (.int .i64 (gv)) := hV 10 (by decide)
        have e11 : x 11 = (.bool false) := hV 11 (by decide)
        have q2 := hS.1; obtain ⟨q0, q1⟩ := hS.2.1.two
        go_simp
        exact hK.out _ _ _ rfl rfl rfl (Below.refl _ _)
      simp only [List.setIfInBounds_toArray, List.set_cons_zero, List.set_cons_succ]
      refine obs_step (Eq.trans (by simp only [List.getElem?_toArray, List.getElem?_cons_succ, List.getElem?_cons_zero]; exact rfl) rfl) rfl (fun w' hS hV K hK => ?_) ?_
      · have e0 : x 0 = (.slice (some ⟨gg, og, none⟩) 1 cg) := hV 0 (by decide)
        have e1 : x 1 = (.int .i64 ((1 : Nat))) := hV 1 (by decide)
        have e2 : x 2 = (.bool true) := hV 2 (by decide)
        have e3 : x 3 = (.bool true) := hV 3 (by decide)
        have e4 : x 4 = (.agg #[.int .i64 P, .slice A n c]) := hV 4 (by decide)
        have e5 : x 5 = (.slice X (pw n) cx) := hV 5 (by decide)
        obtain ⟨A6, c6, e6, h6⟩ := hV 6 (by decide)
        have e7 : x 7 = (.int .i64 (q)) := hV 7 (by decide)
        have e8 : x 8 = (.slice (some ⟨gg, og, none⟩) 1 cg) := hV 8 (by decide)
        have e9 : x 9 = (.pointer (some ⟨gg, og, none⟩)) := hV 9 (by decide)
        have e10 : x 10 = (.int .i64 (gv)) := hV 10 (by decide)
        have e11 : x 11 = (.bool false) := hV 11 (by decide)
        have e12 : x 12 = (.bool false) := hV 12 (by decide)
        have q2 := hS.1; obtain ⟨q0, q1⟩ := hS.2.1.two
        go_simp
        exact hK.out _ _ _ rfl rfl rfl (Below.refl _ _)
      simp only [List.setIfInBounds_toArray, List.set_cons_zero, List.set_cons_succ]
      refine fun w' hS hV => ?_
      have e0 : x 0 = (.slice (some ⟨gg, og, none⟩) 1 cg) := hV 0 (by decide)
      have e1 : x 1 = (.int .i64 ((1 : Nat))) := hV 1 (by decide)
      have e2 : x 2 = (.bool true) := hV 2 (by decide)
      have e3 : x 3 = (.bool true) := hV 3 (by decide)
      have e4 : x 4 = (.agg #[.int .i64 P, .slice A n c]) := hV 4 (by decide)
      have e5 : x 5 = (.slice X (pw n) cx) := hV 5 (by decide)
      obtain ⟨A6, c6, e6, h6⟩ := hV 6 (by decide)
      have e7 : x 7 = (.int .i64 (q)) := hV 7 (by decide)
      have e8 : x 8 = (.slice (some ⟨gg, og, none⟩) 1 cg) := hV 8 (by decide)
      have e9 : x 9 = (.pointer (some ⟨gg, og, none⟩)) := hV 9 (by decide)
      have e10 : x 10 = (.int .i64 (gv)) := hV 10 (by decide)
      have e11 : x 11 = (.bool false) := hV 11 (by decide)
      have e12 : x 12 = (.bool false) := hV 12 (by decide)
      have e13 : x 13 = (.bool false) := hV 13 (by decide)
      simp only [e0, e1, e2, e3, e4, e5, e6, e7, e8, e9, e10, e11, e12, e13]
      clear e0 e1 e2 e3 e4 e5 e6 e7 e8 e9 e10 e11 e12 e13
      refine wpAny_done (by kernel_rfl) ?_ _
      go_wp2
      go_ret
      exact ⟨ret_bool HZ.out.symm, hS.2.2⟩
    · go_wp2
      refine wp_obs 14 [[], [0], [0, 1], [0, 1, 2], [0, 1, 2, 3], [0, 1, 2, 3], [0, 1, 2, 3, 4, 5], [0, 1, 2, 3, 4, 5, 6], [0, 1, 2, 3], [0, 1, 2, 3, 8], [0, 1, 2, 3, 8, 9], [0, 1, 2, 3, 4, 5, 6, 7, 8, 9, 10], [0, 1, 2, 3, 4, 5, 6, 7, 8, 9, 10, 11], [0, 1, 2, 3, 4, 5, 6, 7, 8, 9, 10, 11, 12]] [VIs (.slice (some ⟨gg, og, none⟩) 1 cg), VIs (.int .i64 ((1 : Nat))), VIs (.bool true), VIs (.bool true), VIs (.agg #[.int .i64 P, .slice A n c]), VIs (.slice X (pw n) cx), VMat w q (subL P sq n xs), VIs (.int .i64 (q)), VIs (.slice (some ⟨gg, og, none⟩) 1 cg), VIs (.pointer (some ⟨gg, og, none⟩)), VIs (.int .i64 (gv)), VIs (.bool true), VIs (.bool true), VIs (.bool true)] (fun w' => w'.cell? ⟨gg, og, none⟩ = some (.int .i64 gv) ∧ Blk w' w.heap.size 26 #[.int .i64 P, .slice A n c] ∧ Below w.heap.size w w') (by kernel_rfl) (by kernel_rfl) (fun _ _ h hb => ⟨(hb.cell (World.block_lt_of_cell? _ _ h.1)).trans h.1, h.2.1.below hb h.2.1.lt, h.2.2.trans (hb.mono h.2.2.size)⟩) (⟨hcg, k1.drew, hB1.drew⟩) (fun x => ?_)
      refine obs_step (Eq.trans (by simp only [List.getElem?_toArray, List.getElem?_cons_zero]; exact rfl) rfl) rfl (fun w' hS hV K hK => ?_) ?_
      · have q2 := hS.1; obtain ⟨q0, q1⟩ := hS.2.1.two
        go_simp
        exact hK.out _ _ _ rfl rfl rfl (Below.refl _ _)
      simp only [List.setIfInBounds_toArray, List.set_cons_zero, List.set_cons_succ]
      refine obs_step (Eq.trans (by simp only [List.getElem?_toArray, List.getElem?_cons_succ, List.getElem?_cons_zero]; exact rfl) rfl) rfl (fun w' hS hV K hK => ?_) ?_
      · have e0 : x 0 = (.slice (some ⟨gg, og, none⟩) 1 cg) := hV 0 (by decide)
        have q2 := hS.1; obtain ⟨q0, q1⟩ := hS.2.1.two
        go_simp
        exact hK.out _ _ _ rfl rfl rfl (Below.refl _ _)
      simp only [List.setIfInBounds_toArray, List.set_cons_zero, List.set_cons_succ]
      refine obs_step (Eq.trans (by simp only [List.getElem?_toArray, List.getElem?_cons_succ, List.getElem?_cons_zero]; exact rfl) rfl) rfl (fun w' hS hV K hK => ?_) ?_
      · have e0 : x 0 = (.slice (some ⟨gg, og, none⟩) 1 cg) := hV 0 (by decide)
        have e1 : x 1 = (.int .i64 ((1 : Nat))) := hV 1 (by decide)
        have q2 := hS.1; obtain ⟨q0, q1⟩ := hS.2.1.two
        go_simp
        exact hK.out _ _ _ rfl rfl rfl (Below.refl _ _)
      simp only [List.setIfInBounds_toArray, List.set_cons_zero, List.set_cons_succ]
      refine obs_step (Eq.trans (by simp only [List.getElem?_toArray, List.getElem?_cons_succ, List.getElem?_cons_zero]; exact rfl) rfl) rfl (fun w' hS hV K hK => ?_) ?_
      · have e0 : x 0 = (.slice (some ⟨gg, og, none⟩) 1 cg) := hV 0 (by decide)
        have e1 : x 1 = (.int .i64 ((1 : Nat))) := hV 1 (by decide)
        have e2 : x 2 = (.bool true) := hV 2 (by decide)
        have q2 := hS.1; obtain ⟨q0, q1⟩ := hS.2.1.two
        go_simp
        exact hK.out _ _ _ rfl rfl rfl (Below.refl _ _)
      simp only [List.setIfInBounds_toArray, List.set_cons_zero, List.set_cons_succ]
      refine obs_step (Eq.trans (by simp only [List.getElem?_toArray, List.getElem?_cons_succ, List.getElem?_cons_zero]; exact rfl) rfl) rfl (fun w' hS hV K hK => ?_) ?_
      · have e0 : x 0 = (.slice (some ⟨gg, og, none⟩) 1 cg) := hV 0 (by decide)
        have e1 : x 1 = (.int .i64 ((1 : Nat))) := hV 1 (by decide)
        have e2 : x 2 = (.bool true) := hV 2 (by decide)
        have e3 : x 3 = (.bool true) := hV 3 (by decide)
        have q2 := hS.1; obtain ⟨q0, q1⟩ := hS.2.1.two
        go_simp
        exact hK.out _ _ _ rfl rfl rfl (Below.refl _ _)
      simp only [List.setIfInBounds_toArray, List.set_cons_zero, List.set_cons_succ]
      refine obs_step (Eq.trans (by simp only [List.getElem?_toArray, List.getElem?_cons_succ, List.getElem?_cons_zero]; exact rfl) rfl) rfl (fun w' hS hV K hK => ?_) ?_
      · have e0 : x 0 = (.slice (some ⟨gg, og, none⟩) 1 cg) := hV 0 (by decide)
        have e1 : x 1 = (.int .i64 ((1 : Nat))) := hV 1 (by decide)
        have e2 : x 2 = (.bool true) := hV 2 (by decide)
        have e3 : x 3 = (.bool true) := hV 3 (by decide)
        have q2 := hS.1; obtain ⟨q0, q1⟩ := hS.2.1.two
        go_simp
        exact hK.out _ _ _ rfl rfl rfl (Below.refl _ _)
      simp only [List.setIfInBounds_toArray, List.set_cons_zero, List.set_cons_succ]
      refine obs_step (Eq.trans (by simp only [List.getElem?_toArray, List.getElem?_cons_succ, List.getElem?_cons_zero]; exact rfl) rfl) rfl (fun w' hS hV K hK => ?_) ?_
      · have e0 : x 0 = (.slice (some ⟨gg, og, none⟩) 1 cg) := hV 0 (by decide)
        have e1 : x 1 = (.int .i64 ((1 : Nat))) := hV 1 (by decide)
        have e2 : x 2 = (.bool true) := hV 2 (by decide)
        have e3 : x 3 = (.bool true) := hV 3 (by decide)
        have e4 : x 4 = (.agg #[.int .i64 P, .slice A n c]) := hV 4 (by decide)
        have e5 : x 5 = (.slice X (pw n) cx) := hV 5 (by decide)
        have q2 := hS.1; obtain ⟨q0, q1⟩ := hS.2.1.two
        go_simp
        refine (HSUB.out _ hS.2.2).mono ?_
        rw [← HQ.out]
        rintro e v1 ⟨A2, c2, rfl, hM⟩
        exact hK.out _ _ _ rfl rfl ⟨_, _, rfl, hM.after hS.2.2⟩ hM.b
      simp only [List.setIfInBounds_toArray, List.set_cons_zero, List.set_cons_succ]
      refine obs_step (Eq.trans (by simp only [List.getElem?_toArray, List.getElem?_cons_succ, List.getElem?_cons_zero]; exact rfl) rfl) rfl (fun w' hS hV K hK => ?_) ?_
      · have e0 : x 0 = (.slice (some ⟨gg, og, none⟩) 1 cg) := hV 0 (by decide)
        have e1 : x 1 = (.int .i64 ((1 : Nat))) := hV 1 (by decide)
        have e2 : x 2 = (.bool true) := hV 2 (by decide)
        have e3 : x 3 = (.bool true) := hV 3 (by decide)
        have e4 : x 4 = (.agg #[.int .i64 P, .slice A n c]) := hV 4 (by decide)
        have e5 : x 5 = (.slice X (pw n) cx) := hV 5 (by decide)
        obtain ⟨A6, c6, e6, h6⟩ := hV 6 (by decide)
        have q2 := hS.1; obtain ⟨q0, q1⟩ := hS.2.1.two
        go_simp
        refine (lengthS_any _ _ _ _).mono ?_
        rintro e v1 ⟨rfl, rfl⟩
        exact hK.out _ _ _ rfl rfl rfl (Below.refl _ _)
      simp only [List.setIfInBounds_toArray, List.set_cons_zero, List.set_cons_succ]
      refine obs_step (Eq.trans (by simp only [List.getElem?_toArray, List.getElem?_cons_succ, List.getElem?_cons_zero]; exact rfl) rfl) rfl (fun w' hS hV K hK => ?_) ?_
      · have e0 : x 0 = (.slice (some ⟨gg, og, none⟩) 1 cg) := hV 0 (by decide)
        have e1 : x 1 = (.int .i64 ((1 : Nat))) := hV 1 (by decide)
        have e2 : x 2 = (.bool true) := hV 2 (by decide)
        have e3 : x 3 = (.bool true) := hV 3 (by decide)
        have q2 := hS.1; obtain ⟨q0, q1⟩ := hS.2.1.two
        go_simp
        exact hK.out _ _ _ rfl rfl rfl (Below.refl _ _)
      simp only [List.setIfInBounds_toArray, List.set_cons_zero, List.set_cons_succ]
      refine obs_step (Eq.trans (by simp only [List.getElem?_toArray, List.getElem?_cons_succ, List.getElem?_cons_zero]; exact rfl) rfl) rfl (fun w' hS hV K hK => ?_) ?_
      · have e0 : x 0 = (.slice (some ⟨gg, og, none⟩) 1 cg) := hV 0 (by decide)
        have e1 : x 1 = (.int .i64 ((1 : Nat))) := hV 1 (by decide)
        have e2 : x 2 = (.bool true) := hV 2 (by decide)
        have e3 : x 3 = (.bool true) := hV 3 (by decide)
        have e8 : x 8 = (.slice (some ⟨gg, og, none⟩) 1 cg) := hV 8 (by decide)
        have q2 := hS.1; obtain ⟨q0, q1⟩ := hS.2.1.two
        go_simp
        exact hK.out _ _ _ rfl rfl rfl (Below.refl _ _)
      simp only [List.setIfInBounds_toArray, List.set_cons_zero, List.set_cons_succ]
      refine obs_step (Eq.trans (by simp only [List.getElem?_toArray, List.getElem?_cons_succ, List.getElem?_cons_zero]; exact rfl) rfl) rfl (fun w' hS hV K hK => ?_) ?_
      · have e0 : x 0 = (.slice (some ⟨gg, og, none⟩) 1 cg) := hV 0 (by decide)
        have e1 : x 1 = (.int .i64 ((1 : Nat))) := hV 1 (by decide)
        have e2 : x 2 = (.bool true) := hV 2 (by decide)
        have e3 : x 3 = (.bool true) := hV 3 (by decide)
        have e8 : x 8 = (.slice (some ⟨gg, og, none⟩) 1 cg) := hV 8 (by decide)
        have e9 : x 9 = (.pointer (some ⟨gg, og, none⟩)) := hV 9 (by decide)
        have q2 := hS.1; obtain ⟨q0, q1⟩ := hS.2.1.two
        go_simp
        exact hK.out _ _ _ rfl rfl rfl (Below.refl _ _)
      simp only [List.setIfInBounds_toArray, List.set_cons_zero, List.set_cons_succ]
      refine obs_step (Eq.trans (by simp only [List.getElem?_toArray, List.getElem?_cons_succ, List.getElem?_cons_zero]; exact rfl) rfl) rfl (fun w' hS hV K hK => ?_) ?_
      · have e0 : x 0 = (.slice (some ⟨gg, og, none⟩) 1 cg) := hV 0 (by decide)
        have e1 : x 1 = (.int .i64 ((1 : Nat))) := hV 1 (by decide)
        have e2 : x 2 = (.bool true) := hV 2 (by decide)
        have e3 : x 3 = (.bool true) := hV 3 (by decide)
        have e4 : x 4 = (.agg #[.int .i64 P, .slice A n c]) := hV 4 (by decide)
        have e5 : x 5 = (.slice X (pw n) cx) := hV 5 (by decide)
        obtain ⟨A6, c6, e6, h6⟩ := hV 6 (by decide)
        have e7 : x 7 = (.int .i64 (q)) := hV 7 (by decide)
        have e8 : x 8 = (.slice (some ⟨gg, og, none⟩) 1 cg) := hV 8 (by decide)
        have e9 : x 9 = (.pointer (some ⟨gg, og, none⟩)) := hV 9 (by decide)
        have e10 : x 10 = (.int .i64 (gv)) := hV 10 (by decide)
        have q2 := hS.1; obtain ⟨q0, q1⟩ := hS.2.1.two
        go_simp
        exact hK.out _ _ _ rfl rfl rfl (Below.refl _ _)
      simp only [List.setIfInBounds_toArray, List.set_cons_zero, List.set_cons_succ]
      refine obs_step (Eq.trans (by simp only [List.getElem?_toArray, List.getElem?_cons_succ, List.getElem?_cons_zero]; exact rfl) rfl) rfl (fun w' hS hV K hK => ?_) ?_
      · have e0 : x 0 = (.slice (some ⟨gg, og, none⟩) 1 cg) := hV 0 (by decide)
        have e1 : x 1 = (.int .i64 ((1 : Nat))) := hV 1 (by decide)
        have e2 : x 2 = (.bool true) := hV 2 (by decide)
        have e3 : x 3 = (.bool true) := hV 3 (by decide)
        have e4 : x 4 = (.agg #[.int .i64 P, .slice A n c]) := hV 4 (by decide)
        have e5 : x 5 = (.slice X (pw n) cx) := hV 5 (by decide)
        obtain ⟨A6, c6, e6, h6⟩ := hV 6 (by decide)
        have e7 : x 7 = (.int .i64 (q)) := hV 7 (by decide)
        have e8 : x 8 = (.slice (some ⟨gg, og, none⟩) 1 cg) := hV 8 (by decide)
        have e9 : x 9 = (.pointer (some ⟨gg, og, none⟩)) := hV 9 (by decide)
        have e10 : x 10 = (.int .i64 (gv)) := hV 10 (by decide)
        have e11 : x 11 = (.bool true) := hV 11 (by decide)
        have q2 := hS.1; obtain ⟨q0, q1⟩ := hS.2.1.two
        go_simp
        exact hK.out _ _ _ rfl rfl rfl (Below.refl _ _)
      simp only [List.setIfInBounds_toArray, List.set_cons_zero, List.set_cons_succ]
      refine obs_step (Eq.trans (by simp only [List.getElem?_toArray, List.getElem?_cons_succ, List.getElem?_cons_zero]; exact rfl) rfl) rfl (fun w' hS hV K hK => ?_) ?_
      · have e0 : x 0 = (.slice (some ⟨gg, og, none⟩) 1 cg) := hV 0 (by decide)
        have e1 : x 1 = (.int .i64 ((1 : Nat))) := hV 1 (by decide)
        have e2 : x 2 = (.bool true) := hV 2 (by decide)
        have e3 : x 3 = (.bool true) := hV 3 (by decide)
        have e4 : x 4 = (.agg #[.int .i64 P, .slice A n c]) := hV 4 (by decide)
        have e5 : x 5 = (.slice X (pw n) cx) := hV 5 (by decide)
        obtain ⟨A6, c6, e6, h6⟩ := hV 6 (by decide)
        have e7 : x 7 = (.int .i64 (q)) := hV 7 (by decide)
        have e8 : x 8 = (.slice (some ⟨gg, og, none⟩) 1 cg) := hV 8 (by decide)
        have e9 : x 9 = (.pointer (some ⟨gg, og, none⟩)) := hV 9 (by decide)
        have e10 : x 10 = (.int .i64 (gv)) := hV 10 (by decide)
        have e11 : x 11 = (.bool true) := hV 11 (by decide)
        have e12 : x 12 = (.bool true) := hV 12 (by decide)
        have q2 := hS.1; obtain ⟨q0, q1⟩ := hS.2.1.two
        go_simp
        exact hK.out _ _ _ rfl rfl rfl (Below.refl _ _)
      simp only [List.setIfInBounds_toArray, List.set_cons_zero, List.set_cons_succ]
      refine fun w' hS hV => ?_
      have e0 : x 0 = (.slice (some ⟨gg, og, none⟩) 1 cg) := hV 0 (by decide)
      have e1 : x 1 = (.int .i64 ((1 : Nat))) := hV 1 (by decide)
      have e2 : x 2 = (.bool true) := hV 2 (by decide)
      have e3 : x 3 = (.bool true) := hV 3 (by decide)
      have e4 : x 4 = (.agg #[.int .i64 P, .slice A n c]) := hV 4 (by decide)
      have e5 : x 5 = (.slice X (pw n) cx) := hV 5 (by decide)
      obtain ⟨A6, c6, e6, h6⟩ := hV 6 (by decide)
      have e7 : x 7 = (.int .i64 (q)) := hV 7 (by decide)
      have e8 : x 8 = (.slice (some ⟨gg, og, none⟩) 1 cg) := hV 8 (by decide)
      have e9 : x 9 = (.pointer (some ⟨gg, og, none⟩)) := hV 9 (by decide)
      have e10 : x 10 = (.int .i64 (gv)) := hV 10 (by decide)
      have e11 : x 11 = (.bool true) := hV 11 (by decide)
      have e12 : x 12 = (.bool true) := hV 12 (by decide)
      have e13 : x 13 = (.bool true) := hV 13 (by decide)
      simp only [e0, e1, e2, e3, e4, e5, e6, e7, e8, e9, e10, e11, e12, e13]
      clear e0 e1 e2 e3 e4 e5 e6 e7 e8 e9 e10 e11 e12 e13
      refine wpAny_done (by kernel_rfl) ?_ _
      go_wp2
      go_ret
      exact ⟨ret_bool HZ.out.symm, hS.2.2⟩
  · have HZ : Hid (isBl P sq n xs = false) := Lib.hid (by rw [HGL.out]; simp [h1])
    have hm1 : (((m : Nat) : Int) == 1) = false := by simp; omega
    clear hgr hm
    go_wp2
    refine wp_obs 14 [[], [0], [0, 1], [0, 1, 2], [0, 1, 2, 3], [0, 1, 2, 3], [0, 1, 2, 3, 4, 5], [0, 1, 2, 3, 4, 5, 6], [0, 1, 2, 3], [0, 1, 2, 3, 8], [0, 1, 2, 3, 8, 9], [0, 1, 2, 3, 4, 5, 6, 7, 8, 9, 10], [0, 1, 2, 3, 4, 5, 6, 7, 8, 9, 10, 11], [0, 1, 2, 3, 4, 5, 6, 7, 8, 9, 10, 11, 12]] [VIs (.slice G m cg), VIs (.int .i64 (m)), VIs (.bool false), VIs (.bool false), VIs undef, VIs undef, VIs undef, VIs undef, VIs undef, VIs undef, VIs undef, VIs undef, VIs (.bool false), VIs (.bool false)] (fun w' => Blk w' w.heap.size 26 #[.int .i64 P, .slice A n c] ∧ Below w.heap.size w w') (by kernel_rfl) (by kernel_rfl) (fun _ _ h hb => ⟨h.1.below hb h.1.lt, h.2.trans (hb.mono h.2.size)⟩) (⟨k1.drew, hB1.drew⟩) (fun x => ?_)
    refine obs_step (Eq.trans (by simp only [List.getElem?_toArray, List.getElem?_cons_zero]; exact rfl) rfl) rfl (fun w' hS hV K hK => ?_) ?_
    · obtain ⟨q0, q1⟩ := hS.1.two
      go_simp
      exact hK.out _ _ _ rfl rfl rfl (Below.refl _ _)
    simp only [List.setIfInBounds_toArray, List.set_cons_zero, List.set_cons_succ]
    refine obs_step (Eq.trans (by simp only [List.getElem?_toArray, List.getElem?_cons_succ, List.getElem?_cons_zero]; exact rfl) rfl) rfl (fun w' hS hV K hK => ?_) ?_
    · have e0 : x 0 = (.slice G m cg) := hV 0 (by decide)
      obtain ⟨q0, q1⟩ := hS.1.two
      go_simp
      exact hK.out _ _ _ rfl rfl rfl (Below.refl _ _)
    simp only [List.setIfInBounds_toArray, List.set_cons_zero, List.set_cons_succ]
    refine obs_step (Eq.trans (by simp only [List.getElem?_toArray, List.getElem?_cons_succ, List.getElem?_cons_zero]; exact rfl) rfl) rfl (fun w' hS hV K hK => ?_) ?_
    · have e0 : x 0 = (.slice G m cg) := hV 0 (by decide)
      have e1 : x 1 = (.int .i64 (m)) := hV 1 (by decide)
      obtain ⟨q0, q1⟩ := hS.1.two
      go_simp
      exact hK.out _ _ _ rfl rfl rfl (Below.refl _ _)
    simp only [List.setIfInBounds_toArray, List.set_cons_zero, List.set_cons_succ]
    refine obs_step (Eq.trans (by simp only [List.getElem?_toArray, List.getElem?_cons_succ, List.getElem?_cons_zero]; exact rfl) rfl) rfl (fun w' hS hV K hK => ?_) ?_
    · have e0 : x 0 = (.slice G m cg) := hV 0 (by decide)
      have e1 : x 1 = (.int .i64 (m)) := hV 1 (by decide)
      have e2 : x 2 = (.bool false) := hV 2 (by decide)
      obtain ⟨q0, q1⟩ := hS.1.two
      go_simp
      exact hK.out _ _ _ rfl rfl rfl (Below.refl _ _)
    simp only [List.setIfInBounds_toArray, List.set_cons_zero, List.set_cons_succ]
    refine obs_step (Eq.trans (by simp only [List.getElem?_toArray, List.getElem?_cons_succ, List.getElem?_cons_zero]; exact rfl) rfl) rfl (fun w' hS hV K hK => ?_) ?_
    · have e0 : x 0 = (.slice G m cg) := hV 0 (by decide)
      have e1 : x 1 = (.int .i64 (m)) := hV 1 (by decide)
      have e2 : x 2 = (.bool false) := hV 2 (by decide)
      have e3 : x 3 = (.bool false) := hV 3 (by decide)
      obtain ⟨q0, q1⟩ := hS.1.two
      go_simp
      exact hK.out _ _ _ rfl rfl rfl (Below.refl _ _)
    simp only [List.setIfInBounds_toArray, List.set_cons_zero, List.set_cons_succ]
    refine obs_step (Eq.trans (by simp only [List.getElem?_toArray, List.getElem?_cons_succ, List.getElem?_cons_zero]; exact rfl) rfl) rfl (fun w' hS hV K hK => ?_) ?_
    · have e0 : x 0 = (.slice G m cg) := hV 0 (by decide)
      have e1 : x 1 = (.int .i64 (m)) := hV 1 (by decide)
      have e2 : x 2 = (.bool false) := hV 2 (by decide)
      have e3 : x 3 = (.bool false) := hV 3 (by decide)
      obtain ⟨q0, q1⟩ := hS.1.two
      go_simp
      exact hK.out _ _ _ rfl rfl rfl (Below.refl _ _)
    simp only [List.setIfInBounds_toArray, List.set_cons_zero, List.set_cons_succ]
    refine obs_step (Eq.trans (by simp only [List.getElem?_toArray, List.getElem?_cons_succ, List.getElem?_cons_zero]; exact rfl) rfl) rfl (fun w' hS hV K hK => ?_) ?_
    · have e0 : x 0 = (.slice G m cg) := hV 0 (by decide)
      have e1 : x 1 = (.int .i64 (m)) := hV 1 (by decide)
      have e2 : x 2 = (.bool false) := hV 2 (by decide)
      have e3 : x 3 = (.bool false) := hV 3 (by decide)
      have e4 : x 4 = undef := hV 4 (by decide)
      have e5 : x 5 = undef := hV 5 (by decide)
      obtain ⟨q0, q1⟩ := hS.1.two
      go_simp
      exact hK.out _ _ _ rfl rfl rfl (Below.refl _ _)
    simp only [List.setIfInBounds_toArray, List.set_cons_zero, List.set_cons_succ]
    refine obs_step (Eq.trans (by simp only [List.getElem?_toArray, List.getElem?_cons_succ, List.getElem?_cons_zero]; exact rfl) rfl) rfl (fun w' hS hV K hK => ?_) ?_
    · have e0 : x 0 = (.slice G m cg) := hV 0 (by decide)
      have e1 : x 1 = (.int .i64 (m)) := hV 1 (by decide)
      have e2 : x 2 = (.bool false) := hV 2 (by decide)
      have e3 : x 3 = (.bool false) := hV 3 (by decide)
      have e4 : x 4 = undef := hV 4 (by decide)
      have e5 : x 5 = undef := hV 5 (by decide)
      have e6 : x 6 = undef := hV 6 (by decide)
      obtain ⟨q0, q1⟩ := hS.1.two
      go_simp
      exact hK.out _ _ _ rfl rfl rfl (Below.refl _ _)
    simp only [List.setIfInBounds_toArray, List.set_cons_zero, List.set_cons_succ]
    refine obs_step (Eq.trans (by simp only [List.getElem?_toArray, List.getElem?_cons_succ, List.getElem?_cons_zero]; exact rfl) rfl) rfl (fun w' hS hV K hK => ?_) ?_
    · have e0 : x 0 = (.slice G m cg) := hV 0 (by decide)
      have e1 : x 1 = (.int .i64 (m)) := hV 1 (by decide)
      have e2 : x 2 = (.bool false) := hV 2 (by decide)
      have e3 : x 3 = (.bool false) := hV 3 (by decide)
      obtain ⟨q0, q1⟩ := hS.1.two
      go_simp
      exact hK.out _ _ _ rfl rfl rfl (Below.refl _ _)
    simp only [List.setIfInBounds_toArray, List.set_cons_zero, List.set_cons_succ]
    refine obs_step (Eq.trans (by simp only [List.getElem?_toArray, List.getElem?_cons_succ, List.getElem?_cons_zero]; exact rfl) rfl) rfl (fun w' hS hV K hK => ?_) ?_
    · have e0 : x 0 = (.slice G m cg) := hV 0 (by decide)
      have e1 : x 1 = (.int .i64 (m)) := hV 1 (by decide)
      have e2 : x 2 = (.bool false) := hV 2 (by decide)
      have e3 : x 3 = (.bool false) := hV 3 (by decide)
      have e8 : x 8 = undef := hV 8 (by decide)
      obtain ⟨q0, q1⟩ := hS.1.two
      go_simp
      exact hK.out _ _ _ rfl rfl rfl (Below.refl _ _)
    simp only [List.setIfInBounds_toArray, List.set_cons_zero, List.set_cons_succ]
    refine obs_step (Eq.trans (by simp only [List.getElem?_toArray, List.getElem?_cons_succ, List.getElem?_cons_zero]; exact rfl) rfl) rfl (fun w' hS hV K hK => ?_) ?_
    · have e0 : x 0 = (.slice G m cg) := hV 0 (by decide)
      have e1 : x 1 = (.int .i64 (m)) := hV 1 (by decide)
      have e2 : x 2 = (.bool false) := hV 2 (by decide)
      have e3 : x 3 = (.bool false) := hV 3 (by decide)
      have e8 : x 8 = undef := hV 8 (by decide)
      have e9 : x 9 = undef := hV 9 (by decide)
      obtain ⟨q0, q1⟩ := hS.1.two
      go_simp
      exact hK.out _ _ _ rfl rfl rfl (Below.refl _ _)
    simp only [List.setIfInBounds_toArray, List.set_cons_zero, List.set_cons_succ]
    refine obs_step (Eq.trans (by simp only [List.getElem?_toArray, List.getElem?_cons_succ, List.getElem?_cons_zero]; exact rfl) rfl) rfl (fun w' hS hV K hK => ?_) ?_
    · have e0 : x 0 = (.slice G m cg) := hV 0 (by decide)
      have e1 : x 1 = (.int .i64 (m)) := hV 1 (by decide)
      have e2 : x 2 = (.bool false) := hV 2 (by decide)
      have e3 : x 3 = (.bool false) := hV 3 (by decide)
      have e4 : x 4 = undef := hV 4 (by decide)
      have e5 : x 5 = undef := hV 5 (by decide)
      have e6 : x 6 = undef := hV 6 (by decide)
      have e7 : x 7 = undef := hV 7 (by decide)
      have e8 : x 8 = undef := hV 8 (by decide)
      have e9 : x 9 = undef := hV 9 (by decide)
      have e10 : x 10 = undef := hV 10 (by decide)
      obtain ⟨q0, q1⟩ := hS.1.two
      go_simp
      exact hK.out _ _ _ rfl rfl rfl (Below.refl _ _)
    simp only [List.setIfInBounds_toArray, List.set_cons_zero, List.set_cons_succ]
    refine obs_step (Eq.trans (by simp only [List.getElem?_toArray, List.getElem?_cons_succ, List.getElem?_cons_zero]; exact rfl) rfl) rfl (fun w' hS hV K hK => ?_) ?_
    · have e0 : x 0 = (.slice G m cg) := hV 0 (by decide)
      have e1 : x 1 = (.int .i64 (m)) := hV 1 (by decide)
      have e2 : x 2 = (.bool false) := hV 2 (by decide)
      have e3 : x 3 = (.bool false) := hV 3 (by decide)
      have e4 : x 4 = undef := hV 4 (by decide)
      have e5 : x 5 = undef := hV 5 (by decide)
      have e6 : x 6 = undef := hV 6 (by decide)
      have e7 : x 7 = undef := hV 7 (by decide)
      have e8 : x 8 = undef := hV 8 (by decide)
      have e9 : x 9 = undef := hV 9 (by decide)
      have e10 : x 10 = undef := hV 10 (by decide)
      have e11 : x 11 = undef := hV 11 (by decide)
      obtain ⟨q0, q1⟩ := hS.1.two
      go_simp
      exact hK.out _ _ _ rfl rfl rfl (Below.refl _ _)
    simp only [List.setIfInBounds_toArray, List.set_cons_zero, List.set_cons_succ]
    refine obs_step (Eq.trans (by simp only [List.getElem?_toArray, List.getElem?_cons_succ, List.getElem?_cons_zero]; exact rfl) rfl) rfl (fun w' hS hV K hK => ?_) ?_
    · have e0 : x 0 = (.slice G m cg) := hV 0 (by decide)
      have e1 : x 1 = (.int .i64 (m)) := hV 1 (by decide)
      have e2 : x 2 = (.bool false) := hV 2 (by decide)
      have e3 : x 3 = (.bool false) := hV 3 (by decide)
      have e4 : x 4 = undef := hV 4 (by decide)
      have e5 : x 5 = undef := hV 5 (by decide)
      have e6 : x 6 = undef := hV 6 (by decide)
      have e7 : x 7 = undef := hV 7 (by decide)
      have e8 : x 8 = undef := hV 8 (by decide)
      have e9 : x 9 = undef := hV 9 (by decide)
      have e10 : x 10 = undef := hV 10 (by decide)
      have e11 : x 11 = undef := hV 11 (by decide)
      have e12 : x 12 = (.bool false) := hV 12 (by decide)
      obtain ⟨q0, q1⟩ := hS.1.two
      go_simp
      exact hK.out _ _ _ rfl rfl rfl (Below.refl _ _)
    simp only [List.setIfInBounds_toArray, List.set_cons_zero, List.set_cons_succ]
    refine fun w' hS hV => ?_
    have e0 : x 0 = (.slice G m cg) := hV 0 (by decide)
    have e1 : x 1 = (.int .i64 (m)) := hV 1 (by decide)
    have e2 : x 2 = (.bool false) := hV 2 (by decide)
    have e3 : x 3 = (.bool false) := hV 3 (by decide)
    have e4 : x 4 = undef := hV 4 (by decide)
    have e5 : x 5 = undef := hV 5 (by decide)
    have e6 : x 6 = undef := hV 6 (by decide)
    have e7 : x 7 = undef := hV 7 (by decide)
    have e8 : x 8 = undef := hV 8 (by decide)
    have e9 : x 9 = undef := hV 9 (by decide)
    have e10 : x 10 = undef := hV 10 (by decide)
    have e11 : x 11 = undef := hV 11 (by decide)
    have e12 : x 12 = (.bool false) := hV 12 (by decide)
    have e13 : x 13 = (.bool false) := hV 13 (by decide)
    simp only [e0, e1, e2, e3, e4, e5, e6, e7, e8, e9, e10, e11, e12, e13]
    clear e0 e1 e2 e3 e4 e5 e6 e7 e8 e9 e10 e11 e12 e13
    refine wpAny_done (by kernel_rfl) ?_ _
    go_wp2
    go_ret
    exact ⟨ret_bool HZ.out.symm, hS.2⟩
set_option maxHeartbeats 3200000 in
set_option maxRecDepth 8000 in
theorem l06Is_any (P : Int) (A : Option Addr) (n c : Nat) (sq : List Int) (X : Option Addr) (cx : Nat) (xs : List Int) (w : World) (HP : isP P = true) (hn : n ≤ 6) (h0 : 0 < n) (ha : Rd w A n (ints sq)) (hs : NumsL P sq) (hx : Rd w X (pw n) (ints xs)) (hxs : NumsL P xs) :
    Calls Tryz.prog 239 #[.agg #[.int .i64 P, .slice A n c], .slice X (pw n) cx] w fun e w' => e = .returned (.bool (isBl P sq n xs)) ∧ Below w.heap.size w w' := by
  obtain ⟨hp3, hp2⟩ := isP_ge HP
  have hp : 2 ≤ P := by omega
  have hpn := pw_pos n
  have hpw : pw n ≤ 64 := pw_le hn
  have hB0 : Below w.heap.size w (w.alloc (.cells #[.int .i64 P, .slice A n c] 26)) := (Below.refl _ _).alloc (Nat.le_refl _) _
  have k0 : Blk (w.alloc (.cells #[.int .i64 P, .slice A n c] 26)) w.heap.size 26 #[.int .i64 P, .slice A n c] := Blk.new _ _ _
  have hgl := gradesL_len xs
  have hsl := subL_len HP sq n xs
  have hsub := fun w' (hb : Below w.heap.size w w') => l06Subspace_any P A n c sq X cx xs w' HP hn h0 (ha.below hb) hs (hx.below hb) hxs
  have HSUB := Lib.hid hsub
  clear hsub
  obtain ⟨q0, q1⟩ := k0.two
  go_enter Tryz.func239, Tryz.ntmps239
  go_wp2_with fail
  refine (l04Grades_any P A n c X cx xs _ hn (hx.below hB0)).mono ?_
  rintro e w1 ⟨G, cg, rfl, hG⟩
  have k1 := k0.below hG.b k0.lt
  have hB1 := hB0.trans (hG.b.mono hB0.size)
  have HGL : Hid ((isBl P sq n xs) = (decide ((gradesL xs).length = 1) && decide ((((subL P sq n xs).length : Nat) : Int) = (gradesL xs).getD 0 0))) := Lib.hid rfl
  have hgr := hG.rd
  obtain ⟨L, hL⟩ : ∃ L, L = gradesL xs := ⟨_, rfl⟩
  rw [← hL] at hgr hgl HGL ⊢
  obtain ⟨q, hq⟩ : ∃ q, q = (subL P sq n xs).length := ⟨_, rfl⟩
  have HQ := Lib.hid hq
  rw [← hq] at HGL hsl
  obtain ⟨m, hm⟩ : ∃ m, m = L.length := ⟨_, rfl⟩
  rw [← hm] at hgr hgl HGL ⊢
  clear k0 hB0 q0 q1 hG hL hq
  have HM := Lib.hid hm
  by_cases h1 : m = 1
  · obtain ⟨gg, og, rfl, hg0, hcg⟩ := hgr.int (show 0 < m by omega)
    have HG0 : Hid (L.getD 0 0 = L[0]) := Lib.hid (getD_of_lt 0 hg0)
    rw [Nat.add_zero] at hcg
    obtain ⟨gv, hgv⟩ : ∃ v, v = L[0] := ⟨_, rfl⟩
    rw [← hgv] at hcg HG0
    clear hgv hg0 hgr hm
    have HZ0 : Hid (isBl P sq n xs = (((q : Nat) : Int) == gv)) := Lib.hid (by rw [HGL.out, HG0.out, h1, Bool.eq_iff_iff]; simp)
    cases hz : (((q : Nat) : Int) == gv)
    all_goals
      have HZ := Lib.hid (HZ0.out.trans hz)
      subst h1
    · go_wp2
      refine wp_obs 14 [[], [0], [0, 1], [0, 1, 2], [0, 1, 2, 3], [0, 1, 2, 3], [0, 1, 2, 3, 4, 5], [0, 1, 2, 3, 4, 5, 6], [0, 1, 2, 3], [0, 1, 2, 3, 8], [0, 1, 2, 3, 8, 9], [0, 1, 2, 3, 4, 5, 6, 7, 8, 9, 10], [0, 1, 2, 3, 4, 5, 6, 7, 8, 9, 10, 11], [0, 1, 2, 3, 4, 5, 6, 7, 8, 9, 10, 11, 12]] [VIs (.slice (some ⟨gg, og, none⟩) 1 cg), VIs (.int .i64 ((1 : Nat))), VIs (.bool true), VIs (.bool true), VIs (.agg #[.int .i64 P, .slice A n c]), VIs (.slice X (pw n) cx), VMat w q (subL P sq n xs), VIs (.int .i64 (q)), VIs (.slice (some ⟨gg, og, none⟩) 1 cg), VIs (.pointer (some ⟨gg, og, none⟩)), VIs (.int .i64 (gv)), VIs (.bool false), VIs (.bool false), VIs (.bool false)] (fun w' => w'.cell? ⟨gg, og, none⟩ = some (.int .i64 gv) ∧ Blk w' w.heap.size 26 #[.int .i64 P, .slice A n c] ∧ Below w.heap.size w w') (by kernel_rfl) (by kernel_rfl) (fun _ _ h hb => ⟨(hb.cell (World.block_lt_of_cell? _ _ h.1)).trans h.1, h.2.1.below hb h.2.1.lt, h.2.2.trans (hb.mono h.2.2.size)⟩) (⟨hcg, k1.drew, hB1.drew⟩) (fun x => ?_)
      refine obs_step (Eq.trans (by simp only [List.getElem?_toArray, List.getElem?_cons_zero]; exact rfl) rfl) rfl (fun w' hS hV K hK => ?_) ?_
      · have q2 := hS.1; obtain ⟨q0, q1⟩ := hS.2.1.two
        go_simp
        exact hK.out _ _ _ rfl rfl rfl (Below.refl _ _)
      simp only [List.setIfInBounds_toArray, List.set_cons_zero, List.set_cons_succ]
      refine obs_step (Eq.trans (by simp only [List.getElem?_toArray, List.getElem?_cons_succ, List.getElem?_cons_zero]; exact rfl) rfl) rfl (fun w' hS hV K hK => ?_) ?_
      · have e0 : x 0 = (.slice (some ⟨gg, og, none⟩) 1 cg) := hV 0 (by decide)
        have q2 := hS.1; obtain ⟨q0, q1⟩ := hS.2.1.two
        go_simp
        exact hK.out _ _ _ rfl rfl rfl (Below.refl _ _)
      simp only [List.setIfInBounds_toArray, List.set_cons_zero, List.set_cons_succ]
      refine obs_step (Eq.trans (by simp only [List.getElem?_toArray, List.getElem?_cons_succ, List.getElem?_cons_zero]; exact rfl) rfl) rfl (fun w' hS hV K hK => ?_) ?_
      · have e0 : x 0 = (.slice (some ⟨gg, og, none⟩) 1 cg) := hV 0 (by decide)
        have e1 : x 1 = (.int .i64 ((1 : Nat))) := hV 1 (by decide)
        have q2 := hS.1; obtain ⟨q0, q1⟩ := hS.2.1.two
        go_simp
        exact hK.out _ _ _ rfl rfl rfl (Below.refl _ _)
      simp only [List.setIfInBounds_toArray, List.set_cons_zero, List.set_cons_succ]
      refine obs_step (Eq.trans (by simp only [List.getElem?_toArray, List.getElem?_cons_succ, List.getElem?_cons_zero]; exact rfl) rfl) rfl (fun w' hS hV K hK => ?_) ?_
      · have e0 : x 0 = (.slice (some ⟨gg, og, none⟩) 1 cg) := hV 0 (by decide)
        have e1 : x 1 = (.int .i64 ((1 : Nat))) := hV 1 (by decide)
        have e2 : x 2 = (.bool true) := hV 2 (by decide)
        have q2 := hS.1; obtain ⟨q0, q1⟩ := hS.2.1.two
        go_simp
        exact hK.out _ _ _ rfl rfl rfl (Below.refl _ _)
      simp only [List.setIfInBounds_toArray, List.set_cons_zero, List.set_cons_succ]
      refine obs_step (Eq.trans (by simp only [List.getElem?_toArray, List.getElem?_cons_succ, List.getElem?_cons_zero]; exact rfl) rfl) rfl (fun w' hS hV K hK => ?_) ?_
      · have e0 : x 0 = (.slice (some ⟨gg, og, none⟩) 1 cg) := hV 0 (by decide)
        have e1 : x 1 = (.int .i64 ((1 : Nat))) := hV 1 (by decide)
        have e2 : x 2 = (.bool true) := hV 2 (by decide)
        have e3 : x 3 = (.bool true) := hV 3 (by decide)
        have q2 := hS.1; obtain ⟨q0, q1⟩ := hS.2.1.two
        go_simp
        exact hK.out _ _ _ rfl rfl rfl (Below.refl _ _)
      simp only [List.setIfInBounds_toArray, List.set_cons_zero, List.set_cons_succ]
      refine obs_step (Eq.trans (by simp only [List.getElem?_toArray, List.getElem?_cons_succ, List.getElem?_cons_zero]; exact rfl) rfl) rfl (fun w' hS hV K hK => ?_) ?_
      · have e0 : x 0 = (.slice (some ⟨gg, og, none⟩) 1 cg) := hV 0 (by decide)
        have e1 : x 1 = (.int .i64 ((1 : Nat))) := hV 1 (by decide)
        have e2 : x 2 = (.bool true) := hV 2 (by decide)
        have e3 : x 3 = (.bool true) := hV 3 (by decide)
        have q2 := hS.1; obtain ⟨q0, q1⟩ := hS.2.1.two
        go_simp
        exact hK.out _ _ _ rfl rfl rfl (Below.refl _ _)
      simp only [List.setIfInBounds_toArray, List.set_cons_zero, List.set_cons_succ]
      refine obs_step (Eq.trans (by simp only [List.getElem?_toArray, List.getElem?_cons_succ, List.getElem?_cons_zero]; exact rfl) rfl) rfl (fun w' hS hV K hK => ?_) ?_
      · have e0 : x 0 = (.slice (some ⟨gg, og, none⟩) 1 cg) := hV 0 (by decide)
        have e1 : x 1 = (.int .i64 ((1 : Nat))) := hV 1 (by decide)
        have e2 : x 2 = (.bool true) := hV 2 (by decide)
        have e3 : x 3 = (.bool true) := hV 3 (by decide)
        have e4 : x 4 = (.agg #[.int .i64 P, .slice A n c]) := hV 4 (by decide)
        have e5 : x 5 = (.slice X (pw n) cx) := hV 5 (by decide)
        have q2 := hS.1; obtain ⟨q0, q1⟩ := hS.2.1.two
        go_simp
        refine (HSUB.out _ hS.2.2).mono ?_
        rw [← HQ.out]
        rintro e v1 ⟨A2, c2, rfl, hM⟩
        exact hK.out _ _ _ rfl rfl ⟨_, _, rfl, hM.after hS.2.2⟩ hM.b
      simp only [List.setIfInBounds_toArray, List.set_cons_zero, List.set_cons_succ]
      refine obs_step (Eq.trans (by simp only [List.getElem?_toArray, List.getElem?_cons_succ, List.getElem?_cons_zero]; exact rfl) rfl) rfl (fun w' hS hV K hK => ?_) ?_
      · have e0 : x 0 = (.slice (some ⟨gg, og, none⟩) 1 cg) := hV 0 (by decide)
        have e1 : x 1 = (.int .i64 ((1 : Nat))) := hV 1 (by decide)
        have e2 : x 2 = (.bool true) := hV 2 (by decide)
        have e3 : x 3 = (.bool true) := hV 3 (by decide)
        have e4 : x 4 = (.agg #[.int .i64 P, .slice A n c]) := hV 4 (by decide)
        have e5 : x 5 = (.slice X (pw n) cx) := hV 5 (by decide)
        obtain ⟨A6, c6, e6, h6⟩ := hV 6 (by decide)
        have q2 := hS.1; obtain ⟨q0, q1⟩ := hS.2.1.two
        go_simp
        exact hK.out _ _ _ rfl rfl rfl (Below.refl _ _)
      simp only [List.setIfInBounds_toArray, List.set_cons_zero, List.set_cons_succ]
      refine obs_step (Eq.trans (by simp only [List.getElem?_toArray, List.getElem?_cons_succ, List.getElem?_cons_zero]; exact rfl) rfl) rfl (fun w' hS hV K hK => ?_) ?_
      · have e0 : x 0 = (.slice (some ⟨gg, og, none⟩) 1 cg) := hV 0 (by decide)
        have e1 : x 1 = (.int .i64 ((1 : Nat))) := hV 1 (by decide)
        have e2 : x 2 = (.bool true) := hV 2 (by decide)
        have e3 : x 3 = (.bool true) := hV 3 (by decide)
        have q2 := hS.1; obtain ⟨q0, q1⟩ := hS.2.1.two
        go_simp
        exact hK.out _ _ _ rfl rfl rfl (Below.refl _ _)
      simp only [List.setIfInBounds_toArray, List.set_cons_zero, List.set_cons_succ]
      refine obs_step (Eq.trans (by simp only [List.getElem?_toArray, List.getElem?_cons_succ, List.getElem?_cons_zero]; exact rfl) rfl) rfl (fun w' hS hV K hK => ?_) ?_
      · have e0 : x 0 = (.slice (some ⟨gg, og, none⟩) 1 cg) := hV 0 (by decide)
        have e1 : x 1 = (.int .i64 ((1 : Nat))) := hV 1 (by decide)
        have e2 : x 2 = (.bool true) := hV 2 (by decide)
        have e3 : x 3 = (.bool true) := hV 3 (by decide)
        have e8 : x 8 = (.slice (some ⟨gg, og, none⟩) 1 cg) := hV 8 (by decide)
        have q2 := hS.1; obtain ⟨q0, q1⟩ := hS.2.1.two
        go_simp
        exact hK.out _ _ _ rfl rfl rfl (Below.refl _ _)
      simp only [List.setIfInBounds_toArray, List.set_cons_zero, List.set_cons_succ]
      refine obs_step (Eq.trans (by simp only [List.getElem?_toArray, List.getElem?_cons_succ, List.getElem?_cons_zero]; exact rfl) rfl) rfl (fun w' hS hV K hK => ?_) ?_
      · have e0 : x 0 = (.slice (some ⟨gg, og, none⟩) 1 cg) := hV 0 (by decide)
        have e1 : x 1 = (.int .i64 ((1 : Nat))) := hV 1 (by decide)
        have e2 : x 2 = (.bool true) := hV 2 (by decide)
        have e3 : x 3 = (.bool true) := hV 3 (by decide)
        have e8 : x 8 = (.slice (some ⟨gg, og, none⟩) 1 cg) := hV 8 (by decide)
        have e9 : x 9 = (.pointer (some ⟨gg, og, none⟩)) := hV 9 (by decide)
        have q2 := hS.1; obtain ⟨q0, q1⟩ := hS.2.1.two
        go_simp
        exact hK.out _ _ _ rfl rfl rfl (Below.refl _ _)
      simp only [List.setIfInBounds_toArray, List.set_cons_zero, List.set_cons_succ]
      refine obs_step (Eq.trans (by simp only [List.getElem?_toArray, List.getElem?_cons_succ, List.getElem?_cons_zero]; exact rfl) rfl) rfl (fun w' hS hV K hK => ?_) ?_
      · have e0 : x 0 = (.slice (some ⟨gg, og, none⟩) 1 cg) := hV 0 (by decide)
        have e1 : x 1 = (.int .i64 ((1 : Nat))) := hV 1 (by decide)
        have e2 : x 2 = (.bool true) := hV 2 (by decide)
        have e3 : x 3 = (.bool true) := hV 3 (by decide)
        have e4 : x 4 = (.agg #[.int .i64 P, .slice A n c]) := hV 4 (by decide)
        have e5 : x 5 = (.slice X (pw n) cx) := hV 5 (by decide)
        obtain ⟨A6, c6, e6, h6⟩ := hV 6 (by decide)
        have e7 : x 7 = (.int .i64 (q)) := hV 7 (by decide)
        have e8 : x 8 = (.slice (some ⟨gg, og, none⟩) 1 cg) := hV 8 (by decide)
        have e9 : x 9 = (.pointer (some ⟨gg, og, none⟩)) := hV 9 (by decide)
        have e10 : x 10 = (.int .i64 (gv)) := hV 10 (by decide)
        have q2 := hS.1; obtain ⟨q0, q1⟩ := hS.2.1.two
        go_simp
        exact hK.out _ _ _ rfl rfl rfl (Below.refl _ _)
      simp only [List.setIfInBounds_toArray, List.set_cons_zero, List.set_cons_succ]
      refine obs_step (Eq.trans (by simp only [List.getElem?_toArray, List.getElem?_cons_succ, List.getElem?_cons_zero]; exact rfl) rfl) rfl (fun w' hS hV K hK => ?_) ?_
      · have e0 : x 0 = (.slice (some ⟨gg, og, none⟩) 1 cg) := hV 0 (by decide)
        have e1 : x 1 = (.int .i64 ((1 : Nat))) := hV 1 (by decide)
        have e2 : x 2 = (.bool true) := hV 2 (by decide)
        have e3 : x 3 = (.bool true) := hV 3 (by decide)
        have e4 : x 4 = (.agg #[.int .i64 P, .slice A n c]) := hV 4 (by decide)
        have e5 : x 5 = (.slice X (pw n) cx) := hV 5 (by decide)
        obtain ⟨A6, c6, e6, h6⟩ := hV 6 (by decide)
        have e7 : x 7 = (.int .i64 (q)) := hV 7 (by decide)
        have e8 : x 8 = (.slice (some ⟨gg, og, none⟩) 1 cg) := hV 8 (by decide)
        have e9 : x 9 = (.pointer (some ⟨gg, og, none⟩)) := hV 9 (by decide)
        have e10 : x 10 = (.int .i64 (gv)) := hV 10 (by decide)
        have e11 : x 11 = (.bool false) := hV 11 (by decide)
        have q2 := hS.1; obtain ⟨q0, q1⟩ := hS.2.1.two
        go_simp
        exact hK.out _ _ _ rfl rfl rfl (Below.refl _ _)
      simp only [List.setIfInBounds_toArray, List.set_cons_zero, List.set_cons_succ]
      refine obs_step (Eq.trans (by simp only [List.getElem?_toArray, List.getElem?_cons_succ, List.getElem?_cons_zero]; exact rfl) rfl) rfl (fun w' hS hV K hK => ?_) ?_
      · have e0 : x 0 = (.slice (some ⟨gg, og, none⟩) 1 cg) := hV 0 (by decide)
        have e1 : x 1 = (.int .i64 ((1 : Nat))) := hV 1 (by decide)
        have e2 : x 2 = (.bool true) := hV 2 (by decide)
        have e3 : x 3 = (.bool true) := hV 3 (by decide)
        have e4 : x 4 = (.agg #[.int .i64 P, .slice A n c]) := hV 4 (by decide)
        have e5 : x 5 = (.slice X (pw n) cx) := hV 5 (by decide)
        obtain ⟨A6, c6, e6, h6⟩ := hV 6 (by decide)
        have e7 : x 7 = (.int .i64 (q)) := hV 7 (by decide)
        have e8 : x 8 = (.slice (some ⟨gg, og, none⟩) 1 cg) := hV 8 (by decide)
        have e9 : x 9 = (.pointer (some ⟨gg, og, none⟩)) := hV 9 (by decide)
        have e10 : x 10 = (.int .i64 (gv)) := hV 10 (by decide)
        have e11 : x 11 = (.bool false) := hV 11 (by decide)
        have e12 : x 12 = (.bool false) := hV 12 (by decide)
        have q2 := hS.1; obtain ⟨q0, q1⟩ := hS.2.1.two
        go_simp
        exact hK.out _ _ _ rfl rfl rfl (Below.refl _ _)
      simp only [List.setIfInBounds_toArray, List.set_cons_zero, List.set_cons_succ]
      refine fun w' hS hV => ?_
      have e0 : x 0 = (.slice (some ⟨gg, og, none⟩) 1 cg) := hV 0 (by decide)
      have e1 : x 1 = (.int .i64 ((1 : Nat))) := hV 1 (by decide)
      have e2 : x 2 = (.bool true) := hV 2 (by decide)
      have e3 : x 3 = (.bool true) := hV 3 (by decide)
      have e4 : x 4 = (.agg #[.int .i64 P, .slice A n c]) := hV 4 (by decide)
      have e5 : x 5 = (.slice X (pw n) cx) := hV 5 (by decide)
      obtain ⟨A6, c6, e6, h6⟩ := hV 6 (by decide)
      have e7 : x 7 = (.int .i64 (q)) := hV 7 (by decide)
      have e8 : x 8 = (.slice (some ⟨gg, og, none⟩) 1 cg) := hV 8 (by decide)
      have e9 : x 9 = (.pointer (some ⟨gg, og, none⟩)) := hV 9 (by decide)
      have e10 : x 10 = (.int .i64 (gv)) := hV 10 (by decide)
      have e11 : x 11 = (.bool false) := hV 11 (by decide)
      have e12 : x 12 = (.bool false) := hV 12 (by decide)
      have e13 : x 13 = (.bool false) := hV 13 (by decide)
      simp only [e0, e1, e2, e3, e4, e5, e6, e7, e8, e9, e10, e11, e12, e13]
      clear e0 e1 e2 e3 e4 e5 e6 e7 e8 e9 e10 e11 e12 e13
      refine wpAny_done (by kernel_rfl) ?_ _
      go_wp2
      go_ret
      exact ⟨ret_bool HZ.out.symm, hS.2.2⟩
    · go_wp2
      refine wp_obs 14 [[], [0], [0, 1], [0, 1, 2], [0, 1, 2, 3], [0, 1, 2, 3], [0, 1, 2, 3, 4, 5], [0, 1, 2, 3, 4, 5, 6], [0, 1, 2, 3], [0, 1, 2, 3, 8], [0, 1, 2, 3, 8, 9], [0, 1, 2, 3, 4, 5, 6, 7, 8, 9, 10], [0, 1, 2, 3, 4, 5, 6, 7, 8, 9, 10, 11], [0, 1, 2, 3, 4, 5, 6, 7, 8, 9, 10, 11, 12]] [VIs (.slice (some ⟨gg, og, none⟩) 1 cg), VIs (.int .i64 ((1 : Nat))), VIs (.bool true), VIs (.bool true), VIs (.agg #[.int .i64 P, .slice A n c]), VIs (.slice X (pw n) cx), VMat w q (subL P sq n xs), VIs (.int .i64 (q)), VIs (.slice (some ⟨gg, og, none⟩) 1 cg), VIs (.pointer (some ⟨gg, og, none⟩)), VIs (.int .i64 (gv)), VIs (.bool true), VIs (.bool true), VIs (.bool true)] (fun w' => w'.cell? ⟨gg, og, none⟩ = some (.int .i64 gv) ∧ Blk w' w.heap.size 26 #[.int .i64 P, .slice A n c] ∧ Below w.heap.size w w') (by kernel_rfl) (by kernel_rfl) (fun _ _ h hb => ⟨(hb.cell (World.block_lt_of_cell? _ _ h.1)).trans h.1, h.2.1.below hb h.2.1.lt, h.2.2.trans (hb.mono h.2.2.size)⟩) (⟨hcg, k1.drew, hB1.drew⟩) (fun x => ?_)
      refine obs_step (Eq.trans (by simp only [List.getElem?_toArray, List.getElem?_cons_zero]; exact rfl) rfl) rfl (fun w' hS hV K hK => ?_) ?_
      · have q2 := hS.1; obtain ⟨q0, q1⟩ := hS.2.1.two
        go_simp
        exact hK.out _ _ _ rfl rfl rfl (Below.refl _ _)
      simp only [List.setIfInBounds_toArray, List.set_cons_zero, List.set_cons_succ]
      refine obs_step (Eq.trans (by simp only [List.getElem?_toArray, List.getElem?_cons_succ, List.getElem?_cons_zero]; exact rfl) rfl) rfl (fun w' hS hV K hK => ?_) ?_
      · have e0 : x 0 = (.slice (some ⟨gg, og, none⟩) 1 cg) := hV 0 (by decide)
        have q2 := hS.1; obtain ⟨q0, q1⟩ := hS.2.1.two
        go_simp
        exact hK.out _ _ _ rfl rfl rfl (Below.refl _ _)
      simp only [List.setIfInBounds_toArray, List.set_cons_zero, List.set_cons_succ]
      refine obs_step (Eq.trans (by simp only [List.getElem?_toArray, List.getElem?_cons_succ, List.getElem?_cons_zero]; exact rfl) rfl) rfl (fun w' hS hV K hK => ?_) ?_
      · have e0 : x 0 = (.slice (some ⟨gg, og, none⟩) 1 cg) := hV 0 (by decide)
        have e1 : x 1 = (.int .i64 ((1 : Nat))) := hV 1 (by decide)
        have q2 := hS.1; obtain ⟨q0, q1⟩ := hS.2.1.two
        go_simp
        exact hK.out _ _ _ rfl rfl rfl (Below.refl _ _)
      simp only [List.setIfInBounds_toArray, List.set_cons_zero, List.set_cons_succ]
      refine obs_step (Eq.trans (by simp only [List.getElem?_toArray, List.getElem?_cons_succ, List.getElem?_cons_zero]; exact rfl) rfl) rfl (fun w' hS hV K hK => ?_) ?_
      · have e0 : x 0 = (.slice (some ⟨gg, og, none⟩) 1 cg) := hV 0 (by decide)
        have e1 : x 1 = (.int .i64 ((1 : Nat))) := hV 1 (by decide)
        have e2 : x 2 = (.bool true) := hV 2 (by decide)
        have q2 := hS.1; obtain ⟨q0, q1⟩ := hS.2.1.two
        go_simp
        exact hK.out _ _ _ rfl rfl rfl (Below.refl _ _)
      simp only [List.setIfInBounds_toArray, List.set_cons_zero, List.set_cons_succ]
      refine obs_step (Eq.trans (by simp only [List.getElem?_toArray, List.getElem?_cons_succ, List.getElem?_cons_zero]; exact rfl) rfl) rfl (fun w' hS hV K hK => ?_) ?_
      · have e0 : x 0 = (.slice (some ⟨gg, og, none⟩) 1 cg) := hV 0 (by decide)
        have e1 : x 1 = (.int .i64 ((1 : Nat))) := hV 1 (by decide)
        have e2 : x 2 = (.bool true) := hV 2 (by decide)
        have e3 : x 3 = (.bool true) := hV 3 (by decide)
        have q2 := hS.1; obtain ⟨q0, q1⟩ := hS.2.1.two
        go_simp
        exact hK.out _ _ _ rfl rfl rfl (Below.refl _ _)
      simp only [List.setIfInBounds_toArray, List.set_cons_zero, List.set_cons_succ]
      refine obs_step (Eq.trans (by simp only [List.getElem?_toArray, List.getElem?_cons_succ, List.getElem?_cons_zero]; exact rfl) rfl) rfl (fun w' hS hV K hK => ?_) ?_
      · have e0 : x 0 = (.slice (some ⟨gg, og, none⟩) 1 cg) := hV 0 (by decide)
        have e1 : x 1 = (.int .i64 ((1 : Nat))) := hV 1 (by decide)
        have e2 : x 2 = (.bool true) := hV 2 (by decide)
        have e3 : x 3 = (.bool true) := hV 3 (by decide)
        have q2 := hS.1; obtain ⟨q0, q1⟩ := hS.2.1.two
        go_simp
        exact hK.out _ _ _ rfl rfl rfl (Below.refl _ _)
      simp only [List.setIfInBounds_toArray, List.set_cons_zero, List.set_cons_succ]
      refine obs_step (Eq.trans (by simp only [List.getElem?_toArray, List.getElem?_cons_succ, List.getElem?_cons_zero]; exact rfl) rfl) rfl (fun w' hS hV K hK => ?_) ?_
      · have e0 : x 0 = (.slice (some ⟨gg, og, none⟩) 1 cg) := hV 0 (by decide)
        have e1 : x 1 = (.int .i64 ((1 : Nat))) := hV 1 (by decide)
        have e2 : x 2 = (.bool true) := hV 2 (by decide)
        have e3 : x 3 = (.bool true) := hV 3 (by decide)
        have e4 : x 4 = (.agg #[.int .i64 P, .slice A n c]) := hV 4 (by decide)
        have e5 : x 5 = (.slice X (pw n) cx) := hV 5 (by decide)
        have q2 := hS.1; obtain ⟨q0, q1⟩ := hS.2.1.two
        go_simp
        refine (HSUB.out _ hS.2.2).mono ?_
        rw [← HQ.out]
        rintro e v1 ⟨A2, c2, rfl, hM⟩
        exact hK.out _ _ _ rfl rfl ⟨_, _, rfl, hM.after hS.2.2⟩ hM.b
      simp only [List.setIfInBounds_toArray, List.set_cons_zero, List.set_cons_succ]
      refine obs_step (Eq.trans (by simp only [List.getElem?_toArray, List.getElem?_cons_succ, List.getElem?_cons_zero]; exact rfl) rfl) rfl (fun w' hS hV K hK => ?_) ?_
      · have e0 : x 0 = (.slice (some ⟨gg, og, none⟩) 1 cg) := hV 0 (by decide)
        have e1 : x 1 = (.int .i64 ((1 : Nat))) := hV 1 (by decide)
        have e2 : x 2 = (.bool true) := hV 2 (by decide)
        have e3 : x 3 = (.bool true) := hV 3 (by decide)
        have e4 : x 4 = (.agg #[.int .i64 P, .slice A n c]) := hV 4 (by decide)
        have e5 : x 5 = (.slice X (pw n) cx) := hV 5 (by decide)
        obtain ⟨A6, c6, e6, h6⟩ := hV 6 (by decide)
        have q2 := hS.1; obtain ⟨q0, q1⟩ := hS.2.1.two
        go_simp
        exact hK.out _ _ _ rfl rfl rfl (Below.refl _ _)
      simp only [List.setIfInBounds_toArray, List.set_cons_zero, List.set_cons_succ]
      refine obs_step (Eq.trans (by simp only [List.getElem?_toArray, List.getElem?_cons_succ, List.getElem?_cons_zero]; exact rfl) rfl) rfl (fun w' hS hV K hK => ?_) ?_
      · have e0 : x 0 = (.slice (some ⟨gg, og, none⟩) 1 cg) := hV 0 (by decide)
        have e1 : x 1 = (.int .i64 ((1 : Nat))) := hV 1 (by decide)
        have e2 : x 2 = (.bool true) := hV 2 (by decide)
        have e3 : x 3 = (.bool true) := hV 3 (by decide)
        have q2 := hS.1; obtain ⟨q0, q1⟩ := hS.2.1.two
        go_simp
        exact hK.out _ _ _ rfl rfl rfl (Below.refl _ _)
      simp only [List.setIfInBounds_toArray, List.set_cons_zero, List.set_cons_succ]
      refine obs_step (Eq.trans (by simp only [List.getElem?_toArray, List.getElem?_cons_succ, List.getElem?_cons_zero]; exact rfl) rfl) rfl (fun w' hS hV K hK => ?_) ?_
      · have e0 : x 0 = (.slice (some ⟨gg, og, none⟩) 1 cg) := hV 0 (by decide)
        have e1 : x 1 = (.int .i64 ((1 : Nat))) := hV 1 (by decide)
        have e2 : x 2 = (.bool true) := hV 2 (by decide)
        have e3 : x 3 = (.bool true) := hV 3 (by decide)
        have e8 : x 8 = (.slice (some ⟨gg, og, none⟩) 1 cg) := hV 8 (by decide)
        have q2 := hS.1; obtain ⟨q0, q1⟩ := hS.2.1.two
        go_simp
        exact hK.out _ _ _ rfl rfl rfl (Below.refl _ _)
      simp only [List.setIfInBounds_toArray, List.set_cons_zero, List.set_cons_succ]
      refine obs_step (Eq.trans (by simp only [List.getElem?_toArray, List.getElem?_cons_succ, List.getElem?_cons_zero]; exact rfl) rfl) rfl (fun w' hS hV K hK => ?_) ?_
      · have e0 : x 0 = (.slice (some ⟨gg, og, none⟩) 1 cg) := hV 0 (by decide)
        have e1 : x 1 = (.int .i64 ((1 : Nat))) := hV 1 (by decide)
        have e2 : x 2 = (.bool true) := hV 2 (by decide)
        have e3 : x 3 = (.bool true) := hV 3 (by decide)
        have e8 : x 8 = (.slice (some ⟨gg, og, none⟩) 1 cg) := hV 8 (by decide)
        have e9 : x 9 = (.pointer (some ⟨gg, og, none⟩)) := hV 9 (by decide)
        have q2 := hS.1; obtain ⟨q0, q1⟩ := hS.2.1.two
        go_simp
        exact hK.out _ _ _ rfl rfl rfl (Below.refl _ _)
      simp only [List.setIfInBounds_toArray, List.set_cons_zero, List.set_cons_succ]
      refine obs_step (Eq.trans (by simp only [List.getElem?_toArray, List.getElem?_cons_succ, List.getElem?_cons_zero]; exact rfl) rfl) rfl (fun w' hS hV K hK => ?_) ?_
      · have e0 : x 0 = (.slice (some ⟨gg, og, none⟩) 1 cg) := hV 0 (by decide)
        have e1 : x 1 = (.int .i64 ((1 : Nat))) := hV 1 (by decide)
        have e2 : x 2 = (.bool true) := hV 2 (by decide)
        have e3 : x 3 = (.bool true) := hV 3 (by decide)
        have e4 : x 4 = (.agg #[.int .i64 P, .slice A n c]) := hV 4 (by decide)
        have e5 : x 5 = (.slice X (pw n) cx) := hV 5 (by decide)
        obtain ⟨A6, c6, e6, h6⟩ := hV 6 (by decide)
        have e7 : x 7 = (.int .i64 (q)) := hV 7 (by decide)
        have e8 : x 8 = (.slice (some ⟨gg, og, none⟩) 1 cg) := hV 8 (by decide)
        have e9 : x 9 = (.pointer (some ⟨gg, og, none⟩)) := hV 9 (by decide)
        have e10 : x 10 = (.int .i64 (gv)) := hV 10 (by decide)
        have q2 := hS.1; obtain ⟨q0, q1⟩ := hS.2.1.two
        go_simp
        exact hK.out _ _ _ rfl rfl rfl (Below.refl _ _)
      simp only [List.setIfInBounds_toArray, List.set_cons_zero, List.set_cons_succ]
      refine obs_step (Eq.trans (by simp only [List.getElem?_toArray, List.getElem?_cons_succ, List.getElem?_cons_zero]; exact rfl) rfl) rfl (fun w' hS hV K hK => ?_) ?_
      · have e0 : x 0 = (.slice (some ⟨gg, og, none⟩) 1 cg) := hV 0 (by decide)
        have e1 : x 1 = (.int .i64 ((1 : Nat))) := hV 1 (by decide)
        have e2 : x 2 = (.bool true) := hV 2 (by decide)
        have e3 : x 3 = (.bool true) := hV 3 (by decide)
        have e4 : x 4 = (.agg #[.int .i64 P, .slice A n c]) := hV 4 (by decide)
        have e5 : x 5 = (.slice X (pw n) cx) := hV 5 (by decide)
        obtain ⟨A6, c6, e6, h6⟩ := hV 6 (by decide)
        have e7 : x 7 = (.int .i64 (q)) := hV 7 (by decide)
        have e8 : x 8 = (.slice (some ⟨gg, og, none⟩) 1 cg) := hV 8 (by decide)
        have e9 : x 9 = (.pointer (some ⟨gg, og, none⟩)) := hV 9 (by decide)
        have e10 : x 10 = (.int .i64 (gv)) := hV 10 (by decide)
        have e11 : x 11 = (.bool true) := hV 11 (by decide)
        have q2 := hS.1; obtain ⟨q0, q1⟩ := hS.2.1.two
        go_simp
        exact hK.out _ _ _ rfl rfl rfl (Below.refl _ _)
      simp only [List.setIfInBounds_toArray, List.set_cons_zero, List.set_cons_succ]
      refine obs_step (Eq.trans (by simp only [List.getElem?_toArray, List.getElem?_cons_succ, List.getElem?_cons_zero]; exact rfl) rfl) rfl (fun w' hS hV K hK => ?_) ?_
      · have e0 : x 0 = (.slice (some ⟨gg, og, none⟩) 1 cg) := hV 0 (by decide)
        have e1 : x 1 = (.int .i64 ((1 : Nat))) := hV 1 (by decide)
        have e2 : x 2 = (.bool true) := hV 2 (by decide)
        have e3 : x 3 = (.bool true) := hV 3 (by decide)
        have e4 : x 4 = (.agg #[.int .i64 P, .slice A n c]) := hV 4 (by decide)
        have e5 : x 5 = (.slice X (pw n) cx) := hV 5 (by decide)
        obtain ⟨A6, c6, e6, h6⟩ := hV 6 (by decide)
        have e7 : x 7 = (.int .i64 (q)) := hV 7 (by decide)
        have e8 : x 8 = (.slice (some ⟨gg, og, none⟩) 1 cg) := hV 8 (by decide)
        have e9 : x 9 = (.pointer (some ⟨gg, og, none⟩)) := hV 9 (by decide)
        have e10 : x 10 = (.int .i64 (gv)) := hV 10 (by decide)
        have e11 : x 11 = (.bool true) := hV 11 (by decide)
        have e12 : x 12 = (.bool true) := hV 12 (by decide)
        have q2 := hS.1; obtain ⟨q0, q1⟩ := hS.2.1.two
        go_simp
        exact hK.out _ _ _ rfl rfl rfl (Below.refl _ _)
      simp only [List.setIfInBounds_toArray, List.set_cons_zero, List.set_cons_succ]
      refine fun w' hS hV => ?_
      have e0 : x 0 = (.slice (some ⟨gg, og, none⟩) 1 cg) := hV 0 (by decide)
      have e1 : x 1 = (.int .i64 ((1 : Nat))) := hV 1 (by decide)
      have e2 : x 2 = (.bool true) := hV 2 (by decide)
      have e3 : x 3 = (.bool true) := hV 3 (by decide)
      have e4 : x 4 = (.agg #[.int .i64 P, .slice A n c]) := hV 4 (by decide)
      have e5 : x 5 = (.slice X (pw n) cx) := hV 5 (by decide)
      obtain ⟨A6, c6, e6, h6⟩ := hV 6 (by decide)
      have e7 : x 7 = (.int .i64 (q)) := hV 7 (by decide)
      have e8 : x 8 = (.slice (some ⟨gg, og, none⟩) 1 cg) := hV 8 (by decide)
      have e9 : x 9 = (.pointer (some ⟨gg, og, none⟩)) := hV 9 (by decide)
      have e10 : x 10 = (.int .i64 (gv)) := hV 10 (by decide)
      have e11 : x 11 = (.bool true) := hV 11 (by decide)
      have e12 : x 12 = (.bool true) := hV 12 (by decide)
      have e13 : x 13 = (.bool true) := hV 13 (by decide)
      simp only [e0, e1, e2, e3, e4, e5, e6, e7, e8, e9, e10, e11, e12, e13]
      clear e0 e1 e2 e3 e4 e5 e6 e7 e8 e9 e10 e11 e12 e13
      refine wpAny_done (by kernel_rfl) ?_ _
      go_wp2
      go_ret
      exact ⟨ret_bool HZ.out.symm, hS.2.2⟩
  · have HZ : Hid (isBl P sq n xs = false) := Lib.hid (by rw [HGL.out]; simp [h1])
    have hm1 : (((m : Nat) : Int) == 1) = false := by simp; omega
    clear hgr hm
    go_wp2
    refine wp_obs 14 [[], [0], [0, 1], [0, 1, 2], [0, 1, 2, 3], [0, 1, 2, 3], [0, 1, 2, 3, 4, 5], [0, 1, 2, 3, 4, 5, 6], [0, 1, 2, 3], [0, 1, 2, 3, 8], [0, 1, 2, 3, 8, 9], [0, 1, 2, 3, 4, 5, 6, 7, 8, 9, 10], [0, 1, 2, 3, 4, 5, 6, 7, 8, 9, 10, 11], [0, 1, 2, 3, 4, 5, 6, 7, 8, 9, 10, 11, 12]] [VIs (.slice G m cg), VIs (.int .i64 (m)), VIs (.bool false), VIs (.bool false), VIs undef, VIs undef, VIs undef, VIs undef, VIs undef, VIs undef, VIs undef, VIs undef, VIs (.bool false), VIs (.bool false)] (fun w' => Blk w' w.heap.size 26 #[.int .i64 P, .slice A n c] ∧ Below w.heap.size w w') (by kernel_rfl) (by kernel_rfl) (fun _ _ h hb => ⟨h.1.below hb h.1.lt, h.2.trans (hb.mono h.2.size)⟩) (⟨k1.drew, hB1.drew⟩) (fun x => ?_)
    refine obs_step (Eq.trans (by simp only [List.getElem?_toArray, List.getElem?_cons_zero]; exact rfl) rfl) rfl (fun w' hS hV K hK => ?_) ?_
    · obtain ⟨q0, q1⟩ := hS.1.two
      go_simp
      exact hK.out _ _ _ rfl rfl rfl (Below.refl _ _)
    simp only [List.setIfInBounds_toArray, List.set_cons_zero, List.set_cons_succ]
    refine obs_step (Eq.trans (by simp only [List.getElem?_toArray, List.getElem?_cons_succ, List.getElem?_cons_zero]; exact rfl) rfl) rfl (fun w' hS hV K hK => ?_) ?_
    · have e0 : x 0 = (.slice G m cg) := hV 0 (by decide)
      obtain ⟨q0, q1⟩ := hS.1.two
      go_simp
      exact hK.out _ _ _ rfl rfl rfl (Below.refl _ _)
    simp only [List.setIfInBounds_toArray, List.set_cons_zero, List.set_cons_succ]
    refine obs_step (Eq.trans (by simp only [List.getElem?_toArray, List.getElem?_cons_succ, List.getElem?_cons_zero]; exact rfl) rfl) rfl (fun w' hS hV K hK => ?_) ?_
    · have e0 : x 0 = (.slice G m cg) := hV 0 (by decide)
      have e1 : x 1 = (.int .i64 (m)) := hV 1 (by decide)
      obtain ⟨q0, q1⟩ := hS.1.two
      go_simp
      exact hK.out _ _ _ rfl rfl rfl (Below.refl _ _)
    simp only [List.setIfInBounds_toArray, List.set_cons_zero, List.set_cons_succ]
    refine obs_step (Eq.trans (by simp only [List.getElem?_toArray, List.getElem?_cons_succ, List.getElem?_cons_zero]; exact rfl) rfl) rfl (fun w' hS hV K hK => ?_) ?_
    · have e0 : x 0 = (.slice G m cg) := hV 0 (by decide)
      have e1 : x 1 = (.int .i64 (m)) := hV 1 (by decide)
      have e2 : x 2 = (.bool false) := hV 2 (by decide)
      obtain ⟨q0, q1⟩ := hS.1.two
      go_simp
      exact hK.out _ _ _ rfl rfl rfl (Below.refl _ _)
    simp only [List.setIfInBounds_toArray, List.set_cons_zero, List.set_cons_succ]
    refine obs_step (Eq.trans (by simp only [List.getElem?_toArray, List.getElem?_cons_succ, List.getElem?_cons_zero]; exact rfl) rfl) rfl (fun w' hS hV K hK => ?_) ?_
    · have e0 : x 0 = (.slice G m cg) := hV 0 (by decide)
      have e1 : x 1 = (.int .i64 (m)) := hV 1 (by decide)
      have e2 : x 2 = (.bool false) := hV 2 (by decide)
      have e3 : x 3 = (.bool false) := hV 3 (by decide)
      obtain ⟨q0, q1⟩ := hS.1.two
      go_simp
      exact hK.out _ _ _ rfl rfl rfl (Below.refl _ _)
    simp only [List.setIfInBounds_toArray, List.set_cons_zero, List.set_cons_succ]
    refine obs_step (Eq.trans (by simp only [List.getElem?_toArray, List.getElem?_cons_succ, List.getElem?_cons_zero]; exact rfl) rfl) rfl (fun w' hS hV K hK => ?_) ?_
    · have e0 : x 0 = (.slice G m cg) := hV 0 (by decide)
      have e1 : x 1 = (.int .i64 (m)) := hV 1 (by decide)
      have e2 : x 2 = (.bool false) := hV 2 (by decide)
      have e3 : x 3 = (.bool false) := hV 3 (by decide)
      obtain ⟨q0, q1⟩ := hS.1.two
      go_simp
      exact hK.out _ _ _ rfl rfl rfl (Below.refl _ _)
    simp only [List.setIfInBounds_toArray, List.set_cons_zero, List.set_cons_succ]
    refine obs_step (Eq.trans (by simp only [List.getElem?_toArray, List.getElem?_cons_succ, List.getElem?_cons_zero]; exact rfl) rfl) rfl (fun w' hS hV K hK => ?_) ?_
    · have e0 : x 0 = (.slice G m cg) := hV 0 (by decide)
      have e1 : x 1 = (.int .i64 (m)) := hV 1 (by decide)
      have e2 : x 2 = (.bool false) := hV 2 (by decide)
      have e3 : x 3 = (.bool false) := hV 3 (by decide)
      have e4 : x 4 = undef := hV 4 (by decide)
      have e5 : x 5 = undef := hV 5 (by decide)
      obtain ⟨q0, q1⟩ := hS.1.two
      go_simp
      exact hK.out _ _ _ rfl rfl rfl (Below.refl _ _)
    simp only [List.setIfInBounds_toArray, List.set_cons_zero, List.set_cons_succ]
    refine obs_step (Eq.trans (by simp only [List.getElem?_toArray, List.getElem?_cons_succ, List.getElem?_cons_zero]; exact rfl) rfl) rfl (fun w' hS hV K hK => ?_) ?_
    · have e0 : x 0 = (.slice G m cg) := hV 0 (by decide)
      have e1 : x 1 = (.int .i64 (m)) := hV 1 (by decide)
      have e2 : x 2 = (.bool false) := hV 2 (by decide)
      have e3 : x 3 = (.bool false) := hV 3 (by decide)
      have e4 : x 4 = undef := hV 4 (by decide)
      have e5 : x 5 = undef := hV 5 (by decide)
      have e6 : x 6 = undef := hV 6 (by decide)
      obtain ⟨q0, q1⟩ := hS.1.two
      go_simp
      exact hK.out _ _ _ rfl rfl rfl (Below.refl _ _)
    simp only [List.setIfInBounds_toArray, List.set_cons_zero, List.set_cons_succ]
    refine obs_step (Eq.trans (by simp only [List.getElem?_toArray, List.getElem?_cons_succ, List.getElem?_cons_zero]; exact rfl) rfl) rfl (fun w' hS hV K hK => ?_) ?_
    · have e0 : x 0 = (.slice G m cg) := hV 0 (by decide)
      have e1 : x 1 = (.int .i64 (m)) := hV 1 (by decide)
      have e2 : x 2 = (.bool false) := hV 2 (by decide)
      have e3 : x 3 = (.bool false) := hV 3 (by decide)
      obtain ⟨q0, q1⟩ := hS.1.two
      go_simp
      exact hK.out _ _ _ rfl rfl rfl (Below.refl _ _)
    simp only [List.setIfInBounds_toArray, List.set_cons_zero, List.set_cons_succ]
    refine obs_step (Eq.trans (by simp only [List.getElem?_toArray, List.getElem?_cons_succ, List.getElem?_cons_zero]; exact rfl) rfl) rfl (fun w' hS hV K hK => ?_) ?_
    · have e0 : x 0 = (.slice G m cg) := hV 0 (by decide)
      have e1 : x 1 = (.int .i64 (m)) := hV 1 (by decide)
      have e2 : x 2 = (.bool false) := hV 2 (by decide)
      have e3 : x 3 = (.bool false) := hV 3 (by decide)
      have e8 : x 8 = undef := hV 8 (by decide)
      obtain ⟨q0, q1⟩ := hS.1.two
      go_simp
      exact hK.out _ _ _ rfl rfl rfl (Below.refl _ _)
    simp only [List.setIfInBounds_toArray, List.set_cons_zero, List.set_cons_succ]
    refine obs_step (Eq.trans (by simp only [List.getElem?_toArray, List.getElem?_cons_succ, List.getElem?_cons_zero]; exact rfl) rfl) rfl (fun w' hS hV K hK => ?_) ?_
    · have e0 : x 0 = (.slice G m cg) := hV 0 (by decide)
      have e1 : x 1 = (.int .i64 (m)) := hV 1 (by decide)
      have e2 : x 2 = (.bool false) := hV 2 (by decide)
      have e3 : x 3 = (.bool false) := hV 3 (by decide)
      have e8 : x 8 = undef := hV 8 (by decide)
      have e9 : x 9 = undef := hV 9 (by decide)
      obtain ⟨q0, q1⟩ := hS.1.two
      go_simp
      exact hK.out _ _ _ rfl rfl rfl (Below.refl _ _)
    simp only [List.setIfInBounds_toArray, List.set_cons_zero, List.set_cons_succ]
    refine obs_step (Eq.trans (by simp only [List.getElem?_toArray, List.getElem?_cons_succ, List.getElem?_cons_zero]; exact rfl) rfl) rfl (fun w' hS hV K hK => ?_) ?_
    · have e0 : x 0 = (.slice G m cg) := hV 0 (by decide)
      have e1 : x 1 = (.int .i64 (m)) := hV 1 (by decide)
      have e2 : x 2 = (.bool false) := hV 2 (by decide)
      have e3 : x 3 = (.bool false) := hV 3 (by decide)
      have e4 : x 4 = undef := hV 4 (by decide)
      have e5 : x 5 = undef := hV 5 (by decide)
      have e6 : x 6 = undef := hV 6 (by decide)
      have e7 : x 7 = undef := hV 7 (by decide)
      have e8 : x 8 = undef := hV 8 (by decide)
      have e9 : x 9 = undef := hV 9 (by decide)
      have e10 : x 10 = undef := hV 10 (by decide)
      obtain ⟨q0, q1⟩ := hS.1.two
      go_simp
      exact hK.out _ _ _ rfl rfl rfl (Below.refl _ _)
    simp only [List.setIfInBounds_toArray, List.set_cons_zero, List.set_cons_succ]
    refine obs_step (Eq.trans (by simp only [List.getElem?_toArray, List.getElem?_cons_succ, List.getElem?_cons_zero]; exact rfl) rfl) rfl (fun w' hS hV K hK => ?_) ?_
    · have e0 : x 0 = (.slice G m cg) := hV 0 (by decide)
      have e1 : x 1 = (.int .i64 (m)) := hV 1 (by decide)
      have e2 : x 2 = (.bool false) := hV 2 (by decide)
      have e3 : x 3 = (.bool false) := hV 3 (by decide)
      have e4 : x 4 = undef := hV 4 (by decide)
      have e5 : x 5 = undef := hV 5 (by decide)
      have e6 : x 6 = undef := hV 6 (by decide)
      have e7 : x 7 = undef := hV 7 (by decide)
      have e8 : x 8 = undef := hV 8 (by decide)
      have e9 : x 9 = undef := hV 9 (by decide)
      have e10 : x 10 = undef := hV 10 (by decide)
      have e11 : x 11 = undef := hV 11 (by decide)
      obtain ⟨q0, q1⟩ := hS.1.two
      go_simp
      exact hK.out _ _ _ rfl rfl rfl (Below.refl _ _)
    simp only [List.setIfInBounds_toArray, List.set_cons_zero, List.set_cons_succ]
    refine obs_step (Eq.trans (by simp only [List.getElem?_toArray, List.getElem?_cons_succ, List.getElem?_cons_zero]; exact rfl) rfl) rfl (fun w' hS hV K hK => ?_) ?_
    · have e0 : x 0 = (.slice G m cg) := hV 0 (by decide)
      have e1 : x 1 = (.int .i64 (m)) := hV 1 (by decide)
      have e2 : x 2 = (.bool false) := hV 2 (by decide)
      have e3 : x 3 = (.bool false) := hV 3 (by decide)
      have e4 : x 4 = undef := hV 4 (by decide)
      have e5 : x 5 = undef := hV 5 (by decide)
      have e6 : x 6 = undef := hV 6 (by decide)
      have e7 : x 7 = undef := hV 7 (by decide)
      have e8 : x 8 = undef := hV 8 (by decide)
      have e9 : x 9 = undef := hV 9 (by decide)
      have e10 : x 10 = undef := hV 10 (by decide)
      have e11 : x 11 = undef := hV 11 (by decide)
      have e12 : x 12 = (.bool false) := hV 12 (by decide)
      obtain ⟨q0, q1⟩ := hS.1.two
      go_simp
      exact hK.out _ _ _ rfl rfl rfl (Below.refl _ _)
    simp only [List.setIfInBounds_toArray, List.set_cons_zero, List.set_cons_succ]
    refine fun w' hS hV => ?_
    have e0 : x 0 = (.slice G m cg) := hV 0 (by decide)
    have e1 : x 1 = (.int .i64 (m)) := hV 1 (by decide)
    have e2 : x 2 = (.bool false) := hV 2 (by decide)
    have e3 : x 3 = (.bool false) := hV 3 (by decide)
    have e4 : x 4 = undef := hV 4 (by decide)
    have e5 : x 5 = undef := hV 5 (by decide)
    have e6 : x 6 = undef := hV 6 (by decide)
    have e7 : x 7 = undef := hV 7 (by decide)
    have e8 : x 8 = undef := hV 8 (by decide)
    have e9 : x 9 = undef := hV 9 (by decide)
    have e10 : x 10 = undef := hV 10 (by decide)
    have e11 : x 11 = undef := hV 11 (by decide)
    have e12 : x 12 = (.bool false) := hV 12 (by decide)
    have e13 : x 13 = (.bool false) := hV 13 (by decide)
    simp only [e0, e1, e2, e3, e4, e5, e6, e7, e8, e9, e10, e11, e12, e13]
    clear e0 e1 e2 e3 e4 e5 e6 e7 e8 e9 e10 e11 e12 e13
    refine wpAny_done (by kernel_rfl) ?_ _
    go_wp2
    go_ret
    exact ⟨ret_bool HZ.out.symm, hS.2⟩
set_option maxHeartbeats 3200000 in
set_option maxRecDepth 8000 in
theorem checkBlades_any (P : Int) (A B : Option Addr) (n c m d : Nat) (sq : List Int) (ms : List (List Int)) (w : World) (hn : n ≤ 1048576) (hm : m ≤ 1048576) (ha : Rd w A n (ints sq)) (hb : RdII w B m ms) (hms : ∀ ys ∈ ms, ys.length ≤ 1048576) :
    Calls Tryz.prog 226 #[.agg #[.int .i64 P, .slice A n c], .slice B m d] w fun e w' => e = .returned (.int .i64 (codeL P sq ms)) ∧ Below w.heap.size w w' := by
  have hB0 : Below w.heap.size w (w.alloc (.cells #[.int .i64 P, .slice A n c] 26)) := (Below.refl _ _).alloc (Nat.le_refl _) _
  have k0 : Blk (w.alloc (.cells #[.int .i64 P, .slice A n c] 26)) w.heap.size 26 #[.int .i64 P, .slice A n c] := Blk.new _ _ _
  have hcm := checkMultis_any P A B n c m d sq ms _ hn hm (ha.below hB0) (hb.below hB0) hms
  by_cases e1 : codeM P sq ms = 0
  · obtain ⟨HP, _, _, hd1, hd2, hs, hms2⟩ := codeM_spec3 e1
    have hnl := ha.lenI
    rw [hnl] at hd1 hd2
    have HNL := Lib.hid hnl
    have hml := hb.len
    rw [e1] at hcm
    have E1 := Lib.hid e1
    have HMS2 := Lib.hid hms2
    have HS := Lib.hid hs
    have HPP := Lib.hid HP
    have HML := Lib.hid hml
    clear e1 hms2 hms hs hml hnl HP
    go_enter Tryz.func226, Tryz.ntmps226
    go_wp2_with fail
    refine hcm.mono ?_
    rintro e w1 ⟨rfl, hb1⟩
    have hB1 := hB0.trans (hb1.mono (by simp))
    have k1 := k0.below hb1 k0.lt
    clear k0 hB0 hb1
    go_wp2
    go_loopw [7, 16] (fun _ i wr => ∃ k : Nat, k ≤ m ∧ i = .int .i64 k ∧ Hid ((ms.take k).all (isBl P sq n) = true) ∧ Below w.heap.size w wr ∧ Blk wr w.heap.size 26 #[.int .i64 P, .slice A n c]) (fun _ i _ => m - (intOf i).toNat)
    case atStart => exact ⟨0, by omega, rfl, Lib.hid (by simp), hB1, k1⟩
    case round =>
      obtain ⟨k, hk, rfl, HT, hBr, k2⟩ := hrel
      clear hB1 k1
      obtain ⟨q0, q1⟩ := k2.two
      by_cases hlt : k < m
      · obtain ⟨g, o, rfl, hxk, A', c', hcx, hr0, hcc⟩ := (hb.below hBr).at_ hlt
        have HXN := Lib.hid (HMS2.out ms[k] (List.getElem_mem hxk))
        have hl1 := HXN.out.1
        rw [HNL.out] at hl1
        rw [hl1] at hcx hr0
        have hcall := fun w' (hb : Below wr.heap.size wr w') => isBlade_any P A n c sq A' c' ms[k] w' HPP.out hd2 hd1 (ha.below (hBr.trans (hb.mono hBr.size))) HS.out (hr0.below hb) HXN.out.2
        have HC := Lib.hid hcall
        have HMEM := Lib.hid (List.getElem_mem hxk)
        have HTK : Hid (isBl P sq n ms[k] = true → (ms.take (k + 1)).all (isBl P sq n) = true) := Lib.hid (fun h => all_take3 hxk HT.out h)
        obtain ⟨x, hx⟩ : ∃ x, x = ms[k] := ⟨_, rfl⟩
        rw [← hx] at HC HMEM HTK
        clear hl1 hcall hr0 hcc hx HXN hxk
        cases ho : isBl P sq n x
        all_goals
          have HO := Lib.hid ho
          clear ho
          go_wp2_with fail
          refine (HC.out _ (Below.refl _ _)).mono ?_
          rintro e w2 ⟨rfl, hb2⟩
          rw [HO.out]
          have HB5 := hBr.trans (hb2.mono hBr.size)
          have K5 := k2.below hb2 k2.lt
          go_wp2
        · go_ret
          exact ⟨ret_int (codeL_bad E1.out HMEM.out (by rw [HNL.out]; exact HO.out)).symm, HB5⟩
        · go_roundw
          case rel => exact ⟨k + 1, by omega, by go_num, Lib.hid (HTK.out HO.out), HB5, K5⟩
          case measure => simp [intOf]; omega
      · go_wp2
        go_ret
        refine ⟨ret_int (codeL_good E1.out ?_).symm, hBr⟩
        have := HT.out
        rw [List.take_of_length_le (by rw [HML.out]; omega)] at this
        rw [HNL.out]; exact this
  · obtain ⟨r, hr⟩ : ∃ r, r = codeM P sq ms := ⟨_, rfl⟩
    have E1 := Lib.hid e1
    have HR := Lib.hid hr
    have b0 : (r != 0) = true := code_ne (by rw [hr]; exact e1)
    rw [← hr] at hcm
    clear e1 hr hms
    go_enter Tryz.func226, Tryz.ntmps226
    go_wp2_with fail
    refine hcm.mono ?_
    rintro e w1 ⟨rfl, hb1⟩
    go_wp2
    go_ret
    exact ⟨ret_int (by rw [codeL_ne E1.out, HR.out]), hB0.trans (hb1.mono (by simp))⟩
end Go.Proofs.YtggigolkncckoaaGreat
namespace Go.Proofs.YtggigolkncckoaaGreat
open Go.RowKit
theorem bind_own {rows : List Value} {i : Nat} {v : Value} (h : rows[i]? = some v) : (rows[i]?).bind Value.ownBlock = v.ownBlock := by rw [h]; rfl
theorem Nest.set {w w' : World} {B : Nat} {rows : List Value} {xss : List (List Int)} (h : Nest w B rows xss) {j : Nat} (hj : j < xss.length) {A : Option Addr} {c : Nat} (hr : rows[j]? = some (.slice A xss[j].length c)) {ys : List Int} (hl : ys.length = xss[j].length)
    (ho : Own w' B 2 A xss[j].length c (ints ys)) (hg : w.grownBy w' (Value.slice A xss[j].length c).ownBlock) : Nest w' B rows (xss.set j ys) := by
  refine ⟨by rw [List.length_set]; exact h.len, fun k hk => ?_, h.apart⟩
  have hk' : k < xss.length := by rw [List.length_set] at hk; exact hk
  rw [List.getElem_set]
  by_cases e : j = k
  · subst e
    rw [if_pos rfl, hl]
    exact ⟨A, c, hr, ho⟩
  · rw [if_neg e]
    obtain ⟨A', c', e', ho'⟩ := h.row k hk'
    refine ⟨A', c', e', ho'.grown hg ?_⟩
    cases hb : (Value.slice A' xss[k].length c').ownBlock with
    | none => exact .inl rfl
    | some g =>
      right
      intro hh
      rcases Nat.lt_or_ge j k with hlt | hge
      · exact h.apart j k g hlt ((bind_own hr).trans hh.symm) ((bind_own e').trans hb)
      · exact h.apart k j g (by omega) ((bind_own e').trans hb) ((bind_own hr).trans hh.symm)
/-- A slice of rows of numbers of the call's own, from block B on. -/
def OwnII (w : World) (B : Nat) (A : Option Addr) (n c : Nat) (xss : List (List Int)) : Prop := ∃ rows, Own w B 24 A n c rows ∧ Nest w B rows xss
theorem MkII.own {w0 w : World} {A : Option Addr} {n c : Nat} {xss : List (List Int)} (h : MkII w0 w A n c xss) : OwnII w w0.heap.size A n c xss := by
  obtain ⟨rows, h1, h2⟩ := h
  exact ⟨rows, h1.2, h2⟩
section
variable {w w' : World} {B B' : Nat} {A : Option Addr} {n c : Nat} {xss : List (List Int)}
theorem OwnII.len (h : OwnII w B A n c xss) : xss.length = n := by
  obtain ⟨rows, h1, h2⟩ := h
  rw [← h2.len]
  exact h1.len
theorem OwnII.rd (h : OwnII w B A n c xss) : RdII w A n xss := by
  obtain ⟨rows, hm, hn⟩ := h
  exact ⟨rows, hm.rd, hn.len, fun k hk => by obtain ⟨A', c', e, ho⟩ := hn.row k hk; exact ⟨A', c', e, ho.rd, ho.cap⟩⟩
theorem OwnII.below (h : OwnII w B A n c xss) (hb : Below w.heap.size w w') : OwnII w' B A n c xss := by
  obtain ⟨rows, hm, hn⟩ := h
  exact ⟨rows, hm.below hb, hn.below hb⟩
/-- A block below the base grows. -/
theorem OwnII.grown (h : OwnII w B A n c xss) {row : Option Nat} (hg : w.grownBy w' row) (hlow : ∀ g, row = some g → g < B) : OwnII w' B A n c xss := by
  obtain ⟨rows, hm, hn⟩ := h
  have key : ∀ {E : TypeId} {A' : Option Addr} {n' c' : Nat} {us : List Value}, Own w B E A' n' c' us → ((Value.slice A' n' c').ownBlock = none ∨ (Value.slice A' n' c').ownBlock ≠ row) := by
    intro E A' n' c' us ho
    cases hb : (Value.slice A' n' c').ownBlock with
    | none => exact .inl rfl
    | some g =>
      right
      intro e
      have h1 := hlow g e.symm
      have h2 := (World.ownsRow.lt ho g hb).1
      omega
  exact ⟨rows, hm.grown hg (key hm), hn.len, fun k hk => by obtain ⟨A', c', e, ho⟩ := hn.row k hk; exact ⟨A', c', e, ho.grown hg (key ho)⟩, hn.apart⟩
end
end Go.Proofs.YtggigolkncckoaaGreat
