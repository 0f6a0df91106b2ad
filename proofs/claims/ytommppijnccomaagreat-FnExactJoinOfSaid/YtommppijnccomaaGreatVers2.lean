/-
  Grades on the reference's side; parities; even multivectors.
-/
import Derived.Test.YtommppijnccomaaGreatVers
namespace Go.Proofs.YtommppijnccomaaGreat
open Go.RowKit

theorem lead_lt_iff (v : List Int) : leadL v < v.length ↔ ∃ i, i < v.length ∧ v.getD i 0 ≠ 0 := by
  constructor
  · intro h; exact ⟨leadL v, h, leadL_at v h⟩
  · rintro ⟨i, hi, hne⟩
    rcases Nat.lt_or_ge i (leadL v) with h | h
    · exact absurd (leadL_before v i h) hne
    · omega
theorem firstL_part (xs : List Int) (k : Nat) : decide (0 ≤ firstL (partG xs k)) = hasG xs k := by
  rw [Bool.eq_iff_iff, decide_eq_true_eq, hasG_iff]
  have h := lead_lt_iff (partG xs k)
  rw [partG_len] at h
  unfold firstL
  rw [partG_len]
  constructor
  · intro h0
    by_cases hl : leadL (partG xs k) < xs.length
    · obtain ⟨i, hi, hne⟩ := h.1 hl
      rw [partG_getD hi] at hne
      by_cases hp : pc i = k
      · rw [if_pos hp] at hne; exact ⟨i, hi, hne, hp⟩
      · rw [if_neg hp] at hne; exact absurd rfl hne
    · rw [if_neg hl] at h0; omega
  · rintro ⟨i, hi, hne, hp⟩
    rw [if_pos (h.2 ⟨i, hi, by rw [partG_getD hi, if_pos hp]; exact hne⟩)]
    omega
theorem gradesL_n (xs : List Int) (n : Nat) (hn : n ≤ 6) (hx : xs.length = pw n) : ((List.range (n + 1)).filter (hasG xs)).map (fun k : Nat => (k : Int)) = gradesL xs := by
  unfold gradesL
  congr 1
  have h : ∀ j, n + 1 + j ≤ 7 → (List.range (n + 1 + j)).filter (hasG xs) = (List.range (n + 1)).filter (hasG xs) := by
    intro j
    induction j with
    | zero => intro _; rfl
    | succ j ih =>
      intro hj
      rw [show n + 1 + (j + 1) = (n + 1 + j) + 1 by omega, List.range_succ, List.filter_append, ih (by omega)]
      have : hasG xs (n + 1 + j) = false := by
        rw [Bool.eq_false_iff]
        intro hh
        obtain ⟨i, hi, _, hp⟩ := (hasG_iff _ _).1 hh
        have := pc_le n i (by rw [hx] at hi; exact hi)
        omega
      simp [this]
  have := h (7 - (n + 1)) (by omega)
  rw [show n + 1 + (7 - (n + 1)) = 7 by omega] at this
  exact this.symm

/-- The grades up to k, collected. -/
def grT (xs : List Int) (k : Nat) : List Int := ((List.range k).filter (hasG xs)).map fun k : Nat => (k : Int)
theorem grT_succ (xs : List Int) (k : Nat) : grT xs (k + 1) = if hasG xs k then grT xs k ++ [(k : Int)] else grT xs k := by
  unfold grT
  rw [List.range_succ, List.filter_append, List.map_append, List.filter_cons, List.filter_nil]
  split
  · rfl
  · rw [List.map_nil, List.append_nil]
theorem grT_le (xs : List Int) (k : Nat) : (grT xs k).length ≤ k := by
  unfold grT
  rw [List.length_map]
  exact Nat.le_trans (List.length_filter_le _ _) (by simp)

set_option maxHeartbeats 800000 in
theorem l04Grades_any (P : Int) (A : Option Addr) (n c : Nat) (X : Option Addr) (cx : Nat) (xs : List Int) (w : World) (hn : n ≤ 6) (hx : Rd w X (pw n) (ints xs)) :
    Calls Tryz.prog 123 #[.agg #[.int .i64 P, .slice A n c], .slice X (pw n) cx] w fun e w' => ∃ A' c', e = .returned (.slice A' (gradesL xs).length c') ∧ MkI w w' A' (gradesL xs).length c' (gradesL xs) := by
  have hxl := hx.lenI
  have HPW64 : pw n ≤ 64 := pw_le hn
  have HG : Hid (grT xs (n + 1) = gradesL xs) := Lib.hid (gradesL_n xs n hn hxl)
  have hB0 : Below w.heap.size w (w.alloc (.cells #[.int .i64 P, .slice A n c] 28)) := (Below.refl _ w).alloc (Nat.le_refl _) _
  have k0 : Blk (w.alloc (.cells #[.int .i64 P, .slice A n c] 28)) w.heap.size 28 #[.int .i64 P, .slice A n c] := Blk.new w _ _
  have hM0 := Mk.lit (E := 2) hB0 #[] (by simp)
  have hM1 : MkI w ((w.alloc (.cells #[.int .i64 P, .slice A n c] 28)).alloc (.cells #[] 2)) (some ⟨w.heap.size + 1, 0, none⟩) 0 0 [] := by simpa [MkI, ints] using hM0
  have k1 := k0.alloc (.cells #[] 2)
  clear hxl
  go_enter Tryz.func123, Tryz.ntmps123
  go_wp2
  clear hM0 hB0 k0
  obtain ⟨w1, hw1⟩ : ∃ W, W = (w.alloc (.cells #[.int .i64 P, .slice A n c] 28)).alloc (.cells #[] 2) := ⟨_, rfl⟩
  rw [← hw1] at hM1 k1 ⊢
  clear hw1
  go_loopw [5, 6] (fun o i wr => ∃ (k : Nat) (A' : Option Addr) (c' : Nat), k ≤ n + 1 ∧ i = .int .i64 k ∧ o = .slice A' (grT xs k).length c' ∧ MkI w wr A' (grT xs k).length c' (grT xs k) ∧ Blk wr w.heap.size 28 #[.int .i64 P, .slice A n c]) (fun _ i _ => n + 1 - (intOf i).toNat)
  case atStart => exact ⟨0, _, _, by omega, rfl, rfl, by simpa [MkI, ints, grT] using hM1, k1⟩
  case round =>
    obtain ⟨k, A', c', hk, rfl, rfl, hM, hk2⟩ := hrel
    clear hM1 k1
    obtain ⟨q0, q1⟩ := hk2.two
    have HS := Lib.hid (grT_succ xs k)
    have hle := grT_le xs k
    have HT := Lib.hid (firstL_part xs k)
    by_cases hlt : k ≤ n
    · obtain ⟨l, hl⟩ : ∃ l, l = (grT xs k).length := ⟨_, rfl⟩
      rw [← hl] at hle hM ⊢
      have HL := Lib.hid hl
      have HR := Lib.hid (hx.below hM.b)
      have HM := Lib.hid hM
      clear hl hM
      cases hh : hasG xs k
      all_goals
        have HH := Lib.hid hh
        have hb : decide (0 ≤ firstL (partG xs k)) = hasG xs k := HT.out
        rw [hh] at hb
        clear hh
        go_wp2_with fail
        refine (l04Part_any _ _ _ _ _ _ HPW64 (by omega) HR.out).mono ?_
        rintro e w1 ⟨A1, c1, rfl, hP⟩
        have hk3 := hk2.below hP.b hk2.lt
        have HM2 := Lib.hid (HM.out.below hP.b)
        clear q0 q1
        obtain ⟨q0, q1⟩ := hk3.two
        go_wp2_with fail
        refine (l02First_any _ _ _ _ _ (by omega) hP.rd).mono ?_
        rintro e w2 ⟨rfl, rfl⟩
      · go_wp2
        go_roundw
        case rel =>
          have e : grT xs (k + 1) = grT xs k := by rw [HS.out, HH.out]; rfl
          exact ⟨k + 1, A', c', by omega, by go_num, by rw [e, ← HL.out], by rw [e, ← HL.out]; exact HM2.out, hk3⟩
        case measure => simp [intOf]; omega
      · go_wp2_with (at_builtin; refine wpList_app1 w _ 22 2 _ _ Tryz.underlying22 info_i rfl (by omega) rfl _ _ rfl A' l c' _ _ HM2.out (by omega) rfl rfl rfl ?_; intro A2 c2 w3 hM3 hgr _)
        have hk4 := hk3.grown hgr (HM2.out.2.ne_blk hk3 (by decide))
        go_roundw
        case rel =>
          have e : grT xs (k + 1) = grT xs k ++ [(k : Int)] := by rw [HS.out, HH.out]; rfl
          have el : (grT xs (k + 1)).length = l + 1 := by rw [e, List.length_append, HL.out]; rfl
          exact ⟨k + 1, A2, c2, by omega, by go_num, by rw [el], by rw [el, e]; simpa [MkI, ints] using hM3, hk4⟩
        case measure => simp [intOf]; omega
    · obtain rfl : k = n + 1 := by omega
      rw [HG.out] at hM ⊢
      go_wp2
      go_ret
      exact ⟨_, _, rfl, hM⟩

/-- Are there grades of both parities? -/
def mixB (gs : List Int) : Bool := gs.any fun g => g % (2 : Int) != gs.getD 0 0 % (2 : Int)


/-- Even, by the involute. -/
theorem evenL_invo {P : Int} {n : Nat} (hp : isP P = true) (hn : n ≤ 6) {xs : List Int} (hl : xs.length = pw n) (hx : NumsL P xs) : decide (xs = invoL P xs) = evenL xs := by
  have hpp := isP_ge hp
  have hl64 : xs.length ≤ 64 := by rw [hl]; exact pw_le hn
  unfold evenL
  rw [Bool.eq_iff_iff, decide_eq_true_eq, Bool.not_eq_true', List.any_eq_false]
  constructor
  · intro he g hg
    obtain ⟨i, hi, hne, rfl⟩ := (gradesL_mem xs hl64 g).1 hg
    intro hodd
    have hod : oddT (pc i) = true := by have := beq_iff_eq.1 hodd; exact beq_iff_eq.2 (by omega)
    have h1 : xs.getD i 0 = (invoL P xs).getD i 0 := congrArg (fun l => l.getD i 0) he
    unfold invoL at h1
    rw [sgnL_getD hi, if_pos hod] at h1
    obtain ⟨b1, b2⟩ := hx _ (getD_mem 0 hi)
    have hpos : 0 < xs.getD i 0 := by omega
    have h2 : (-(xs.getD i 0)) % P = P - xs.getD i 0 := by
      rw [show -(xs.getD i 0) = (P - xs.getD i 0) + P * (-1) by omega, Int.add_mul_emod_self_left]
      exact Int.emod_eq_of_lt (by omega) (by omega)
    rw [h2] at h1
    have : P = 2 * xs.getD i 0 := by omega
    have hP : P = 3 ∨ P = 5 ∨ P = 7 ∨ P = 11 ∨ P = 13 := by simp [isP] at hp; omega
    omega
  · intro h
    apply list_ext_getD 0 (by unfold invoL; rw [sgnL_len])
    intro i hi
    unfold invoL
    rw [sgnL_getD hi]
    by_cases hod : oddT (pc i) = true
    · rw [if_pos hod]
      by_cases h0 : xs.getD i 0 = 0
      · rw [h0]; simp
      · have := h _ ((gradesL_mem xs hl64 _).2 ⟨i, hi, h0, rfl⟩)
        have h1 : pc i % 2 = 1 := beq_iff_eq.1 hod
        exact absurd (beq_iff_eq.2 (by omega)) this
    · rw [if_neg hod]


end Go.Proofs.YtommppijnccomaaGreat
