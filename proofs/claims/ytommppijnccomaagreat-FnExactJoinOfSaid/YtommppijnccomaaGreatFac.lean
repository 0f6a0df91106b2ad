/-
  The factor of the product of two blades.
-/
import Derived.Test.YtommppijnccomaaGreatBits
namespace Go.Proofs.YtommppijnccomaaGreat
open Go.RowKit

theorem swaps_le (a b : Nat) (ha : a < 64) (k : Nat) : swaps a b k ≤ 6 * k := by
  induction k with
  | zero => simp [swaps]
  | succ k ih =>
    have : pc (a / 2 ^ (k + 1)) ≤ 6 := pc_le 6 _ (Nat.lt_of_le_of_lt (Nat.div_le_self _ _) (by omega))
    simp only [swaps]
    split <;> omega

theorem and_bit_all : ∀ k : Nat, k < 6 → ∀ x : Nat, x < 64 → bits BinOp.and IntKind.i64 ((x : Int) / 2 ^ k) 1 = (bit x k : Int) := by decide +kernel
theorem and_bit {x k : Nat} (hk : k < 6) (hx : x < 64) : bits BinOp.and IntKind.i64 ((x : Int) / 2 ^ k) 1 = (bit x k : Int) := and_bit_all k hk x hx
theorem bit_lt (x k : Nat) : bit x k < 2 := Nat.mod_lt _ (by omega)
theorem bit1 {x k : Nat} (hk : k < 6) (hx : x < 64) (h : (bits BinOp.and IntKind.i64 ((x : Int) / 2 ^ k) 1 == 1) = true) : bit x k = 1 := by
  rw [and_bit hk hx] at h; have := beq_iff_eq.1 h; omega
theorem bit0 {x k : Nat} (hk : k < 6) (hx : x < 64) (h : (bits BinOp.and IntKind.i64 ((x : Int) / 2 ^ k) 1 == 1) = false) : ¬ bit x k = 1 := by
  rw [and_bit hk hx] at h; intro hh; rw [hh] at h; simp at h
theorem shr_u64 (x k : Nat) (hx : x < 64) : IntKind.u64.wrap ((x : Int) / 2 ^ k) = ((x / 2 ^ k : Nat) : Int) := by
  have h : x / 2 ^ k ≤ x := Nat.div_le_self _ _
  have he : ((x : Int) / 2 ^ k) = ((x / 2 ^ k : Nat) : Int) := by simp
  rw [he]
  exact IntWalk.u64_in _ ⟨Int.natCast_nonneg _, by omega⟩

theorem keepB3 {B : Nat} {W0 w1 w2 : World} {p q r : Addr} {u v x : Value} (h : w1.cell? p = some u ∧ w1.cell? q = some v ∧ w1.cell? r = some x ∧ Below B W0 w1) (hb : Below w1.heap.size w1 w2) (hB : B ≤ W0.heap.size) :
    w2.cell? p = some u ∧ w2.cell? q = some v ∧ w2.cell? r = some x ∧ Below B W0 w2 :=
  ⟨(hb.cell (World.block_lt_of_cell? _ _ h.1)).trans h.1, (hb.cell (World.block_lt_of_cell? _ _ h.2.1)).trans h.2.1, (hb.cell (World.block_lt_of_cell? _ _ h.2.2.1)).trans h.2.2.1, h.2.2.2.trans (hb.mono (Nat.le_trans hB h.2.2.2.size))⟩

set_option maxRecDepth 2000 in
set_option maxHeartbeats 1600000 in
theorem factor_any (P : Int) (A : Option Addr) (n c : Nat) (sq : List Int) (a b : Nat) (w : World) (hp : 2 ≤ P) (hp2 : P ≤ 13) (hn : n ≤ 6) (ha : Rd w A n (ints sq)) (hs : NumsL P sq) (h1 : a < 64) (h2 : b < 64) :
    Calls Tryz.prog 132 #[.agg #[.int .i64 P, .slice A n c], .int .i64 a, .int .i64 b] w fun e w' => e = .returned (.int .i64 (fac P sq a b)) ∧ Below w.heap.size w w' := by
  have hxl : sq.length = n := by have := ha.1; rwa [ints_length] at this
  have Hx := Lib.hid hxl; clear hxl
  go_enter Tryz.func132, Tryz.ntmps132
  go_wp2_with (go_at_call 77; refine (dim_any _ _ _ _ _).mono ?_; rintro e w1 ⟨rfl, hb1⟩)
  have hk0 : Blk w1 w.heap.size 28 #[.int .i64 P, .slice A n c] := (Blk.new w _ _).below hb1 (by simp)
  have hB1 : Below w.heap.size w w1 := ((Below.refl _ w).alloc (Nat.le_refl _) _).trans (hb1.mono (by simp))
  have ha1 := ha.below hB1
  clear ha hb1
  go_loopw [7, 8, 9, 12] (fun sw out _ i wr => ∃ (k : Nat), k ≤ n ∧ i = .int .i64 k ∧ sw = .int .i64 (swaps a b k) ∧ out = .int .i64 (common P sq a b k) ∧ Below w1.heap.size w1 wr) (fun _ _ _ i _ => n - (intOf i).toNat)
  case atStart => exact ⟨0, by omega, rfl, rfl, rfl, Below.refl _ _⟩
  case round =>
    obtain ⟨k, hk, rfl, rfl, rfl, hM⟩ := hrel
    have hkr := hk0.below hM hk0.lt
    have har := ha1.below hM
    have hsl := swaps_le a b h1 k
    obtain ⟨cb1, cb2⟩ := common_bound P sq a b hp k
    by_cases hlt : k < n
    · cases hb : (bits BinOp.and IntKind.i64 ((b : Int) / 2 ^ k) 1 == 1)
      · have hb' := Lib.hid (bit0 (by omega) h2 hb)
        go_wp2
        go_roundw
        case rel => exact ⟨k + 1, by omega, by go_num, by simp only [swaps, if_neg hb'.out]; rfl, by simp only [common, if_neg (fun hh : bit b k = 1 ∧ bit a k = 1 => hb'.out hh.1)], hM⟩
        case measure => simp [intOf]; omega
      · have hb' := Lib.hid (bit1 (by omega) h2 hb)
        have hv := Lib.hid (shr_u64 a (k + 1) h1)
        have hpc : pc (a / 2 ^ (k + 1)) ≤ 6 := pc_le 6 _ (Nat.lt_of_le_of_lt (Nat.div_le_self _ _) (by omega))
        have hlt2 : a / 2 ^ (k + 1) < 64 := Nat.lt_of_le_of_lt (Nat.div_le_self _ _) h1
        have HL := Lib.hid hlt2; clear hlt2
        cases hba : (bits BinOp.and IntKind.i64 ((a : Int) / 2 ^ k) 1 == 1)
        · have hba' := Lib.hid (bit0 (by omega) h1 hba)
          go_wp2_with (go_at_call 145; rw [hv.out]; refine (ones_any _ _ HL.out).mono ?_; rintro e w' ⟨rfl, rfl⟩)
          go_roundw
          case rel => exact ⟨k + 1, by omega, by go_num, by simp only [swaps, if_pos hb'.out]; rfl, by simp only [common, if_neg (fun hh : bit b k = 1 ∧ bit a k = 1 => hba'.out hh.2)], hM⟩
          case measure => simp [intOf]; omega
        · have hba' := Lib.hid (bit1 (by omega) h1 hba)
          obtain ⟨g, o, rfl, hx, hcx⟩ := har.int hlt
          obtain ⟨sx1, sx2⟩ := hs _ (List.getElem_mem hx)
          obtain ⟨m1, m2⟩ := mul_small cb1 (show common P sq a b k ≤ 13 by omega) sx1 (show sq[k] ≤ 13 by omega)
          obtain ⟨kc0, kc1⟩ := hkr.two
          clear har ha1 hk0
          go_wp2_with (go_at_call 145; rw [hv.out]; refine (ones_any _ _ HL.out).mono ?_; rintro e w' ⟨rfl, rfl⟩)
          go_region_held3 (fun w' => w'.cell? ⟨w.heap.size, 0, none⟩ = some (.int .i64 P) ∧ w'.cell? ⟨w.heap.size, 1, none⟩ = some (.slice (some ⟨g, o, none⟩) n c) ∧ w'.cell? ⟨g, o + k, none⟩ = some (.int .i64 sq[k]) ∧ Below w1.heap.size w1 w')
            (first | with_reducible assumption | with_reducible exact keepB3 (by assumption) hb9 (Nat.le_refl _) | exact ⟨kc0, kc1, hcx, hM.drew⟩)
            (first
              | (go_at_call 68; refine (field_any _ _ _ _ _).mono ?_; rintro e w' ⟨rfl, hb9⟩)
              | (go_at_call 69; refine (num_iw P (common P sq a b k * sq[k]) _ (by omega) hp2 (by omega) (by omega)).mono ?_; rintro e w' ⟨rfl, rfl⟩))
          have hM2 := (by assumption : _ ∧ _ ∧ _ ∧ Below w1.heap.size w1 w').2.2.2
          go_wp2
          go_roundw
          case rel => exact ⟨k + 1, by omega, by go_num, by simp only [swaps, if_pos hb'.out]; rfl, by simp only [common, if_pos (And.intro hb'.out hba'.out)]; rw [List.getD_eq_getElem?_getD, List.getElem?_eq_getElem hx]; rfl, hM2⟩
          case measure => simp [intOf]; omega
    · obtain rfl : k = n := by omega
      have hBB : Below w.heap.size w wr := hB1.trans (hM.mono hB1.size)
      clear har ha1
      cases hsw : ((swaps a b k : Int) % 2 == 1)
      · go_wp2
        go_ret
        refine ⟨ret_int ?_, hBB⟩
        unfold fac
        rw [Hx.out, if_neg (by intro hh; have : (swaps a b k : Int) % 2 = 1 := by omega
                               rw [this] at hsw; simp at hsw)]
      · obtain ⟨kc0, kc1⟩ := hkr.two
        go_wp2_with (first
              | (go_at_call 68; refine (field_any _ _ _ _ _).mono ?_; rintro e w' ⟨rfl, hb9⟩)
              | (go_at_call 69; refine (num_any P (-common P sq a b k) _ (by omega) hp2 (by omega) (by omega)).mono ?_; rintro e w' ⟨rfl, rfl⟩))
        go_ret
        refine ⟨ret_int ?_, hBB.trans (hb9.mono hBB.size)⟩
        unfold fac
        rw [Hx.out, if_pos (by have := beq_iff_eq.1 hsw; omega)]

end Go.Proofs.YtommppijnccomaaGreat
