/-
  LawFnVersorsBetween: part 9 of the texts that the proof needs. No condition.
-/
import Derived.Test.YtggigolkncckoaaGreatP8
namespace Go.Proofs.YtggigolkncckoaaGreat
open Go.RowKit
set_option maxHeartbeats 3200000 in
set_option maxRecDepth 8000 in
theorem l07Space_any (g : Nat) (w : World) (hs : Src w g 143) :
    Calls Tryz.prog 142 #[.pointer (some ⟨g, 0, none⟩)] w fun e w' => ∃ (P : Int) (A : Option Addr) (n c : Nat) (xs : List Int), e = .returned (.agg #[.int .i64 P, .slice A n c]) ∧ P ≤ 17 ∧ n ≤ 7 ∧ Own w' w.heap.size 2 A n c (ints xs) ∧ Dr g 143 w w' := by
  have hd1 := ((Dr.refl hs).alloc (.cells #[.int .i64 0, .slice none 0 0] 26)).alloc (.cells #[.int .i64 2, .int .i64 3, .int .i64 3, .int .i64 4, .int .i64 5] 2)
  have k1 : Blk ((w.alloc (.cells #[.int .i64 0, .slice none 0 0] 26)).alloc (.cells #[.int .i64 2, .int .i64 3, .int .i64 3, .int .i64 4, .int .i64 5] 2)) w.heap.size 26 #[.int .i64 0, .slice none 0 0] := (Blk.new _ _ _).alloc _
  have hpk := pick_any g (w.alloc (.cells #[.int .i64 0, .slice none 0 0] 26)).heap.size [2, 3, 3, 4, 5] _ hd1.s' (Blk.new _ 2 _) (by decide) (by decide)
  have e1 : (w.alloc (.cells #[.int .i64 0, .slice none 0 0] 26)).heap.size = w.heap.size + 1 := by simp
  rw [e1] at hpk
  go_enter Tryz.func142, Tryz.ntmps142
  go_wp2_with fail
  refine hpk.mono ?_
  rintro e w2 ⟨r, hr, rfl, hd2⟩
  have hr1 : 2 ≤ r ∧ r ≤ 5 := by simp at hr; omega
  obtain ⟨mn, rfl⟩ : ∃ mn : Nat, r = mn := ⟨r.toNat, by omega⟩
  have hd3 := hd1.trans hd2
  have k2 := k1.dr hd2 (by decide)
  have han := l03Any_any g mn w2 hd3.s' (by omega) (by omega)
  clear hpk hd1 hd2 k1 hr
  go_wp2_with fail
  refine han.mono ?_
  rintro e w3 ⟨P, A, n, c, xs, rfl, hP1, hP2, hn1, hn2, hO0, hd4⟩
  have hn7 : n ≤ 5 := by omega
  have k3 := (k2.dr hd4 (by decide)).alloc (.cells #[.int .i64 P, .slice A n c] 26)
  have hd5 := (hd3.trans hd4).alloc (.cells #[.int .i64 P, .slice A n c] 26)
  have hO5 := (hO0.base hd3.size).below ((Below.refl _ _).alloc (Nat.le_refl _) (.cells #[.int .i64 P, .slice A n c] 26))
  have kb3 : Blk (w3.alloc (.cells #[.int .i64 P, .slice A n c] 26)) w3.heap.size 26 #[.int .i64 P, .slice A n c] := Blk.new _ _ _
  have hbx : w.heap.size ≤ w3.heap.size := (hd3.trans hd4).size
  clear han k2 hd3 hd4 hO0
  go_wp2
  go_loopw [4] (fun i wr => ∃ (j : Nat) (ys : List Int), j ≤ n ∧ i = .int .i64 j ∧ Blk wr w.heap.size 26 #[.int .i64 0, .slice none 0 0] ∧ Blk wr w3.heap.size 26 #[.int .i64 P, .slice A n c] ∧ Own wr w.heap.size 2 A n c (ints ys) ∧ Dr g 143 w wr) (fun i _ => n - (intOf i).toNat)
  case atStart => exact ⟨0, xs, by omega, rfl, k3, kb3, hO5, hd5⟩
  case round =>
    obtain ⟨j, ys, hj, rfl, k, kb, hO, hD⟩ := hrel
    clear k3 kb3 hO5 hd5
    obtain ⟨q0, q1⟩ := kb.two
    by_cases hlt : j < n
    · have t1 : (j : Int) < (n : Int) := by omega
      have hnx := next_any g 12 wr hD.s' (by omega)
      go_wp2_with fail
      refine hnx.mono ?_
      rintro e w4 ⟨r, rfl, _, _, hd6⟩
      replace hD := hD.trans hd6
      replace k := k.dr hd6 (by decide)
      replace kb := kb.dr hd6 (by decide)
      replace hO := hO.dr hd6 (by decide)
      clear hnx hd6 q0 q1
      by_cases hr0 : 0 < r
      · have t2 : decide (0 < r) = true := by simpa using hr0
        rcases hO.form with ⟨_, hz⟩ | ⟨gA, rfl, hg1, hg2⟩
        · omega
        obtain ⟨u1, hc1⟩ := hO.cellI hlt
        have hf1 := hO.frozen_ j
        obtain ⟨q0, q1⟩ := kb.two
        have t3 : (0 : Int) ≤ (j : Int) := by omega
        by_cases hu : u1 = 0
        · have e5 : (u1 == 0) = true := by simp [hu]
          have hne1 := hO.ne_blk kb (by decide)
          have hne2 := hO.ne_blk k (by decide)
          simp only [Value.ownBlock, ne_eq, Option.some.injEq] at hne1 hne2
          obtain ⟨h7, hg7⟩ := hO.set_ j (.int .i64 1)
          rw [ints_set] at h7
          have d7 := hD.grown hO hg7
          have k7 := k.far (p := ⟨gA, j, none⟩) hne2 (.int .i64 1)
          have kb7 := kb.far (p := ⟨gA, j, none⟩) hne1 (.int .i64 1)
          clear k kb hO hD hg7
          go_wp2
          go_roundw
          case rel => exact ⟨j + 1, ys.set j 1, by omega, by go_num, k7, kb7, h7, d7⟩
          case measure => simp [intOf]; omega
        · have e5 : (u1 == 0) = false := by simp [hu]
          go_wp2
          go_roundw
          case rel => exact ⟨j + 1, ys, by omega, by go_num, k, kb, hO, hD⟩
          case measure => simp [intOf]; omega
      · have t2 : decide (0 < r) = false := by simpa using hr0
        clear hlt t1
        have hnx2 := next_any g 30 _ hD.s' (by omega)
        go_wp2_with fail
        refine hnx2.mono ?_
        rintro e w9 ⟨r9, rfl, _, _, hd9⟩
        have hD9 := hD.trans hd9
        have k9 := k.dr hd9 (by decide)
        have kb9 := kb.dr hd9 (by decide)
        have hO9 := hO.dr hd9 (by decide)
        clear hnx2 hD k kb hO hd9
        by_cases h9 : r9 = 0
        · have e9 : (r9 == 0) = true := by simp [h9]
          have hsp := l03Spoil_any g w9 hD9.s'
          go_wp2_with fail
          refine hsp.mono ?_
          rintro e w10 ⟨P2, A2, n2, c2, xs2, rfl, hP2, hn2, hO2, hd10⟩
          have hD10 := hD9.trans hd10
          have k10 := k9.dr hd10 (by decide)
          have hO10 := hO2.base (B' := w.heap.size) hD9.size
          obtain ⟨p0, p1⟩ := k10.two
          have f0 := k10.frozen 0
          have f1 := k10.frozen 1
          have kz := k10.set_ 0 (.int .i64 P2)
          clear hsp kb9 hO9 k9 hD9 hd10 hO2
          go_wp2
          exact bodyPost_ret (v := .agg #[.int .i64 P2, .slice A2 n2 c2]) (by simp [results, Tryz.results142, go_sem, p0, p1]) rfl ⟨P2, A2, n2, c2, xs2, rfl, hP2, hn2, (hO10.far k10 (by decide) 0 _).far kz (by decide) 1 _, (hD10.setNew (Nat.le_refl _) 0 _).setNew (Nat.le_refl _) 1 _⟩
        · have e9 : (r9 == 0) = false := by simp [h9]
          obtain ⟨p0, p1⟩ := k9.two
          obtain ⟨q0, q1⟩ := kb9.two
          have f0 := k9.frozen 0
          have f1 := k9.frozen 1
          have kz := k9.set_ 0 (.int .i64 P)
          clear kb9
          go_wp2
          exact bodyPost_ret (v := .agg #[.int .i64 P, .slice A n c]) (by simp [results, Tryz.results142, go_sem, p0, p1]) rfl ⟨P, A, n, c, ys, rfl, by omega, by omega, (hO9.far k9 (by decide) 0 _).far kz (by decide) 1 _, (hD9.setNew (Nat.le_refl _) 0 _).setNew (Nat.le_refl _) 1 _⟩
    · have t1 : decide ((j : Int) < (n : Int)) = false := by simp; omega
      have hnx2 := next_any g 30 _ hD.s' (by omega)
      go_wp2_with fail
      refine hnx2.mono ?_
      rintro e w9 ⟨r9, rfl, _, _, hd9⟩
      have hD9 := hD.trans hd9
      have k9 := k.dr hd9 (by decide)
      have kb9 := kb.dr hd9 (by decide)
      have hO9 := hO.dr hd9 (by decide)
      clear hnx2 hD k kb hO hd9
      by_cases h9 : r9 = 0
      · have e9 : (r9 == 0) = true := by simp [h9]
        have hsp := l03Spoil_any g w9 hD9.s'
        go_wp2_with fail
        refine hsp.mono ?_
        rintro e w10 ⟨P2, A2, n2, c2, xs2, rfl, hP2, hn2, hO2, hd10⟩
        have hD10 := hD9.trans hd10
        have k10 := k9.dr hd10 (by decide)
        have hO10 := hO2.base (B' := w.heap.size) hD9.size
        obtain ⟨p0, p1⟩ := k10.two
        have f0 := k10.frozen 0
        have f1 := k10.frozen 1
        have kz := k10.set_ 0 (.int .i64 P2)
        clear hsp kb9 hO9 k9 hD9 hd10 hO2
        go_wp2
        exact bodyPost_ret (v := .agg #[.int .i64 P2, .slice A2 n2 c2]) (by simp [results, Tryz.results142, go_sem, p0, p1]) rfl ⟨P2, A2, n2, c2, xs2, rfl, hP2, hn2, (hO10.far k10 (by decide) 0 _).far kz (by decide) 1 _, (hD10.setNew (Nat.le_refl _) 0 _).setNew (Nat.le_refl _) 1 _⟩
      · have e9 : (r9 == 0) = false := by simp [h9]
        obtain ⟨p0, p1⟩ := k9.two
        obtain ⟨q0, q1⟩ := kb9.two
        have f0 := k9.frozen 0
        have f1 := k9.frozen 1
        have kz := k9.set_ 0 (.int .i64 P)
        clear kb9
        go_wp2
        exact bodyPost_ret (v := .agg #[.int .i64 P, .slice A n c]) (by simp [results, Tryz.results142, go_sem, p0, p1]) rfl ⟨P, A, n, c, ys, rfl, by omega, by omega, (hO9.far k9 (by decide) 0 _).far kz (by decide) 1 _, (hD9.setNew (Nat.le_refl _) 0 _).setNew (Nat.le_refl _) 1 _⟩
set_option maxHeartbeats 3200000 in
set_option maxRecDepth 8000 in
theorem l02Vector_any (g : Nat) (p : Int) (n : Nat) (w : World) (hs : Src w g 143) (hp : p ≤ 1048576) (hn : n ≤ 1048576) :
    Calls Tryz.prog 289 #[.pointer (some ⟨g, 0, none⟩), .int .i64 p, .int .i64 n] w fun e w' => ∃ (A : Option Addr) (m c : Nat) (xs : List Int), e = .returned (.slice A m c) ∧ m ≤ n + 1 ∧ Own w' w.heap.size 2 A m c (ints xs) ∧ Dr g 143 w w' := by
  by_cases hp1 : p < 1
  · have d1 : decide (p < 1) = true := by simpa using hp1
    go_enter Tryz.func289, Tryz.ntmps289
    have hli := nextList_any g (3) n w hs (by omega) hn
    go_wp2_with fail
    refine hli.mono ?_
    rintro e w1 ⟨A, c, xs, rfl, hl, hx, hO, hd⟩
    have hnx := next_any g 24 w1 hd.s' (by omega)
    clear hli hx
    go_wp2_with fail
    refine hnx.mono ?_
    rintro e w2 ⟨r, rfl, _, _, hd2⟩
    replace hd := hd.trans hd2
    replace hO := hO.dr hd2 (by decide)
    clear hnx hd2
    by_cases h0 : r = 0
    · have e0 : (r == 0) = true := by simp [h0]
      go_wp2_with (first
        | (at_builtin; (refine wpList_app1 (cutW w2 w.heap.size) w2 24 2 _ _ Tryz.underlying24 info_i rfl (by omega) rfl _ _ rfl A n c _ _ (hO.mk_ hd.size) (by omega) rfl rfl rfl ?_; intro A9 c9 w9 hM9 hg9 _)))
      have hO9 := hM9.own_ (cutW_size hd.size)
      have d9 := hd.grown hO hg9
      clear hM9 hg9
      go_wp2
      go_ret
      exact ⟨A9, n + 1, c9, xs ++ [0], rfl, by omega, by simpa [ints] using hO9, d9⟩
    · have e0 : (r == 0) = false := by simp [h0]
      by_cases h1 : r = 1
      · have e1 : (r == 1) = true := by simp [h1]
        by_cases hn0 : 0 < n
        · have t1 : decide ((0 : Int) < (n : Int)) = true := by simp; omega
          rcases hO.form with ⟨_, hzz⟩ | ⟨g2, rfl, hga, hgb⟩
          · omega
          have hd3 := hd.alloc (.cells #[.int .i64 (-1), .int .i64 (3)] 2)
          have hO3 := hO.below ((Below.refl _ _).alloc (Nat.le_refl _) (.cells #[.int .i64 (-1), .int .i64 (3)] 2))
          have hpk := pick_any g w2.heap.size [-1, 3] _ hd3.s' (by rw [ints2]; exact Blk.new w2 2 _) (by simp) (by simp)
          clear hO hd
          go_wp2_with fail
          refine hpk.mono ?_
          rintro e w3 ⟨r3, _, rfl, hd4⟩
          have hd5 := hd3.trans hd4
          have hO5 := hO3.dr hd4 (by decide)
          obtain ⟨u1, hc1⟩ := hO5.cellI hn0
          have hf1 := hO5.frozen_ 0
          obtain ⟨h7, hg7⟩ := hO5.set_ 0 (.int .i64 r3)
          rw [ints_set] at h7
          have d7 := hd5.grown hO5 hg7
          have i1 : (0 : Int) < (n : Int) := by omega
          clear hpk hd3 hO3 hd4 hd5 hO5 hg7
          go_wp2
          go_ret
          exact ⟨_, n, c, _, rfl, by omega, h7, d7⟩
        · have t1 : decide ((0 : Int) < (n : Int)) = false := by simp; omega
          go_wp2
          go_ret
          exact ⟨A, n, c, xs, rfl, by omega, hO, hd⟩
      · have e1 : (r == 1) = false := by simp [h1]
        go_wp2
        go_ret
        exact ⟨A, n, c, xs, rfl, by omega, hO, hd⟩
  · have d1 : decide (p < 1) = false := by simpa using hp1
    go_enter Tryz.func289, Tryz.ntmps289
    have hli := nextList_any g (p) n w hs (by omega) hn
    go_wp2_with fail
    refine hli.mono ?_
    rintro e w1 ⟨A, c, xs, rfl, hl, hx, hO, hd⟩
    have hnx := next_any g 24 w1 hd.s' (by omega)
    clear hli hx
    go_wp2_with fail
    refine hnx.mono ?_
    rintro e w2 ⟨r, rfl, _, _, hd2⟩
    replace hd := hd.trans hd2
    replace hO := hO.dr hd2 (by decide)
    clear hnx hd2
    by_cases h0 : r = 0
    · have e0 : (r == 0) = true := by simp [h0]
      go_wp2_with (first
        | (at_builtin; (refine wpList_app1 (cutW w2 w.heap.size) w2 24 2 _ _ Tryz.underlying24 info_i rfl (by omega) rfl _ _ rfl A n c _ _ (hO.mk_ hd.size) (by omega) rfl rfl rfl ?_; intro A9 c9 w9 hM9 hg9 _)))
      have hO9 := hM9.own_ (cutW_size hd.size)
      have d9 := hd.grown hO hg9
      clear hM9 hg9
      go_wp2
      go_ret
      exact ⟨A9, n + 1, c9, xs ++ [0], rfl, by omega, by simpa [ints] using hO9, d9⟩
    · have e0 : (r == 0) = false := by simp [h0]
      by_cases h1 : r = 1
      · have e1 : (r == 1) = true := by simp [h1]
        by_cases hn0 : 0 < n
        · have t1 : decide ((0 : Int) < (n : Int)) = true := by simp; omega
          rcases hO.form with ⟨_, hzz⟩ | ⟨g2, rfl, hga, hgb⟩
          · omega
          have hd3 := hd.alloc (.cells #[.int .i64 (-1), .int .i64 (p)] 2)
          have hO3 := hO.below ((Below.refl _ _).alloc (Nat.le_refl _) (.cells #[.int .i64 (-1), .int .i64 (p)] 2))
          have hpk := pick_any g w2.heap.size [-1, p] _ hd3.s' (by rw [ints2]; exact Blk.new w2 2 _) (by simp) (by simp)
          clear hO hd
          go_wp2_with fail
          refine hpk.mono ?_
          rintro e w3 ⟨r3, _, rfl, hd4⟩
          have hd5 := hd3.trans hd4
          have hO5 := hO3.dr hd4 (by decide)
          obtain ⟨u1, hc1⟩ := hO5.cellI hn0
          have hf1 := hO5.frozen_ 0
          obtain ⟨h7, hg7⟩ := hO5.set_ 0 (.int .i64 r3)
          rw [ints_set] at h7
          have d7 := hd5.grown hO5 hg7
          have i1 : (0 : Int) < (n : Int) := by omega
          clear hpk hd3 hO3 hd4 hd5 hO5 hg7
          go_wp2
          go_ret
          exact ⟨_, n, c, _, rfl, by omega, h7, d7⟩
        · have t1 : decide ((0 : Int) < (n : Int)) = false := by simp; omega
          go_wp2
          go_ret
          exact ⟨A, n, c, xs, rfl, by omega, hO, hd⟩
      · have e1 : (r == 1) = false := by simp [h1]
        go_wp2
        go_ret
        exact ⟨A, n, c, xs, rfl, by omega, hO, hd⟩
set_option maxHeartbeats 3200000 in
set_option maxRecDepth 8000 in
theorem l03DrawVector_any (g : Nat) (P : Int) (A : Option Addr) (n c : Nat) (w : World) (hs : Src w g 143) (hp : P ≤ 1048576) (hn : n ≤ 1048576) :
    Calls Tryz.prog 143 #[.pointer (some ⟨g, 0, none⟩), .agg #[.int .i64 P, .slice A n c]] w fun e w' => ∃ (A : Option Addr) (m c : Nat) (xs : List Int), e = .returned (.slice A m c) ∧ m ≤ n + 1 ∧ Own w' w.heap.size 2 A m c (ints xs) ∧ Dr g 143 w w' := by
  have k0 : Blk (w.alloc (.cells #[.int .i64 P, .slice A n c] 26)) w.heap.size 26 #[.int .i64 P, .slice A n c] := Blk.new _ _ _
  have d0 := (Dr.refl hs).alloc (.cells #[.int .i64 P, .slice A n c] 26)
  have hv := l02Vector_any g P n _ d0.s' hp hn
  obtain ⟨q0, q1⟩ := k0.two
  go_enter Tryz.func143, Tryz.ntmps143
  go_wp2_with fail
  refine hv.mono ?_
  rintro e w2 ⟨A2, m, c2, xs, rfl, hm, hO, hd⟩
  go_wp2
  go_ret
  exact ⟨A2, m, c2, xs, rfl, hm, hO.base (by simp), d0.trans hd⟩
end Go.Proofs.YtggigolkncckoaaGreat
namespace Go.Proofs.YtggigolkncckoaaGreat
open Go.RowKit
/-- A list of lists of the call's own, in blocks from B on. -/
def OwnM (w : World) (B : Nat) (A : Option Addr) (n c : Nat) (xss : List (List Int)) : Prop := ∃ rows, Own w B 24 A n c rows ∧ Nest w B rows xss
section
variable {w w' w0 W : World} {B B' g : Nat} {T : TypeId} {A : Option Addr} {n c : Nat} {xss : List (List Int)}
theorem OwnM.dr (h : OwnM w B A n c xss) (d : Dr g T w w') (h1 : 24 ≠ T) (h2 : 2 ≠ T) : OwnM w' B A n c xss := by
  obtain ⟨rows, ho, hn⟩ := h
  exact ⟨rows, ho.dr d h1, hn.len, fun k hk => by obtain ⟨A1, c1, e, h3⟩ := hn.row k hk; exact ⟨A1, c1, e, h3.dr d h2⟩, hn.apart⟩
theorem OwnM.below (h : OwnM w B A n c xss) (hb : Below w.heap.size w w') : OwnM w' B A n c xss := by
  obtain ⟨rows, ho, hn⟩ := h; exact ⟨rows, ho.below hb, hn.below hb⟩
theorem OwnM.base (h : OwnM w B A n c xss) (hB : B' ≤ B) : OwnM w B' A n c xss := by
  obtain ⟨rows, ho, hn⟩ := h; exact ⟨rows, ho.base hB, hn.base hB⟩
theorem OwnM.rd (h : OwnM w B A n c xss) : RdII w A n xss := by
  obtain ⟨rows, ho, hn⟩ := h
  exact ⟨rows, ho.rd, hn.len, fun k hk => by obtain ⟨A', c', e, ho⟩ := hn.row k hk; exact ⟨A', c', e, ho.rd, ho.cap⟩⟩
theorem OwnM.cap (h : OwnM w B A n c xss) : n ≤ c := by obtain ⟨rows, ho, _⟩ := h; exact ho.cap
theorem OwnM.nil (w : World) (B : Nat) : OwnM w B none 0 0 [] := ⟨[], World.ownsRow_nil _ _ _ _, Nest.nil _ _⟩
theorem OwnM.empty (w : World) (hB : B ≤ w.heap.size) : OwnM (w.alloc (.cells #[] 24)) B (some ⟨w.heap.size, 0, none⟩) 0 0 [] := by
  refine ⟨[], ?_, Nest.nil _ _⟩
  have := (Mk.lit (E := 24) (Below.refl w.heap.size w) #[] (by simp)).2
  exact Own.base (by simpa using this) hB
theorem Nest.push {rows : List Value} {A1 : Option Addr} {m c1 K : Nat} {xs : List Int} (h : Nest w B rows xss) (hk : ∀ i g : Nat, (rows[i]?).bind Value.ownBlock = some g → g < K) (hr : Own w K 2 A1 m c1 (ints xs)) (hB : B ≤ K) :
    Nest w B (rows ++ [.slice A1 m c1]) (xss ++ [xs]) := by
  have hn : xs.length = m := by have := hr.len; rwa [ints_length] at this
  subst hn
  refine ⟨by simp [h.len], fun k hk => ?_, fun i j g hij hi => ?_⟩
  · by_cases hlt : k < xss.length
    · obtain ⟨A', c', e, ho⟩ := h.row k hlt
      rw [List.getElem_append_left hlt]
      exact ⟨A', c', by rw [List.getElem?_append_left (by rw [h.len]; exact hlt)]; exact e, ho⟩
    · have hk' : k = xss.length := by simp at hk; omega
      subst hk'
      simp only [List.getElem_append_right (Nat.le_refl _), Nat.sub_self, List.getElem_cons_zero]
      exact ⟨A1, c1, by rw [List.getElem?_append_right (by rw [h.len]; exact Nat.le_refl _), h.len, Nat.sub_self]; rfl, hr.base hB⟩
  · rcases Nat.lt_or_ge j rows.length with hj | hj
    · rw [List.getElem?_append_left (by omega)] at hi
      rw [List.getElem?_append_left hj]
      exact h.apart i j g hij hi
    · rcases Nat.lt_or_ge i rows.length with hil | hil
      · rw [List.getElem?_append_left hil] at hi
        have hg := hk i g hi
        rw [List.getElem?_append_right hj]
        by_cases hj0 : j - rows.length = 0
        · rw [hj0]
          intro he
          have := (World.ownsRow.lt hr g (by simpa using he)).1
          omega
        · rw [List.getElem?_eq_none (by simp; omega)]; simp
      · rw [List.getElem?_append_right hj, List.getElem?_eq_none (by simp; omega)]; simp
end
/-- Other rows of numbers and other blocks are as they were. -/
def KeptR (w w' : World) : Prop := (∀ (B : Nat) (A : Option Addr) (n c : Nat) (us : List Value), Own w B 2 A n c us → Own w' B 2 A n c us) ∧ ∀ (g : Nat) (t : TypeId) (cs : Array Value), Blk w g t cs → 24 ≠ t → Blk w' g t cs
/-- A drawn row is appended. -/
theorem wpList_pushRow {ops : Array Oper} {rest : List Oper} {o : Oper} {a : Act} {Q : Exit → Act → World → Prop} (W w0 w : World) (g : Nat) (T : TypeId)
    (hgd : o.guard = none) (s x : Operand) (ho : o.op = .call { callee := .builtin .append, args := #[s, x], argTypes := #[44, 44] })
    (A : Option Addr) (n c : Nat) (xss : List (List Int)) (A1 : Option Addr) (m c1 : Nat) (xs : List Int) (h : OwnM w0 W.heap.size A n c xss) (dW : Dr g T W w0) (d : Dr g T w0 w) (h1 : 24 ≠ T) (h2 : 2 ≠ T)
    (hr : Own w w0.heap.size 2 A1 m c1 (ints xs)) (hn : n ≤ 1099511627776)
    (hs : a.eval s = .slice A n c) (hx : a.eval x = .slice (some ⟨w.heap.size, 0, none⟩) 1 1)
    (k : ∀ A' c' w', OwnM w' W.heap.size A' (n + 1) c' (xss ++ [xs]) → Dr g T W w' → KeptR w w' → wpList Tryz.prog ops Q rest (a.put o.dst (.slice A' (n + 1) c')) w') :
    wpList Tryz.prog ops Q (o :: rest) a (w.alloc (.cells #[.slice A1 m c1] 24)) := by
  obtain ⟨rows, ho0, hn0⟩ := h
  have hblk := hn0.block
  have ho1 := ho0.dr d h1
  have hn1 : Nest w W.heap.size rows xss := ⟨hn0.len, fun k hk => by obtain ⟨A1, c1, e, h3⟩ := hn0.row k hk; exact ⟨A1, c1, e, h3.dr d h2⟩, hn0.apart⟩
  have hn2 := hn1.push (fun i g hg => (hblk i g hg).2) hr dW.size
  have dd := dW.trans d
  refine wpList_app1 (cutW w W.heap.size) w 44 24 (.slice none 0 0) 24 Tryz.underlying44 info_s rfl (by omega) hgd s x ho A n c rows (.slice A1 m c1) (ho1.mk_ dd.size) hn rfl hs hx ?_
  intro A' c' w' hM' hg _
  exact k A' c' w' ⟨_, hM'.own_ (cutW_size dd.size), hn2.grown ho1 (by decide) hg⟩ (dd.grown ho1 hg) ⟨fun B A2 n2 c2 us h2 => h2.grown hg (h2.ne ho1 (by decide)), fun g2 t cs h2 hne => h2.grown hg (ho1.ne_blk h2 hne)⟩
set_option maxHeartbeats 6400000 in
set_option maxRecDepth 8000 in
theorem l07Units_any (g : Nat) (P : Int) (A : Option Addr) (n c : Nat) (sq : List Int) (most : Nat) (w : World) (hs : Src w g 143) (HP : isP P = true) (hn : n ≤ 6) (ho : Own w 0 2 A n c (ints sq)) (hq : NumsL P sq) (hm : most ≤ 100) :
    Calls Tryz.prog 148 #[.pointer (some ⟨g, 0, none⟩), .agg #[.int .i64 P, .slice A n c], .int .i64 most] w fun e w' => ∃ (A' : Option Addr) (m c' : Nat) (L : List (List Int)), e = .returned (.slice A' m c') ∧ m ≤ most ∧ (∀ v ∈ L, v.length = n ∧ NumsL P v ∧ ¬ pairL P sq v v = 0) ∧ OwnM w' w.heap.size A' m c' L ∧ Dr g 143 w w' := by
  obtain ⟨hp3, hp2⟩ := isP_ge HP
  have hp : 2 ≤ P := by omega
  have HQ := Lib.hid hq
  have k0 : Blk (w.alloc (.cells #[.int .i64 P, .slice A n c] 26)) w.heap.size 26 #[.int .i64 P, .slice A n c] := Blk.new _ _ _
  have d0 := (Dr.refl hs).alloc (.cells #[.int .i64 P, .slice A n c] 26)
  have o0 := ho.below ((Below.refl _ _).alloc (Nat.le_refl _) (.cells #[.int .i64 P, .slice A n c] 26))
  have k1 := k0.alloc (.cells #[] 24)
  have d1 := d0.alloc (.cells #[] 24)
  have o1 := o0.below ((Below.refl _ _).alloc (Nat.le_refl _) (.cells #[] 24))
  have l1 := OwnM.empty (w.alloc (.cells #[.int .i64 P, .slice A n c] 26)) (B := w.heap.size) (by simp)
  have e9 : (w.alloc (.cells #[.int .i64 P, .slice A n c] 26)).heap.size = w.heap.size + 1 := by simp
  rw [e9] at l1
  have hnx := next_any g ((most : Int) + 1) _ d1.s' (by omega)
  clear hq ho k0 d0 o0 HP
  go_enter Tryz.func148, Tryz.ntmps148
  go_wp2_with fail
  refine hnx.mono ?_
  rintro e w2 ⟨r, rfl, hr1, hr2, hd2⟩
  obtain ⟨rn, rfl⟩ : ∃ rn : Nat, r = rn := ⟨r.toNat, by omega⟩
  have hr3 := hr2 (by omega)
  have D2 := d1.trans hd2
  have K2 := k1.dr hd2 (by decide)
  have O2 := o1.dr hd2 (by decide)
  have L2 := l1.dr hd2 (by decide) (by decide)
  clear hnx d1 k1 o1 l1 hd2
  go_wp2
  go_loopw [7, 8] (fun l i wr => ∃ (kk m : Nat) (A0 : Option Addr) (c0 : Nat) (L : List (List Int)), m + kk ≤ most ∧ i = .int .i64 kk ∧ l = .slice A0 m c0 ∧ (∀ v ∈ L, v.length = n ∧ NumsL P v ∧ ¬ pairL P sq v v = 0) ∧ OwnM wr w.heap.size A0 m c0 L ∧ Dr g 143 w wr ∧ Blk wr w.heap.size 26 #[.int .i64 P, .slice A n c] ∧ Own wr 0 2 A n c (ints sq)) (fun _ i _ => (intOf i).toNat)
  case atStart => exact ⟨rn, 0, _, _, [], by omega, rfl, rfl, by simp, L2, D2, K2, O2⟩
  case round =>
    obtain ⟨kk, m, A0, c0, L, hmk, rfl, rfl, hTL, hL, hD, hK, hO⟩ := hrel
    clear L2 D2 K2 O2
    obtain ⟨wo, rfl⟩ : ∃ W, W = wr := ⟨_, rfl⟩
    have HTL := Lib.hid hTL
    have HL := Lib.hid hL
    have HD := Lib.hid hD
    clear hTL hL
    by_cases hk0 : 0 < kk
    · have t1 : decide ((0 : Int) < (kk : Int)) = true := by simp; omega
      have W5 : wrap64 ((kk : Int) - 1) = ((kk - 1 : Nat) : Int) := by unfold wrap64; omega
      obtain ⟨q0, q1⟩ := hK.two
      have hli := nextList_any g P n wo hD.s' (by omega) (by omega)
      go_wp2_with fail
      refine hli.mono ?_
      rintro e w3 ⟨A1, c1, v, rfl, hvl, hvx, hv, hd3⟩
      have HVN0 := nums_of (by omega) hvx
      have k3 := hK.dr hd3 (by decide)
      have o3 := hO.dr hd3 (by decide)
      clear hli hvx q0 q1 hK hO hD
      go_wp2
      go_loopw [9, 10] (fun l i wi => ∃ (j : Nat) (A1 : Option Addr) (c1 : Nat) (v : List Int), j ≤ 20 ∧ i = .int .i64 j ∧ l = .slice A1 n c1 ∧ v.length = n ∧ NumsL P v ∧ Own wi wo.heap.size 2 A1 n c1 (ints v) ∧ Dr g 143 wo wi ∧ Blk wi w.heap.size 26 #[.int .i64 P, .slice A n c] ∧ Own wi 0 2 A n c (ints sq)) (fun _ i _ => 20 - (intOf i).toNat)
      case atStart => exact ⟨0, A1, c1, v, by omega, rfl, rfl, hvl, HVN0, hv, hd3, k3, o3⟩
      case round =>
        obtain ⟨j, A1, c1, v, hj, rfl, rfl, hvl, hvn, hv, di, k3, o3⟩ := hrel
        have HVN := Lib.hid hvn
        have HVL := Lib.hid hvl
        clear hvn hvl
        by_cases hj2 : j < 20
        · have t2 : decide ((j : Int) < 20) = true := by simp; omega
          have hp1' := l03Pair_any P A n c sq A1 c1 v A1 c1 v _ hp hp2 hn o3.rd HQ.out hv.rd HVN.out hv.rd HVN.out
          obtain ⟨q0, q1⟩ := k3.two
          obtain ⟨pz, hpz⟩ : ∃ x, x = pairL P sq v v := ⟨_, rfl⟩
          rw [← hpz] at hp1'
          clear hpz
          by_cases hz0 : pz = 0
          · have e5 : (pz == 0) = true := by simp [hz0]
            go_wp2_with fail
            refine hp1'.mono ?_
            rintro e w7 ⟨rfl, hb7⟩
            replace di := di.then hb7
            replace k3 := k3.below hb7 k3.lt
            replace o3 := o3.below hb7
            clear hp1' hb7 q0 q1 hv HVN HVL
            have hli := nextList_any g P n w7 di.s' (by omega) (by omega)
            obtain ⟨q0, q1⟩ := k3.two
            go_wp2_with fail
            refine hli.mono ?_
            rintro e w10 ⟨A2, c2, v2, rfl, hvl2, hvx2, hv2, hd10⟩
            have hvn2 := nums_of (by omega) hvx2
            have k10 := k3.dr hd10 (by decide)
            have o10 := o3.dr hd10 (by decide)
            have hv10 := hv2.base (B' := wo.heap.size) di.size
            have di10 := di.trans hd10
            clear hli hvx2 q0 q1 k3 o3 di hv2 hd10
            go_wp2
            go_roundw
            case rel => exact ⟨j + 1, A2, c2, v2, by omega, by go_num, rfl, hvl2, hvn2, hv10, di10, k10, o10⟩
            case measure => simp [intOf]; omega
          · have e5 : (pz == 0) = false := by simp [hz0]
            go_wp2_with fail
            refine hp1'.mono ?_
            rintro e w7 ⟨rfl, hb7⟩
            replace di := di.then hb7
            replace k3 := k3.below hb7 k3.lt
            replace o3 := o3.below hb7
            replace hv := hv.below hb7
            clear hp1' hb7 q0 q1
            have hp2' := l03Pair_any P A n c sq A1 c1 v A1 c1 v _ hp hp2 hn o3.rd HQ.out hv.rd HVN.out hv.rd HVN.out
            obtain ⟨q0, q1⟩ := k3.two
            by_cases hz : pairL P sq v v = 0
            · rw [hz] at hp2'
              go_wp2_with fail
              refine hp2'.mono ?_
              rintro e w8 ⟨rfl, hb8⟩
              have d8 := di.then hb8
              have k8 := k3.below hb8 k3.lt
              have o8 := o3.below hb8
              have HL8 := Lib.hid (HL.out.dr d8 (by decide) (by decide))
              have D8 := HD.out.trans d8
              clear hp2' di k3 o3 hv hb8
              go_wp2
              go_roundw
              case rel => exact ⟨kk - 1, m, A0, c0, L, by omega, by go_num, rfl, HTL.out, HL8.out, D8, k8, o8⟩
              case measure => simp [intOf]; omega
            · have HZ := Lib.hid hz
              obtain ⟨pv, hpv⟩ : ∃ x, x = pairL P sq v v := ⟨_, rfl⟩
              rw [← hpv] at hp2' hz
              have e9 : (pv != 0) = true := by simp [hz]
              clear hpv hz
              go_wp2_with fail
              refine hp2'.mono ?_
              rintro e w8 ⟨rfl, hb8⟩
              have D8 := Lib.hid (di.then hb8)
              have K8 := Lib.hid (k3.below hb8 k3.lt)
              have O8 := Lib.hid (o3.below hb8)
              have V8 := Lib.hid (hv.below hb8)
              clear hp2' di k3 o3 hv hb8 q0 q1
              go_wp2_with (at_builtin; (refine wpList_pushRow w wo w8 g 143 rfl _ _ rfl A0 m c0 L A1 n c1 v HL.out HD.out D8.out (by decide) (by decide) V8.out (by omega) rfl ?_ ?_; (go_simp); intro A9 c9 w9 h9 d9 kp))
              have HL9 := Lib.hid h9
              have D9 := Lib.hid d9
              have K9 := kp.2 _ _ _ K8.out (by decide)
              have O9 := kp.1 _ _ _ _ _ O8.out
              have HT9 := Lib.hid (show ∀ u ∈ L ++ [v], u.length = n ∧ NumsL P u ∧ ¬ pairL P sq u u = 0 from fun u hu => by
                rcases List.mem_append.1 hu with hu | hu
                · exact HTL.out u hu
                · rw [List.mem_singleton.1 hu]; exact ⟨HVL.out, HVN.out, HZ.out⟩)
              clear h9 d9 kp
              go_wp2
              go_roundw
              case rel => exact ⟨kk - 1, m + 1, A9, c9, L ++ [v], by omega, by go_num, rfl, HT9.out, HL9.out, D9.out, K9, O9⟩
              case measure => simp [intOf]; omega
        · have t2 : decide ((j : Int) < 20) = false := by simp; omega
          have hp2' := l03Pair_any P A n c sq A1 c1 v A1 c1 v _ hp hp2 hn o3.rd HQ.out hv.rd HVN.out hv.rd HVN.out
          obtain ⟨q0, q1⟩ := k3.two
          by_cases hz : pairL P sq v v = 0
          · rw [hz] at hp2'
            go_wp2_with fail
            refine hp2'.mono ?_
            rintro e w8 ⟨rfl, hb8⟩
            have d8 := di.then hb8
            have k8 := k3.below hb8 k3.lt
            have o8 := o3.below hb8
            have HL8 := Lib.hid (HL.out.dr d8 (by decide) (by decide))
            have D8 := HD.out.trans d8
            clear hp2' di k3 o3 hv hb8
            go_wp2
            go_roundw
            case rel => exact ⟨kk - 1, m, A0, c0, L, by omega, by go_num, rfl, HTL.out, HL8.out, D8, k8, o8⟩
            case measure => simp [intOf]; omega
          · have HZ := Lib.hid hz
            obtain ⟨pv, hpv⟩ : ∃ x, x = pairL P sq v v := ⟨_, rfl⟩
            rw [← hpv] at hp2' hz
            have e9 : (pv != 0) = true := by simp [hz]
            clear hpv hz
            go_wp2_with fail
            refine hp2'.mono ?_
            rintro e w8 ⟨rfl, hb8⟩
            have D8 := Lib.hid (di.then hb8)
            have K8 := Lib.hid (k3.below hb8 k3.lt)
            have O8 := Lib.hid (o3.below hb8)
            have V8 := Lib.hid (hv.below hb8)
            clear hp2' di k3 o3 hv hb8 q0 q1
            go_wp2_with (at_builtin; (refine wpList_pushRow w wo w8 g 143 rfl _ _ rfl A0 m c0 L A1 n c1 v HL.out HD.out D8.out (by decide) (by decide) V8.out (by omega) rfl ?_ ?_; (go_simp); intro A9 c9 w9 h9 d9 kp))
            have HL9 := Lib.hid h9
            have D9 := Lib.hid d9
            have K9 := kp.2 _ _ _ K8.out (by decide)
            have O9 := kp.1 _ _ _ _ _ O8.out
            have HT9 := Lib.hid (show ∀ u ∈ L ++ [v], u.length = n ∧ NumsL P u ∧ ¬ pairL P sq u u = 0 from fun u hu => by
              rcases List.mem_append.1 hu with hu | hu
              · exact HTL.out u hu
              · rw [List.mem_singleton.1 hu]; exact ⟨HVL.out, HVN.out, HZ.out⟩)
            clear h9 d9 kp
            go_wp2
            go_roundw
            case rel => exact ⟨kk - 1, m + 1, A9, c9, L ++ [v], by omega, by go_num, rfl, HT9.out, HL9.out, D9.out, K9, O9⟩
            case measure => simp [intOf]; omega
    · have t1 : decide ((0 : Int) < (kk : Int)) = false := by simp; omega
      go_wp2
      go_ret
      exact ⟨A0, m, c0, L, rfl, by omega, HTL.out, HL.out, HD.out⟩
end Go.Proofs.YtggigolkncckoaaGreat
namespace Go.Proofs.YtggigolkncckoaaGreat
open Go.RowKit
/-- May the first m operations of the region go in the text's order? R: those that each waits for, directly or through others. -/
def tasksOkS (ops : Array Oper) (m sz : Nat) (R : List (List Nat)) : Bool :=
  Region.noSelect ops && m ≤ ops.size &&
  (List.range ops.size).all (fun j => match ops[j]? with
    | none => false
    | some o => (R.getD j []).all (fun i => o.after.toList.any fun e => Region.binds .any e && (decide (e.on < j)) && (e.on == i || (R.getD e.on []).contains i)) &&
      if j < m then
        (o.after.toList.all fun e => !Region.binds .any e || decide (e.on < j)) &&
        (match o.dst with
          | none => true
          | some d => decide (d < sz) && (List.range m).all fun i => i == j || dstOf ops i != some d) &&
        (o.looksAt ops).all (fun t => (List.range m).all fun i => dstOf ops i != some t || (R.getD j []).contains i)
      else (List.range m).all fun i => (R.getD j []).contains i)
section
variable {P : Program} {ops : Array Oper} {Q : Exit → Act → World → Prop}
theorem listed_reachS {ops : Array Oper} {m sz : Nat} {R : List (List Nat)} (hok : tasksOkS ops m sz R = true) (L : Nat → Bool)
    (hL : ∀ (j : Nat) (o : Oper), ops[j]? = some o → L j = true → ∀ e ∈ o.after, Region.binds .any e = true → L e.on = true) :
    ∀ (j : Nat) (o : Oper), ops[j]? = some o → (∀ e ∈ o.after, Region.binds .any e = true → L e.on = true) → ∀ i ∈ R.getD j [], L i = true := by
  intro j
  induction j using Nat.strongRecOn with
  | ind j ih =>
    intro o ho hal i hi
    have hlt : j < ops.size := (Array.getElem?_eq_some_iff.1 ho).1
    unfold tasksOkS at hok
    simp only [Bool.and_eq_true] at hok
    have h1 := List.all_eq_true.1 hok.2 j (by simpa using hlt)
    rw [ho] at h1
    simp only [Bool.and_eq_true] at h1
    have h2 := List.all_eq_true.1 h1.1 i hi
    obtain ⟨e, he, hc⟩ := List.any_eq_true.1 h2
    replace he : e ∈ o.after := by simpa using he
    simp only [Bool.and_eq_true, Bool.or_eq_true, decide_eq_true_eq, beq_iff_eq, List.contains_iff_mem] at hc
    obtain ⟨⟨hb, hej⟩, hc⟩ := hc
    have hle := hal e he hb
    rcases hc with rfl | hc
    · exact hle
    · have hes : e.on < ops.size := by omega
      exact ih e.on hej _ (Array.getElem?_eq_getElem hes) (fun e' he' hb' => hL e.on _ (Array.getElem?_eq_getElem hes) hle e' he' hb') i hc
theorem reach_ltS {ops : Array Oper} {m sz : Nat} {R : List (List Nat)} (hok : tasksOkS ops m sz R = true) : ∀ j, j < ops.size → ∀ i ∈ R.getD j [], i < j := by
  intro j
  induction j using Nat.strongRecOn with
  | ind j ih =>
    intro hlt i hi
    unfold tasksOkS at hok
    simp only [Bool.and_eq_true] at hok
    have h1 := List.all_eq_true.1 hok.2 j (by simpa using hlt)
    rw [Array.getElem?_eq_getElem hlt] at h1
    simp only [Bool.and_eq_true] at h1
    have h2 := List.all_eq_true.1 h1.1 i hi
    obtain ⟨e, he, hc⟩ := List.any_eq_true.1 h2
    simp only [Bool.and_eq_true, Bool.or_eq_true, decide_eq_true_eq, beq_iff_eq, List.contains_iff_mem] at hc
    obtain ⟨⟨hb, hej⟩, hc⟩ := hc
    rcases hc with rfl | hc
    · exact hej
    · have := ih e.on hej (by omega) i hc
      omega
theorem tasks_specS {ops : Array Oper} {m sz : Nat} {R : List (List Nat)} (hok : tasksOkS ops m sz R = true) :
    m ≤ ops.size ∧ (∀ (j : Nat) (o : Oper), ops[j]? = some o → j < m → (∀ e ∈ o.after, Region.binds .any e = true → e.on < j) ∧ (∀ d, o.dst = some d → d < sz ∧ ∀ i, i < m → i ≠ j → dstOf ops i ≠ some d) ∧
      ∀ t ∈ o.looksAt ops, ∀ i, i < m → dstOf ops i = some t → i ∈ R.getD j []) ∧ (∀ (j : Nat), j < ops.size → m ≤ j → ∀ i, i < m → i ∈ R.getD j []) := by
  unfold tasksOkS at hok
  simp only [Bool.and_eq_true, decide_eq_true_eq] at hok
  obtain ⟨⟨_, hm⟩, hall⟩ := hok
  refine ⟨hm, fun j o ho hj => ?_, fun j hlt hj i hi => ?_⟩
  · have hlt : j < ops.size := (Array.getElem?_eq_some_iff.1 ho).1
    have h1 := List.all_eq_true.1 hall j (by simpa using hlt)
    rw [ho] at h1
    simp only [Bool.and_eq_true, if_pos hj] at h1
    obtain ⟨_, ⟨h2, h3⟩, h4⟩ := h1
    refine ⟨fun e he hb => ?_, fun d hd => ?_, fun t ht i hi hd => ?_⟩
    · have := List.all_eq_true.1 h2 e (by simpa using he)
      simpa [hb] using this
    · rw [hd] at h3
      simp only [Bool.and_eq_true, decide_eq_true_eq] at h3
      refine ⟨h3.1, fun i hi hne => ?_⟩
      have := List.all_eq_true.1 h3.2 i (by simpa using hi)
      simpa [hne] using this
    · have := List.all_eq_true.1 (List.all_eq_true.1 h4 t ht) i (by simpa using hi)
      simpa [hd] using this
  · have h1 := List.all_eq_true.1 hall j (by simpa using hlt)
    rw [Array.getElem?_eq_getElem hlt] at h1
    simp only [Bool.and_eq_true, if_neg (Nat.not_lt.2 hj)] at h1
    have := List.all_eq_true.1 h1.2 i (by simpa using hi)
    simpa using this
theorem wp_moveS {o : Oper} {a1 a2 : Act} {w : World} {R : Value → World → Prop} (he : execOp a2.eval o = execOp a1.eval o) (hs : ∀ d, o.dst = some d → d < a1.tmps.size)
    (h : o.wp P a1 w (fun a' w' => ∃ v, (∀ d, o.dst = some d → a'.tmps[d]? = some v) ∧ a'.defers = a1.defers ∧ R v w') NoWay) : o.wp P a2 w (fun a' w' => ∃ v, a' = a2.put o.dst v ∧ R v w') Q := by
  have key : ∀ (u : Value) (w' : World), (∃ v, (∀ d, o.dst = some d → (a1.put o.dst u).tmps[d]? = some v) ∧ (a1.put o.dst u).defers = a1.defers ∧ R v w') → ∃ v, a2.put o.dst u = a2.put o.dst v ∧ R v w' := by
    rintro u w' ⟨v, hv, _, hR⟩
    cases hd : o.dst with
    | none => exact ⟨v, rfl, hR⟩
    | some d =>
      refine ⟨u, rfl, ?_⟩
      have h1 := hv d hd
      have h2 := hs d hd
      rw [hd] at h1
      simp [Act.put, h2] at h1
      exact h1 ▸ hR
  unfold Oper.wp at *
  rw [he]
  generalize (execOp a1.eval o).run P w = r at *
  cases r with
  | ok n w' =>
    cases n <;> simp only [Oper.upon] at h ⊢
    case value u => exact key _ _ h
    case skip => exact key _ _ h
    case defer dd =>
      obtain ⟨v, _, h, _⟩ := h
      have h1 := congrArg List.length h
      cases hd : o.dst <;> simp [Act.put, hd] at h1
    case enter f args =>
      refine Calls.mono h fun e w'' he => ?_
      cases e with
      | returned u => exact key _ _ he
      | panicked c => exact absurd he id
      | outgrown => exact absurd he NoWay.lets
    case row row args => exact Rows.mono h fun u w'' he => key _ _ he
  | halt x w' =>
    cases x <;> simp only [Oper.upon] at h ⊢
    case panic u => exact absurd h id
/-- What is to be shown of operation j. -/
def ObS (P : Program) (ops : Array Oper) (S : World → Prop) (R C : List (List Nat)) (Rel : World → World → Prop) (m : Nat) (V : (Nat → Value) → List VP) (x : Nat → Value) (a0 : Act) (j : Nat) : Prop :=
  ∀ w, S w → (∀ i ∈ availR R C m j, ((V x).getD i VAny).p (x i) w) →
    wpOp P ops NoWay j (fun a' w' => ∃ v, (∀ d, dstOf ops j = some d → a'.tmps[d]? = some v) ∧ a'.defers = a0.defers ∧ ((V x).getD j VAny).p v w' ∧ StepR C Rel j w w') (putS ops x a0 j) w
theorem tasks_goS {m : Nat} {Rel : World → World → Prop} {R C : List (List Nat)} {V : (Nat → Value) → List VP} {S : World → Prop} {a0 : Act} (hok : tasksOkS ops m a0.tmps.size R = true)
    (hdep : ∀ x x' j, (∀ i ∈ R.getD j [], x i = x' i) → (V x).getD j VAny = (V x').getD j VAny) (hweak : ∀ i, i < m → (C.getD i []).isEmpty = false → ∀ k, k < m → k ≠ i → i ∉ R.getD k [] → k ∉ C.getD i [] → ∀ x v w w', ((V x).getD k VAny).p v w → Rel w w' → ((V x).getD k VAny).p v w') (hSt : ∀ j w w', S w → StepR C Rel j w w' → S w') (hob : ∀ x j, j < m → ObS P ops S R C Rel m V x a0 j)
    (hend : ∀ x w', S w' → (∀ i ∈ endR C m, ((V x).getD i VAny).p (x i) w') → wpAny P .any ops Q (ops.size - m) (listedTo ops.size m) (putS ops x a0 m) w') :
    ∀ (c : Nat) (U : List Nat) (listed : Array Bool) (w : World) (x : Nat → Value), U.length = c → U.Nodup → (∀ i, i ∈ U ↔ i < m ∧ listed.getD i false = false) → listed.size = ops.size →
      (∀ i, m ≤ i → i < ops.size → listed.getD i false = false) → (∀ (j : Nat) (o : Oper), ops[j]? = some o → listed.getD j false = true → ∀ e ∈ o.after, Region.binds .any e = true → listed.getD e.on false = true) →
      S w → (∀ i, i < m → listed.getD i false = true → (∀ j, j < m → i ∈ C.getD j [] → listed.getD j false = false) → ((V x).getD i VAny).p (x i) w) → wpAny P .any ops Q (ops.size - m + c) listed (putD ops (fun i => listed.getD i false) x a0 m) w := by
  obtain ⟨hmn, hspec, htail⟩ := tasks_specS hok
  have hsel : Region.noSelect ops = true := by unfold tasksOkS at hok; simp only [Bool.and_eq_true] at hok; exact hok.1.1
  intro c
  induction c with
  | zero =>
    intro U listed w x hU hnd hmem hsz hun hcl hS hV
    obtain rfl : U = [] := List.eq_nil_of_length_eq_zero hU
    have hall : ∀ i, i < m → listed.getD i false = true := fun i hi => by
      cases h : listed.getD i false
      · exact absurd ((hmem i).2 ⟨hi, h⟩) (by simp)
      · rfl
    have hl : listed = listedTo ops.size m := by
      apply Array.ext
      · simp [listedTo, hsz]
      · intro i h1 h2
        have e : listed.getD i false = listed[i] := by simp [Array.getD, h1]
        by_cases hi : i < m
        · have := hall i hi
          rw [e] at this
          simp [listedTo, this, hi]
        · have := hun i (by omega) (by omega)
          rw [e] at this
          simp [listedTo, this, hi]
    rw [Nat.add_zero, putD_congr (ops := ops) _ (fun _ => true) x x a0 m (fun i hi => ⟨hall i hi, fun _ => rfl⟩), hl]
    exact hend x w hS (fun i hi => hV i (endR_spec.1 hi).1 (hall i (endR_spec.1 hi).1) (fun j hj hc => absurd hc ((endR_spec.1 hi).2 j hj)))
  | succ c ih =>
    intro U listed w x hU hnd hmem hsz hun hcl hS hV
    have hne : U ≠ [] := fun e => by rw [e] at hU; simp at hU
    show (_ → _) ∧ _
    refine ⟨fun hr => ?_, fun i hi => ?_⟩
    · exfalso
      obtain ⟨i, hiU, hmin⟩ := min_mem U hne
      obtain ⟨him, hil⟩ := (hmem i).1 hiU
      have hlt : i < ops.size := by omega
      have : i ∈ Region.ready .any ops listed := mem_ready.2 ⟨by simpa [Array.getD, hsz, hlt] using hil, _, Array.getElem?_eq_getElem hlt, fun e he hb => by
        have hlti := (hspec i _ (Array.getElem?_eq_getElem hlt) him).1 e he hb
        cases h : listed.getD e.on false
        · have := hmin e.on ((hmem _).2 ⟨by omega, h⟩); omega
        · rfl⟩
      rw [hr] at this
      cases this
    · obtain ⟨hil, o, ho, hdeps⟩ := mem_ready.1 hi
      have hlt : i < ops.size := (Array.getElem?_eq_some_iff.1 ho).1
      have hil' : listed.getD i false = false := by simpa [Array.getD, hsz, hlt] using hil
      have hreach := listed_reachS hok (fun i => listed.getD i false) hcl i o ho hdeps
      have him : i < m := by
        rcases Nat.lt_or_ge i m with h | h
        · exact h
        · exfalso
          obtain ⟨k, hk⟩ := List.exists_mem_of_ne_nil U hne
          obtain ⟨hkm, hkl⟩ := (hmem k).1 hk
          have := hreach k (htail i hlt h k hkm)
          rw [hkl] at this; cases this
      obtain ⟨_, hdd, hlook⟩ := hspec i o ho him
      have hdst : dstOf ops i = o.dst := by simp [dstOf, ho]
      have hso : ∀ cs b, o.op ≠ .select cs b := fun cs b => Region.noSelect_spec hsel i o cs b ho
      -- the two frames agree on what o looks at
      have hagree : ∀ t ∈ o.looksAt ops, (putD ops (fun i => listed.getD i false) x a0 m).tmps[t]? = (putS ops x a0 i).tmps[t]? := fun t ht => by
        by_cases hex : ∃ k, k < m ∧ dstOf ops k = some t
        · obtain ⟨k, hkm, hkd⟩ := hex
          have hkR := hlook t ht k hkm hkd
          have hki := reach_ltS hok i hlt k hkR
          have hkl := hreach k hkR
          have hks : k < ops.size := by omega
          have hkd' : ops[k].dst = some t := by
            have h0 := hkd
            simp only [dstOf, Array.getElem?_eq_getElem hks, Option.bind_some] at h0
            exact h0
          obtain ⟨hdsz', hu'⟩ := (hspec k _ (Array.getElem?_eq_getElem hks) hkm).2.1 t hkd'
          rw [putD_at _ _ _ _ k hkd hkl hdsz' m hkm (fun l hl hlk => hu' l hl hlk)]
          unfold putS
          rw [putD_at _ _ _ _ k hkd rfl hdsz' i hki (fun l hl hlk => hu' l (by omega) hlk)]
        · rw [putD_other _ _ _ _ m (fun k hk hkd => absurd ⟨k, hk, hkd⟩ hex)]
          unfold putS
          rw [putD_other _ _ _ _ i (fun k hk hkd => absurd ⟨k, by omega, hkd⟩ hex)]
      have hob' := hob x i him w hS (fun k hk => by
        obtain ⟨hkR, hkC⟩ := availR_spec.1 hk
        refine hV k (by have := reach_ltS hok i hlt k hkR; omega) (hreach k hkR) (fun j hj hc => ?_)
        rcases hkC j hj hc with rfl | hij
        · exact hil'
        · cases hjl : listed.getD j false
          · rfl
          · have hjs : j < ops.size := by omega
            have := listed_reachS hok (fun i => listed.getD i false) hcl j _ (Array.getElem?_eq_getElem hjs) (hcl j _ (Array.getElem?_eq_getElem hjs) hjl) i hij
            rw [hil'] at this; cases this)
      have hsz1 := putD_size (ops := ops) (fun _ => true) x a0 i
      -- what comes behind
      have next : ∀ v w', ((V x).getD i VAny).p v w' → StepR C Rel i w w' → wpAny P .any ops Q (ops.size - m + c) (listed.setIfInBounds i true) ((putD ops (fun i => listed.getD i false) x a0 m).put o.dst v) w' := fun v w' hv hb => by
        have hput := putD_put (ops := ops) (fun k => listed.getD k false) (fun k => (listed.setIfInBounds i true).getD k false) x (fun k => if k = i then v else x k) a0 i hil'
          (by simp [hsz, hlt]) (fun k hk => ⟨by rw [getD_set_ne _ (Ne.symm hk)], by simp [hk]⟩) m him
          (fun d' k hk hki hd' => (hdd d' (hdst ▸ hd')).2 k hk hki)
        simp only [if_true] at hput
        rw [← hdst, hput]
        refine ih (U.erase i) _ _ _ ?_ (hnd.erase _) (fun k => ?_) (by simpa using hsz) (fun k h1 h2 => ?_) (fun j oj hoj hj e he hb' => ?_) (hSt i _ _ hS hb) (fun k hk hkl hcons => ?_)
        · rw [List.length_erase_of_mem ((hmem i).2 ⟨him, hil'⟩), hU]; rfl
        · rw [hnd.mem_erase_iff, hmem]
          by_cases hk : k = i
          · subst hk; simp [hsz, hlt]
          · rw [getD_set_ne _ (Ne.symm hk)]; simp [hk]
        · rw [getD_set_ne _ (by omega)]; exact hun k h1 h2
        · by_cases hji : j = i
          · subst hji
            rw [ho] at hoj; injection hoj with hoj; subst hoj
            exact getD_set_true (hdeps e he hb')
          · rw [getD_set_ne _ (Ne.symm hji)] at hj
            exact getD_set_true (hcl j oj hoj hj e he hb')
        · by_cases hki : k = i
          · subst hki
            rw [hdep _ x k (fun l hl => by have := reach_ltS hok k hlt l hl; simp only [show l ≠ k by omega, if_false])]
            simpa using hv
          · rw [getD_set_ne _ (Ne.symm hki)] at hkl
            have hks : k < ops.size := by omega
            have hdk : (V fun l => if l = i then v else x l).getD k VAny = (V x).getD k VAny := hdep _ x k (fun l hl => by
              have hll := listed_reachS hok (fun i => listed.getD i false) hcl k _ (Array.getElem?_eq_getElem hks) (hcl k _ (Array.getElem?_eq_getElem hks) hkl) l hl
              have hne : l ≠ i := fun e => by rw [e] at hll; rw [hil'] at hll; cases hll
              simp only [hne, if_false])
            simp only [hki, if_false]
            rw [hdk]
            have hb0 : ∀ j, j < m → k ∈ C.getD j [] → listed.getD j false = false := fun j hj hc => by
              have h1 := hcons j hj hc
              by_cases hji : j = i
              · rw [hji]; exact hil'
              · rwa [getD_set_ne _ (Ne.symm hji)] at h1
            have hkC : k ∉ C.getD i [] := fun hc => by
              have h1 := hcons i him hc
              simp [hsz, hlt] at h1
            have hiR : i ∉ R.getD k [] := fun hik => by
              have := listed_reachS hok (fun i => listed.getD i false) hcl k _ (Array.getElem?_eq_getElem hks) (hcl k _ (Array.getElem?_eq_getElem hks) hkl) i hik
              rw [hil'] at this; cases this
            cases he : (C.getD i []).isEmpty
            · replace hb : Rel w w' := by unfold StepR at hb; rw [he] at hb; exact hb
              exact hweak i him he k hk hki hiR hkC x _ _ _ (hV k hk hkl hb0) hb
            · replace hb : Below w.heap.size w w' := by unfold StepR at hb; rw [he] at hb; exact hb
              exact ((V x).getD k VAny).st _ _ _ (hV k hk hkl hb0) hb
      unfold wpOp at hob' ⊢
      simp only [ho] at hob' ⊢
      rw [wanted_same hagree]
      split
      · rename_i hw
        rw [if_pos hw] at hob'
        rcases hob' with h | ⟨_, h⟩
        case inr => exact absurd h NoWay.lets
        refine .inl (Oper.wp_mono ?_ (wp_moveS (Q := Q) (R := fun v w' => ((V x).getD i VAny).p v w' ∧ StepR C Rel i w w') (exec_same hso hagree) (fun d hd => by unfold putS; rw [hsz1.1]; exact (hdd d hd).1)
          (Oper.wp_mono (fun a' w' ⟨v, h1, h2, h3, h4⟩ => ⟨v, fun d hd => h1 d (hdst.trans hd), by unfold putS; rw [hsz1.2]; exact h2, h3, h4⟩) h)))
        rintro a' w' ⟨v, rfl, hv, hb⟩
        exact next v w' hv hb
      · rename_i hw
        rw [if_neg hw] at hob'
        obtain ⟨v, h1, _, h3, h4⟩ := hob'
        cases hd : o.dst with
        | none =>
          have hn := next v w h3 h4
          rw [hd] at hn
          exact hn
        | some d =>
          have hvu : v = undef := by
            have := h1 d (hdst.trans hd)
            rw [hd] at this
            simp [Act.put, putS, hsz1.1, (hdd d hd).1] at this
            exact this.symm
          have hn := next undef w (hvu ▸ h3) h4
          rw [hd] at hn
          exact hn
/-- **A region that draws its order**: each of its first m operations is shown once; what is left behind them goes on. -/
theorem wp_tasksS {id m : Nat} {Rel : World → World → Prop} (R C : List (List Nat)) (V : (Nat → Value) → List VP) (S : World → Prop) {a0 : Act} {w : World} (hm : P.follows .mixedOrders = true) (hok : tasksOkS ops m a0.tmps.size R = true)
    (hdep : ∀ x x' j, (∀ i ∈ R.getD j [], x i = x' i) → (V x).getD j VAny = (V x').getD j VAny) (hweak : ∀ i, i < m → (C.getD i []).isEmpty = false → ∀ k, k < m → k ≠ i → i ∉ R.getD k [] → k ∉ C.getD i [] → ∀ x v w w', ((V x).getD k VAny).p v w → Rel w w' → ((V x).getD k VAny).p v w') (hS0 : S w.drew) (hSt : ∀ j w w', S w → StepR C Rel j w w' → S w') (hob : ∀ x j, j < m → ObS P ops S R C Rel m V x a0 j)
    (hend : ∀ x w', S w' → (∀ i ∈ endR C m, ((V x).getD i VAny).p (x i) w') → wpAny P .any ops Q (ops.size - m) (listedTo ops.size m) (putS ops x a0 m) w') : (Code.region id ops true).wp P Q a0 w := by
  have hmn := (tasks_specS hok).1
  have hf : ∀ i, (Array.replicate ops.size false).getD i false = false := fun i => by simp [Array.getD]
  have h := tasks_goS (Q := Q) hok hdep hweak hSt hob hend m (List.range m) (Array.replicate ops.size false) w.drew (fun _ => undef) (by simp) List.nodup_range (fun i => by rw [hf]; simp) (by simp) (fun i _ _ => hf i) (fun j o _ hj => by rw [hf] at hj; cases hj) hS0
    (fun i _ hi => by rw [hf] at hi; cases hi)
  refine wp_region_any hm ?_
  rw [show ops.size - m + m = ops.size by omega, putD_congr (ops := ops) _ (fun _ => false) _ (fun _ => undef) a0 m (fun i _ => ⟨hf i, fun _ => rfl⟩)] at h
  have e : ∀ n, putD ops (fun _ => false) (fun _ => undef) a0 n = a0 := fun n => by
    induction n with
    | zero => rfl
    | succ n ih => unfold putD; simpa using ih
  rw [e] at h
  exact h
/-- What is to be shown, operation by operation, in the text's order; the frame goes along. -/
def ObsS (P : Program) (ops : Array Oper) (Q : Exit → Act → World → Prop) (S : World → Prop) (R C : List (List Nat)) (Rel : World → World → Prop) (m : Nat) (V : (Nat → Value) → List VP) (x : Nat → Value) : Nat → Nat → Act → Prop
  | 0, j, a => ∀ w, S w → (∀ i ∈ endR C m, ((V x).getD i VAny).p (x i) w) → wpAny P .any ops Q (ops.size - j) (listedTo ops.size j) a w
  | r + 1, j, a => (∀ w, S w → (∀ i ∈ availR R C m j, ((V x).getD i VAny).p (x i) w) →
      wpOp P ops NoWay j (fun a' w' => ∃ v, (∀ d, dstOf ops j = some d → a'.tmps[d]? = some v) ∧ a'.defers = a.defers ∧ ((V x).getD j VAny).p v w' ∧ StepR C Rel j w w') a w) ∧
    ObsS P ops Q S R C Rel m V x r (j + 1) (a.put (dstOf ops j) (x j))
theorem obs_allS {S : World → Prop} {R C : List (List Nat)} {Rel : World → World → Prop} {m : Nat} {V : (Nat → Value) → List VP} {x : Nat → Value} {a0 : Act} : ∀ (r j : Nat), ObsS P ops Q S R C Rel m V x r j (putS ops x a0 j) →
    (∀ k, j ≤ k → k < j + r → ObS P ops S R C Rel m V x a0 k) ∧ ∀ w, S w → (∀ i ∈ endR C m, ((V x).getD i VAny).p (x i) w) → wpAny P .any ops Q (ops.size - (j + r)) (listedTo ops.size (j + r)) (putS ops x a0 (j + r)) w := by
  intro r
  induction r with
  | zero => intro j h; exact ⟨fun k h1 h2 => by omega, h⟩
  | succ r ih =>
    intro j h
    obtain ⟨h1, h2⟩ := h
    have h2' : ObsS P ops Q S R C Rel m V x r (j + 1) (putS ops x a0 (j + 1)) := h2
    obtain ⟨h3, h4⟩ := ih (j + 1) h2'
    refine ⟨fun k hk1 hk2 => ?_, by rw [show j + (r + 1) = j + 1 + r by omega]; exact h4⟩
    by_cases hk : k = j
    · subst hk
      intro w hS hV
      have h := h1 w hS hV
      rw [show (putS ops x a0 k).defers = a0.defers from (putD_size _ _ _ _).2] at h
      exact h
    · exact h3 k (by omega) (by omega)
theorem wp_obsS {id : Nat} (m : Nat) (Rel : World → World → Prop) (R C : List (List Nat)) (V : (Nat → Value) → List VP) (S : World → Prop) {a0 : Act} {w : World} (hm : P.follows .mixedOrders = true) (hok : tasksOkS ops m a0.tmps.size R = true)
    (hdep : ∀ x x' j, (∀ i ∈ R.getD j [], x i = x' i) → (V x).getD j VAny = (V x').getD j VAny) (hweak : ∀ i, i < m → (C.getD i []).isEmpty = false → ∀ k, k < m → k ≠ i → i ∉ R.getD k [] → k ∉ C.getD i [] → ∀ x v w w', ((V x).getD k VAny).p v w → Rel w w' → ((V x).getD k VAny).p v w') (hSt : ∀ j w w', S w → StepR C Rel j w w' → S w') (hS0 : S w.drew) (h : ∀ x, ObsS P ops Q S R C Rel m V x m 0 a0) : (Code.region id ops true).wp P Q a0 w :=
  wp_tasksS (m := m) (Rel := Rel) R C V S hm hok hdep hweak hS0 hSt (fun x j hj => (obs_allS m 0 (h x)).1 j (by omega) (by omega)) (fun x w' hS hV => by
    have := (obs_allS m 0 (h x)).2 w' hS (hV)
    rwa [Nat.zero_add] at this)
theorem obs_stepS {S : World → Prop} {R C : List (List Nat)} {Rel : World → World → Prop} {m : Nat} {V : (Nat → Value) → List VP} {x : Nat → Value} {r j : Nat} {a : Act} {o : Oper} {d : Tmp} (ho : ops[j]? = some o) (hd : o.dst = some d)
    (h : ∀ w, S w → (∀ i ∈ availR R C m j, ((V x).getD i VAny).p (x i) w) → ∀ K : Act → World → Prop, Shut (∀ a' w' v, a'.tmps[d]? = some v → a'.defers = a.defers → ((V x).getD j VAny).p v w' → StepR C Rel j w w' → K a' w') →
      if Region.wanted o (yielded ops a.tmps) = true then Oper.wp P o a w K NoWay else K (a.put o.dst undef) w)
    (hr : ObsS P ops Q S R C Rel m V x r (j + 1) { a with tmps := a.tmps.setIfInBounds d (x j) }) : ObsS P ops Q S R C Rel m V x (r + 1) j a := by
  have hdst : dstOf ops j = some d := by simp [dstOf, ho, hd]
  refine ⟨fun w hS hV => wpOp_step ho (fun K hK => ?_), by rw [hdst]; exact hr⟩
  exact h w hS hV K (fun a' w' v h1 h2 h3 h4 => hK a' w' ⟨v, fun d' hd' => by rw [hdst] at hd'; injection hd' with hd'; exact hd' ▸ h1, h2, h3, h4⟩)
/-- An operation that yields nothing (a store). -/
theorem obs_stepN {S : World → Prop} {R C : List (List Nat)} {Rel : World → World → Prop} {m : Nat} {V : (Nat → Value) → List VP} {x : Nat → Value} {r j : Nat} {a : Act} {o : Oper} (ho : ops[j]? = some o) (hd : o.dst = none)
    (h : ∀ w, S w → (∀ i ∈ availR R C m j, ((V x).getD i VAny).p (x i) w) → ∀ K : Act → World → Prop, Shut (∀ a' w', a'.defers = a.defers → ((V x).getD j VAny).p undef w' → StepR C Rel j w w' → K a' w') →
      if Region.wanted o (yielded ops a.tmps) = true then Oper.wp P o a w K NoWay else K (a.put o.dst undef) w)
    (hr : ObsS P ops Q S R C Rel m V x r (j + 1) a) : ObsS P ops Q S R C Rel m V x (r + 1) j a := by
  have hdst : dstOf ops j = none := by simp [dstOf, ho, hd]
  refine ⟨fun w hS hV => wpOp_step ho (fun K hK => ?_), by rw [hdst]; exact hr⟩
  exact h w hS hV K (fun a' w' h2 hv h4 => hK a' w' ⟨undef, fun d' hd' => absurd (hdst.symm.trans hd') (by simp), h2, hv, h4⟩)
end
end Go.Proofs.YtggigolkncckoaaGreat
namespace Go.Proofs.YtggigolkncckoaaGreat
open Go.RowKit
theorem isVe_spec4 {P : Int} {sq ys : List Int} (h : isVe P sq ys = true) : ys.length = sq.length ∧ NumsL P ys := by
  unfold isVe at h
  simp only [Bool.and_eq_true, beq_iff_eq] at h
  exact ⟨by have := h.1; omega, nums_numsL h.2⟩
/-- The value is nothing; the block is known. -/
def VBk (g : Nat) (t : TypeId) (cs : Array Value) : VP := ⟨fun _ w => Blk w g t cs, fun _ _ _ h hb => h.below hb h.lt⟩
/-- What drawing, or the store of a space into the result's cell, does. -/
def RelB (g res : Nat) (w w' : World) : Prop := Dr g 143 w w' ∨ ∃ (p : Int) (A : Option Addr) (n c : Nat) (p' : Int) (A' : Option Addr) (n' c' : Nat), Blk w res 26 #[.int .i64 p, .slice A n c] ∧ w' = (w.setCell ⟨res, 0, none⟩ (.int .i64 p')).setCell ⟨res, 1, none⟩ (.slice A' n' c')
section
variable {w w' : World} {g res : Nat}
theorem Own.relB {B : Nat} {A : Option Addr} {n c : Nat} {us : List Value} (h : Own w B 2 A n c us) (r : RelB g res w w') : Own w' B 2 A n c us := by
  rcases r with d | ⟨p, A1, n1, c1, p', A', n', c', k, rfl⟩
  · exact h.dr d (by decide)
  · exact (h.far k (by decide) 0 _).far (k.set_ 0 (.int .i64 p')) (by decide) 1 _
theorem OwnM.relB {B : Nat} {A : Option Addr} {n c : Nat} {xss : List (List Int)} (h : OwnM w B A n c xss) (r : RelB g res w w') : OwnM w' B A n c xss := by
  obtain ⟨rows, ho, hn⟩ := h
  refine ⟨rows, ?_, hn.len, fun k hk => by obtain ⟨A1, c1, e, h3⟩ := hn.row k hk; exact ⟨A1, c1, e, h3.relB r⟩, hn.apart⟩
  rcases r with d | ⟨p, A1, n1, c1, p', A', n', c', k, rfl⟩
  · exact ho.dr d (by decide)
  · exact (ho.far k (by decide) 0 _).far (k.set_ 0 (.int .i64 p')) (by decide) 1 _
theorem Blk.relB {b : Nat} {cs : Array Value} (h : Blk w b 26 cs) (hne : b ≠ res) (r : RelB g res w w') : Blk w' b 26 cs := by
  rcases r with d | ⟨p, A1, n1, c1, p', A', n', c', k, rfl⟩
  · exact h.dr d (by decide)
  · exact (h.far hne _).far hne _
theorem Src.farSet {p : Int} {A : Option Addr} {n c : Nat} {i : Nat} {u : Value} (h : Src w g 143) (k : Blk w res 26 #[.int .i64 p, .slice A n c]) : Src (w.setCell ⟨res, i, none⟩ u) g 143 := by
  obtain ⟨B, nb, cb, bs, pl, h0, kg, r, h1, h2, h3, h4⟩ := h
  have hne : g ≠ res := fun e => by
    subst e
    unfold Blk at kg k
    rw [kg] at k
    injection k with k
    injection k with _ k
    exact absurd k (by decide)
  refine ⟨B, nb, cb, bs, pl, h0, kg.far hne u, ⟨r.1, fun hn0 => ?_⟩, h1, h2, h3, h4⟩
  obtain ⟨gb, ob, e, hc⟩ := r.2 hn0
  refine ⟨gb, ob, e, fun j v hv => ?_⟩
  have hcell := hc j v hv
  have hgb : gb ≠ res := fun e => by
    subst e
    rw [k.cell] at hcell
    obtain ⟨b, _, rfl⟩ := List.mem_map.1 (List.mem_of_getElem? hv)
    match ob + j, hcell with
    | 0, hcell => simp at hcell
    | 1, hcell => simp at hcell
    | _ + 2, hcell => simp at hcell
  rw [World.cell?_setCell_far _ _ _ _ (fun e => hgb e.symm)]
  exact hcell
theorem Src.relB (h : Src w g 143) (r : RelB g res w w') : Src w' g 143 := by
  rcases r with d | ⟨p, A1, n1, c1, p', A', n', c', k, rfl⟩
  · exact d.s'
  · exact (h.farSet k).farSet (p := p') (A := A1) (n := n1) (c := c1) (k.set_ 0 (.int .i64 p'))
theorem below_relB {w0 : World} {B : Nat} (h : Below B w0 w) (hg : B ≤ g) (hres : B ≤ res) (r : RelB g res w w') : Below B w0 w' := by
  rcases r with d | ⟨p, A1, n1, c1, p', A', n', c', k, rfl⟩
  · exact h.trans (d.b.mono hg)
  · exact (h.setCell (p := ⟨res, 0, none⟩) hres _).setCell (p := ⟨res, 1, none⟩) hres _
/-- The result's cell holds a space. -/
def SB (res : Nat) (w : World) : Prop := ∃ (p : Int) (A : Option Addr) (n c : Nat), Blk w res 26 #[.int .i64 p, .slice A n c]
theorem SB.below (h : SB res w) (hb : Below w.heap.size w w') : SB res w' := by obtain ⟨p, A, n, c, k⟩ := h; exact ⟨p, A, n, c, k.below hb k.lt⟩
theorem Blk.stored {p' : Int} {A' : Option Addr} {n' c' : Nat} {a b : Value} (k : Blk w res 26 #[a, b]) : Blk ((w.setCell ⟨res, 0, none⟩ (.int .i64 p')).setCell ⟨res, 1, none⟩ (.slice A' n' c')) res 26 #[.int .i64 p', .slice A' n' c'] := by
  simpa using (k.set_ 0 (.int .i64 p')).set_ 1 (.slice A' n' c')
theorem SB.relB (h : SB res w) (r : RelB g res w w') : SB res w' := by
  rcases r with d | ⟨p, A1, n1, c1, p', A', n', c', k, rfl⟩
  · obtain ⟨p, A, n, c, k⟩ := h; exact ⟨p, A, n, c, k.dr d (by decide)⟩
  · exact ⟨p', A', n', c', k.stored⟩
end
set_option maxHeartbeats 12800000 in
set_option maxRecDepth 8000 in
theorem DrawVersorBetween_any (B : Option Addr) (nb cb : Nat) (bs : List Int) (w : World) (hnb : nb ≤ 4096) (r : Rd w B nb (bs.map (Value.int .u8))) (hbs : ∀ b ∈ bs, 0 ≤ b ∧ b < 256) (hbg : ∀ a, B = some a → a.block < w.heap.size) :
    Calls Tryz.prog 32 #[.slice B nb cb] w (Drew2 w) := by
  have hB0 : Below w.heap.size w (w.alloc (.cells #[.int .i64 0, .slice none 0 0] 26)) := (Below.refl _ _).alloc (Nat.le_refl _) _
  have k0 : Blk (w.alloc (.cells #[.int .i64 0, .slice none 0 0] 26)) w.heap.size 26 #[.int .i64 0, .slice none 0 0] := Blk.new _ _ _
  have hfr := from__any B nb cb bs (w.alloc (.cells #[.int .i64 0, .slice none 0 0] 26)) hnb (r.below hB0) hbs (fun a e => by have := hbg a e; simp; omega)
  go_enter Tryz.func32, Tryz.ntmps32
  go_wp2_with fail
  refine hfr.mono ?_
  rintro e w2 ⟨g, rfl, hg, hs2, hb2⟩
  have k2 := k0.below hb2 k0.lt
  have hB2 := hB0.trans (hb2.mono hB0.size)
  have hw := hB2.size
  have hgw : w.heap.size ≤ g := Nat.le_trans hB0.size hg
  have hsp := l07Space_any g w2 hs2
  clear hfr hb2 k0 hB0 hg
  go_wp2_with fail
  refine hsp.mono ?_
  rintro e w3 ⟨P, A, n, c, sq, rfl, hP, hn, hO, hd3⟩
  have d4 := hd3.alloc (.cells #[.int .i64 P, .slice A n c] 26)
  have k4 := (k2.dr hd3 (by decide)).alloc (.cells #[.int .i64 P, .slice A n c] 26)
  have kb4 : Blk (w3.alloc (.cells #[.int .i64 P, .slice A n c] 26)) w3.heap.size 26 #[.int .i64 P, .slice A n c] := Blk.new _ _ _
  have hres : w.heap.size < w3.heap.size := Nat.lt_of_lt_of_le (show w.heap.size < w2.heap.size from k2.lt) hd3.size
  have o4 := (hO.base (B' := w.heap.size) hw).below ((Below.refl _ _).alloc (Nat.le_refl _) (.cells #[.int .i64 P, .slice A n c] 26))
  clear hsp k2 hO hd3
  obtain ⟨q0, q1⟩ := kb4.two
  have hdv := l03DrawVector_any g P A n c _ d4.s' (by omega) (by omega)
  go_wp2_with fail
  refine hdv.mono ?_
  rintro e w5 ⟨A1, m1, c1, xs, rfl, hm1, hu, hd5⟩
  have d5 := d4.trans hd5
  have k5 := k4.dr hd5 (by decide)
  have kb5 := kb4.dr hd5 (by decide)
  have o5 := o4.dr hd5 (by decide)
  have u5 := hu.base (B' := w.heap.size) (Nat.le_trans hw d4.size)
  clear hdv d4 k4 kb4 o4 hu hd5 q0 q1
  have hsl := o5.rd.lenI
  cases h1 : isSp P sq
  · have his := l03Is_b P A n c sq w5 (by omega) o5.rd h1
    clear h1
    obtain ⟨q0, q1⟩ := kb5.two
    go_wp2_with fail
    refine his.mono ?_
    rintro e w7 ⟨rfl, hb7⟩
    replace d5 := d5.then hb7
    replace k5 := k5.below hb7 k5.lt
    replace kb5 := kb5.below hb7 kb5.lt
    replace o5 := o5.below hb7
    replace u5 := u5.below hb7
    clear his hb7 q0 q1 hsl
    obtain ⟨q0, q1⟩ := kb5.two
    go_wp2
    refine wp_obsS 8 (RelB g w.heap.size) [[], [], [], [], [2, 3], [0, 2, 3, 4], [1], [2, 3, 4]] [[], [], [], [], [99], [99], [], []] (fun x => [VIs (.agg #[.int .i64 P, .slice A n c]), VIs (.slice A1 m1 c1), VIs (.pointer (some ⟨g, 0, none⟩)), VIs (.agg #[.int .i64 P, .slice A n c]), VLx w.heap.size, VBk w.heap.size 26 #[.int .i64 P, .slice A n c], VIs (.slice A1 m1 c1), VLx w.heap.size]) (fun w' => SB w.heap.size w' ∧ Blk w' w3.heap.size 26 #[.int .i64 P, .slice A n c] ∧ Own w' w.heap.size 2 A n c (ints sq) ∧ Own w' w.heap.size 2 A1 m1 c1 (ints xs) ∧ Src w' g 143 ∧ Below w.heap.size w w') (by kernel_rfl) (by kernel_rfl) (fun x x' j hx => by
        rcases j with _ | _ | _ | _ | _ | _ | _ | _ | j
        · rfl
        · rfl
        · rfl
        · rfl
        · rfl
        · rfl
        · rfl
        · rfl
        · rfl)
      (weak_ofR [0, 1, 2, 3, 4, 6, 7] (by decide) (fun k hk x v w w' hp hr => by
        simp only [List.mem_cons, List.not_mem_nil, or_false] at hk
        rcases hk with rfl | rfl | rfl | rfl | rfl | rfl | rfl
        · exact hp
        · exact hp
        · exact hp
        · exact hp
        · obtain ⟨A9, m9, c9, X9, e9, l9, h9⟩ := hp; exact ⟨A9, m9, c9, X9, e9, l9, h9.relB hr⟩
        · exact hp
        · obtain ⟨A9, m9, c9, X9, e9, l9, h9⟩ := hp; exact ⟨A9, m9, c9, X9, e9, l9, h9.relB hr⟩)) (fun j _ _ h hb => hb.either (fun hb => ⟨h.1.below hb, h.2.1.below hb h.2.1.lt, h.2.2.1.below hb, h.2.2.2.1.below hb, h.2.2.2.2.1.below hb, h.2.2.2.2.2.trans (hb.mono h.2.2.2.2.2.size)⟩) (fun hr => ⟨h.1.relB hr, h.2.1.relB (Nat.ne_of_gt hres) hr, h.2.2.1.relB hr, h.2.2.2.1.relB hr, h.2.2.2.2.1.relB hr, below_relB h.2.2.2.2.2 hgw (Nat.le_refl _) hr⟩)) (⟨⟨_, _, _, _, k5.drew⟩, kb5.drew, o5.below (Below.refl _ _).drew, u5.below (Below.refl _ _).drew, d5.s'.below (Below.refl _ _).drew, (hB2.trans (d5.b.mono hgw)).drew⟩) (fun x => ?_)
    refine obs_stepS (Eq.trans (by simp only [List.getElem?_toArray, List.getElem?_cons_zero]; exact rfl) rfl) rfl (fun w' hS hV K hK => ?_) ?_
    · obtain ⟨q0, q1⟩ := hS.2.1.two
      go_simp
      exact hK.out _ _ _ rfl rfl rfl (Below.refl _ _)
    simp only [List.setIfInBounds_toArray, List.set_cons_zero, List.set_cons_succ]
    refine obs_stepS (Eq.trans (by simp only [List.getElem?_toArray, List.getElem?_cons_succ, List.getElem?_cons_zero]; exact rfl) rfl) rfl (fun w' hS hV K hK => ?_) ?_
    · obtain ⟨q0, q1⟩ := hS.2.1.two
      go_simp
      exact hK.out _ _ _ rfl rfl rfl (Below.refl _ _)
    simp only [List.setIfInBounds_toArray, List.set_cons_zero, List.set_cons_succ]
    refine obs_stepS (Eq.trans (by simp only [List.getElem?_toArray, List.getElem?_cons_succ, List.getElem?_cons_zero]; exact rfl) rfl) rfl (fun w' hS hV K hK => ?_) ?_
    · obtain ⟨q0, q1⟩ := hS.2.1.two
      go_simp
      exact hK.out _ _ _ rfl rfl rfl (Below.refl _ _)
    simp only [List.setIfInBounds_toArray, List.set_cons_zero, List.set_cons_succ]
    refine obs_stepS (Eq.trans (by simp only [List.getElem?_toArray, List.getElem?_cons_succ, List.getElem?_cons_zero]; exact rfl) rfl) rfl (fun w' hS hV K hK => ?_) ?_
    · obtain ⟨q0, q1⟩ := hS.2.1.two
      go_simp
      exact hK.out _ _ _ rfl rfl rfl (Below.refl _ _)
    simp only [List.setIfInBounds_toArray, List.set_cons_zero, List.set_cons_succ]
    refine obs_stepS (Eq.trans (by simp only [List.getElem?_toArray, List.getElem?_cons_succ, List.getElem?_cons_zero]; exact rfl) rfl) rfl (fun w' hS hV K hK => ?_) ?_
    · have e2 : x 2 = (.pointer (some ⟨g, 0, none⟩)) := hV 2 (by decide)
      have e3 : x 3 = (.agg #[.int .i64 P, .slice A n c]) := hV 3 (by decide)
      obtain ⟨q0, q1⟩ := hS.2.1.two
      go_simp
      refine (l03DrawVector_any g P A n c w' hS.2.2.2.2.1 (by omega) (by omega)).mono ?_
      rintro e v1 ⟨A9, m9, c9, xs9, rfl, hm9, ho9, hd9⟩
      exact hK.out _ _ _ rfl rfl ⟨_, _, _, xs9, rfl, by omega, ho9.base hS.2.2.2.2.2.size⟩ (StepR.rel rfl (.inl hd9))
    simp only [List.setIfInBounds_toArray, List.set_cons_zero, List.set_cons_succ]
    refine obs_stepN (Eq.trans (by simp only [List.getElem?_toArray, List.getElem?_cons_succ, List.getElem?_cons_zero]; exact rfl) rfl) rfl (fun w' hS hV K hK => ?_) ?_
    · have e0 : x 0 = (.agg #[.int .i64 P, .slice A n c]) := hV 0 (by decide)
      have e2 : x 2 = (.pointer (some ⟨g, 0, none⟩)) := hV 2 (by decide)
      have e3 : x 3 = (.agg #[.int .i64 P, .slice A n c]) := hV 3 (by decide)
      obtain ⟨A4, m4, c4, X4, e4, l4, h4⟩ := hV 4 (by decide)
      obtain ⟨q0, q1⟩ := hS.2.1.two
      obtain ⟨p9, A9, n9, c9, k9⟩ := hS.1
      obtain ⟨t0, t1⟩ := k9.two
      have f0 := k9.frozen 0
      have f1 := k9.frozen 1
      go_simp
      exact hK.out _ _ rfl k9.stored (StepR.rel rfl (.inr ⟨_, _, _, _, _, _, _, _, k9, rfl⟩))
    refine obs_stepS (Eq.trans (by simp only [List.getElem?_toArray, List.getElem?_cons_succ, List.getElem?_cons_zero]; exact rfl) rfl) rfl (fun w' hS hV K hK => ?_) ?_
    · have e1 : x 1 = (.slice A1 m1 c1) := hV 1 (by decide)
      obtain ⟨q0, q1⟩ := hS.2.1.two
      go_simp
      exact hK.out _ _ _ rfl rfl rfl (Below.refl _ _)
    simp only [List.setIfInBounds_toArray, List.set_cons_zero, List.set_cons_succ]
    refine obs_stepS (Eq.trans (by simp only [List.getElem?_toArray, List.getElem?_cons_succ, List.getElem?_cons_zero]; exact rfl) rfl) rfl (fun w' hS hV K hK => ?_) ?_
    · have e2 : x 2 = (.pointer (some ⟨g, 0, none⟩)) := hV 2 (by decide)
      have e3 : x 3 = (.agg #[.int .i64 P, .slice A n c]) := hV 3 (by decide)
      obtain ⟨A4, m4, c4, X4, e4, l4, h4⟩ := hV 4 (by decide)
      obtain ⟨q0, q1⟩ := hS.2.1.two
      go_simp
      exact hK.out _ _ _ rfl rfl ⟨_, _, _, _, rfl, l4, h4⟩ (Below.refl _ _)
    simp only [List.setIfInBounds_toArray, List.set_cons_zero, List.set_cons_succ]
    refine fun w' hS hV => ?_
    have e0 : x 0 = (.agg #[.int .i64 P, .slice A n c]) := hV 0 (by decide)
    have e1 : x 1 = (.slice A1 m1 c1) := hV 1 (by decide)
    have e2 : x 2 = (.pointer (some ⟨g, 0, none⟩)) := hV 2 (by decide)
    have e3 : x 3 = (.agg #[.int .i64 P, .slice A n c]) := hV 3 (by decide)
    obtain ⟨A4, m4, c4, X4, e4, l4, h4⟩ := hV 4 (by decide)
    have b5 := hV 5 (by decide)
    have e6 : x 6 = (.slice A1 m1 c1) := hV 6 (by decide)
    obtain ⟨A7, m7, c7, X7, e7, l7, h7⟩ := hV 7 (by decide)
    simp only [e0, e1, e2, e3, e4, e6, e7]
    clear e0 e1 e2 e3 e4 e6 e7
    refine wpAny_done (by kernel_rfl) ?_ _
    obtain ⟨_, kb6, o6, u6, _, hB6⟩ := hS
    obtain ⟨w6, rfl⟩ : ∃ W, W = w' := ⟨_, rfl⟩
    clear q0 q1 k5 kb5 o5 u5 d5
    replace b5 : Blk w6 w.heap.size 26 #[.int .i64 P, .slice A n c] := b5
    obtain ⟨p0, p1⟩ := b5.two
    go_wp2
    exact bodyPost_ret (v := .tuple #[.agg #[.int .i64 P, .slice A n c], .slice A1 m1 c1, .slice A7 m7 c7]) (by simp [results, Tryz.results32, go_sem, p0, p1]) rfl ⟨P, A, n, c, sq, A1, m1, c1, xs, A7, m7, c7, X7, rfl, hP, hn, by omega, l7, o6, u6, h7, hB6⟩
  · have his := l03Is_b P A n c sq w5 (by omega) o5.rd h1
    obtain ⟨HP, hn1, hn2, hq⟩ := isSp_dim h1
    obtain ⟨hp3, hp2⟩ := isP_ge HP
    have HQ := Lib.hid (nums_drawn hq)
    rw [hsl] at hn1 hn2
    clear h1 hq
    obtain ⟨q0, q1⟩ := kb5.two
    go_wp2_with fail
    refine his.mono ?_
    rintro e w7 ⟨rfl, hb7⟩
    replace d5 := d5.then hb7
    replace k5 := k5.below hb7 k5.lt
    replace kb5 := kb5.below hb7 kb5.lt
    replace o5 := o5.below hb7
    replace u5 := u5.below hb7
    clear his hb7 q0 q1
    have hdi := l03Disc_any P A n c sq w7 (by omega) hp2 (by omega) o5.rd HQ.out
    obtain ⟨q0, q1⟩ := kb5.two
    go_wp2_with fail
    refine hdi.mono ?_
    rintro e w8 ⟨rfl, hb8⟩
    replace d5 := d5.then hb8
    replace k5 := k5.below hb8 k5.lt
    replace kb5 := kb5.below hb8 kb5.lt
    replace o5 := o5.below hb8
    replace u5 := u5.below hb8
    clear hdi hb8 q0 q1
    by_cases hz : discT P sq n = 0
    · have e1 : (discT P sq n == 0) = true := by simp [hz]
      clear hsl
      obtain ⟨q0, q1⟩ := kb5.two
      go_wp2
      refine wp_obsS 8 (RelB g w.heap.size) [[], [], [], [], [2, 3], [0, 2, 3, 4], [1], [2, 3, 4]] [[], [], [], [], [99], [99], [], []] (fun x => [VIs (.agg #[.int .i64 P, .slice A n c]), VIs (.slice A1 m1 c1), VIs (.pointer (some ⟨g, 0, none⟩)), VIs (.agg #[.int .i64 P, .slice A n c]), VLx w.heap.size, VBk w.heap.size 26 #[.int .i64 P, .slice A n c], VIs (.slice A1 m1 c1), VLx w.heap.size]) (fun w' => SB w.heap.size w' ∧ Blk w' w3.heap.size 26 #[.int .i64 P, .slice A n c] ∧ Own w' w.heap.size 2 A n c (ints sq) ∧ Own w' w.heap.size 2 A1 m1 c1 (ints xs) ∧ Src w' g 143 ∧ Below w.heap.size w w') (by kernel_rfl) (by kernel_rfl) (fun x x' j hx => by
          rcases j with _ | _ | _ | _ | _ | _ | _ | _ | j
          · rfl
          · rfl
          · rfl
          · rfl
          · rfl
          · rfl
          · rfl
          · rfl
          · rfl)
        (weak_ofR [0, 1, 2, 3, 4, 6, 7] (by decide) (fun k hk x v w w' hp hr => by
          simp only [List.mem_cons, List.not_mem_nil, or_false] at hk
          rcases hk with rfl | rfl | rfl | rfl | rfl | rfl | rfl
          · exact hp
          · exact hp
          · exact hp
          · exact hp
          · obtain ⟨A9, m9, c9, X9, e9, l9, h9⟩ := hp; exact ⟨A9, m9, c9, X9, e9, l9, h9.relB hr⟩
          · exact hp
          · obtain ⟨A9, m9, c9, X9, e9, l9, h9⟩ := hp; exact ⟨A9, m9, c9, X9, e9, l9, h9.relB hr⟩)) (fun j _ _ h hb => hb.either (fun hb => ⟨h.1.below hb, h.2.1.below hb h.2.1.lt, h.2.2.1.below hb, h.2.2.2.1.below hb, h.2.2.2.2.1.below hb, h.2.2.2.2.2.trans (hb.mono h.2.2.2.2.2.size)⟩) (fun hr => ⟨h.1.relB hr, h.2.1.relB (Nat.ne_of_gt hres) hr, h.2.2.1.relB hr, h.2.2.2.1.relB hr, h.2.2.2.2.1.relB hr, below_relB h.2.2.2.2.2 hgw (Nat.le_refl _) hr⟩)) (⟨⟨_, _, _, _, k5.drew⟩, kb5.drew, o5.below (Below.refl _ _).drew, u5.below (Below.refl _ _).drew, d5.s'.below (Below.refl _ _).drew, (hB2.trans (d5.b.mono hgw)).drew⟩) (fun x => ?_)
      refine obs_stepS (Eq.trans (by simp only [List.getElem?_toArray, List.getElem?_cons_zero]; exact rfl) rfl) rfl (fun w' hS hV K hK => ?_) ?_
      · obtain ⟨q0, q1⟩ := hS.2.1.two
        go_simp
        exact hK.out _ _ _ rfl rfl rfl (Below.refl _ _)
      simp only [List.setIfInBounds_toArray, List.set_cons_zero, List.set_cons_succ]
      refine obs_stepS (Eq.trans (by simp only [List.getElem?_toArray, List.getElem?_cons_succ, List.getElem?_cons_zero]; exact rfl) rfl) rfl (fun w' hS hV K hK => ?_) ?_
      · obtain ⟨q0, q1⟩ := hS.2.1.two
        go_simp
        exact hK.out _ _ _ rfl rfl rfl (Below.refl _ _)
      simp only [List.setIfInBounds_toArray, List.set_cons_zero, List.set_cons_succ]
      refine obs_stepS (Eq.trans (by simp only [List.getElem?_toArray, List.getElem?_cons_succ, List.getElem?_cons_zero]; exact rfl) rfl) rfl (fun w' hS hV K hK => ?_) ?_
      · obtain ⟨q0, q1⟩ := hS.2.1.two
        go_simp
        exact hK.out _ _ _ rfl rfl rfl (Below.refl _ _)
      simp only [List.setIfInBounds_toArray, List.set_cons_zero, List.set_cons_succ]
      refine obs_stepS (Eq.trans (by simp only [List.getElem?_toArray, List.getElem?_cons_succ, List.getElem?_cons_zero]; exact rfl) rfl) rfl (fun w' hS hV K hK => ?_) ?_
      · obtain ⟨q0, q1⟩ := hS.2.1.two
        go_simp
        exact hK.out _ _ _ rfl rfl rfl (Below.refl _ _)
      simp only [List.setIfInBounds_toArray, List.set_cons_zero, List.set_cons_succ]
      refine obs_stepS (Eq.trans (by simp only [List.getElem?_toArray, List.getElem?_cons_succ, List.getElem?_cons_zero]; exact rfl) rfl) rfl (fun w' hS hV K hK => ?_) ?_
      · have e2 : x 2 = (.pointer (some ⟨g, 0, none⟩)) := hV 2 (by decide)
        have e3 : x 3 = (.agg #[.int .i64 P, .slice A n c]) := hV 3 (by decide)
        obtain ⟨q0, q1⟩ := hS.2.1.two
        go_simp
        refine (l03DrawVector_any g P A n c w' hS.2.2.2.2.1 (by omega) (by omega)).mono ?_
        rintro e v1 ⟨A9, m9, c9, xs9, rfl, hm9, ho9, hd9⟩
        exact hK.out _ _ _ rfl rfl ⟨_, _, _, xs9, rfl, by omega, ho9.base hS.2.2.2.2.2.size⟩ (StepR.rel rfl (.inl hd9))
      simp only [List.setIfInBounds_toArray, List.set_cons_zero, List.set_cons_succ]
      refine obs_stepN (Eq.trans (by simp only [List.getElem?_toArray, List.getElem?_cons_succ, List.getElem?_cons_zero]; exact rfl) rfl) rfl (fun w' hS hV K hK => ?_) ?_
      · have e0 : x 0 = (.agg #[.int .i64 P, .slice A n c]) := hV 0 (by decide)
        have e2 : x 2 = (.pointer (some ⟨g, 0, none⟩)) := hV 2 (by decide)
        have e3 : x 3 = (.agg #[.int .i64 P, .slice A n c]) := hV 3 (by decide)
        obtain ⟨A4, m4, c4, X4, e4, l4, h4⟩ := hV 4 (by decide)
        obtain ⟨q0, q1⟩ := hS.2.1.two
        obtain ⟨p9, A9, n9, c9, k9⟩ := hS.1
        obtain ⟨t0, t1⟩ := k9.two
        have f0 := k9.frozen 0
        have f1 := k9.frozen 1
        go_simp
        exact hK.out _ _ rfl k9.stored (StepR.rel rfl (.inr ⟨_, _, _, _, _, _, _, _, k9, rfl⟩))
      refine obs_stepS (Eq.trans (by simp only [List.getElem?_toArray, List.getElem?_cons_succ, List.getElem?_cons_zero]; exact rfl) rfl) rfl (fun w' hS hV K hK => ?_) ?_
      · have e1 : x 1 = (.slice A1 m1 c1) := hV 1 (by decide)
        obtain ⟨q0, q1⟩ := hS.2.1.two
        go_simp
        exact hK.out _ _ _ rfl rfl rfl (Below.refl _ _)
      simp only [List.setIfInBounds_toArray, List.set_cons_zero, List.set_cons_succ]
      refine obs_stepS (Eq.trans (by simp only [List.getElem?_toArray, List.getElem?_cons_succ, List.getElem?_cons_zero]; exact rfl) rfl) rfl (fun w' hS hV K hK => ?_) ?_
      · have e2 : x 2 = (.pointer (some ⟨g, 0, none⟩)) := hV 2 (by decide)
        have e3 : x 3 = (.agg #[.int .i64 P, .slice A n c]) := hV 3 (by decide)
        obtain ⟨A4, m4, c4, X4, e4, l4, h4⟩ := hV 4 (by decide)
        obtain ⟨q0, q1⟩ := hS.2.1.two
        go_simp
        exact hK.out _ _ _ rfl rfl ⟨_, _, _, _, rfl, l4, h4⟩ (Below.refl _ _)
      simp only [List.setIfInBounds_toArray, List.set_cons_zero, List.set_cons_succ]
      refine fun w' hS hV => ?_
      have e0 : x 0 = (.agg #[.int .i64 P, .slice A n c]) := hV 0 (by decide)
      have e1 : x 1 = (.slice A1 m1 c1) := hV 1 (by decide)
      have e2 : x 2 = (.pointer (some ⟨g, 0, none⟩)) := hV 2 (by decide)
      have e3 : x 3 = (.agg #[.int .i64 P, .slice A n c]) := hV 3 (by decide)
      obtain ⟨A4, m4, c4, X4, e4, l4, h4⟩ := hV 4 (by decide)
      have b5 := hV 5 (by decide)
      have e6 : x 6 = (.slice A1 m1 c1) := hV 6 (by decide)
      obtain ⟨A7, m7, c7, X7, e7, l7, h7⟩ := hV 7 (by decide)
      simp only [e0, e1, e2, e3, e4, e6, e7]
      clear e0 e1 e2 e3 e4 e6 e7
      refine wpAny_done (by kernel_rfl) ?_ _
      obtain ⟨_, kb6, o6, u6, _, hB6⟩ := hS
      obtain ⟨w6, rfl⟩ : ∃ W, W = w' := ⟨_, rfl⟩
      clear q0 q1 k5 kb5 o5 u5 d5
      replace b5 : Blk w6 w.heap.size 26 #[.int .i64 P, .slice A n c] := b5
      obtain ⟨p0, p1⟩ := b5.two
      go_wp2
      exact bodyPost_ret (v := .tuple #[.agg #[.int .i64 P, .slice A n c], .slice A1 m1 c1, .slice A7 m7 c7]) (by simp [results, Tryz.results32, go_sem, p0, p1]) rfl ⟨P, A, n, c, sq, A1, m1, c1, xs, A7, m7, c7, X7, rfl, hP, hn, by omega, l7, o6, u6, h7, hB6⟩
    · have e1 : (discT P sq n == 0) = false := by simp [hz]
      have hve := l03Vector_any P A A1 n c m1 c1 sq xs w8 (by omega) hsl (by omega) (by omega) hp2 u5.rd
      cases hv : isVe P sq xs
      · rw [hv] at hve
        clear hsl hv
        obtain ⟨q0, q1⟩ := kb5.two
        go_wp2_with fail
        refine hve.mono ?_
        rintro e w9 ⟨rfl, hb9⟩
        replace d5 := d5.then hb9
        replace k5 := k5.below hb9 k5.lt
        replace kb5 := kb5.below hb9 kb5.lt
        replace o5 := o5.below hb9
        replace u5 := u5.below hb9
        clear hve hb9 q0 q1
        obtain ⟨q0, q1⟩ := kb5.two
        go_wp2
        refine wp_obsS 8 (RelB g w.heap.size) [[], [], [], [], [2, 3], [0, 2, 3, 4], [1], [2, 3, 4]] [[], [], [], [], [99], [99], [], []] (fun x => [VIs (.agg #[.int .i64 P, .slice A n c]), VIs (.slice A1 m1 c1), VIs (.pointer (some ⟨g, 0, none⟩)), VIs (.agg #[.int .i64 P, .slice A n c]), VLx w.heap.size, VBk w.heap.size 26 #[.int .i64 P, .slice A n c], VIs (.slice A1 m1 c1), VLx w.heap.size]) (fun w' => SB w.heap.size w' ∧ Blk w' w3.heap.size 26 #[.int .i64 P, .slice A n c] ∧ Own w' w.heap.size 2 A n c (ints sq) ∧ Own w' w.heap.size 2 A1 m1 c1 (ints xs) ∧ Src w' g 143 ∧ Below w.heap.size w w') (by kernel_rfl) (by kernel_rfl) (fun x x' j hx => by
            rcases j with _ | _ | _ | _ | _ | _ | _ | _ | j
            · rfl
            · rfl
            · rfl
            · rfl
            · rfl
            · rfl
            · rfl
            · rfl
            · rfl)
          (weak_ofR [0, 1, 2, 3, 4, 6, 7] (by decide) (fun k hk x v w w' hp hr => by
            simp only [List.mem_cons, List.not_mem_nil, or_false] at hk
            rcases hk with rfl | rfl | rfl | rfl | rfl | rfl | rfl
            · exact hp
            · exact hp
            · exact hp
            · exact hp
            · obtain ⟨A9, m9, c9, X9, e9, l9, h9⟩ := hp; exact ⟨A9, m9, c9, X9, e9, l9, h9.relB hr⟩
            · exact hp
            · obtain ⟨A9, m9, c9, X9, e9, l9, h9⟩ := hp; exact ⟨A9, m9, c9, X9, e9, l9, h9.relB hr⟩)) (fun j _ _ h hb => hb.either (fun hb => ⟨h.1.below hb, h.2.1.below hb h.2.1.lt, h.2.2.1.below hb, h.2.2.2.1.below hb, h.2.2.2.2.1.below hb, h.2.2.2.2.2.trans (hb.mono h.2.2.2.2.2.size)⟩) (fun hr => ⟨h.1.relB hr, h.2.1.relB (Nat.ne_of_gt hres) hr, h.2.2.1.relB hr, h.2.2.2.1.relB hr, h.2.2.2.2.1.relB hr, below_relB h.2.2.2.2.2 hgw (Nat.le_refl _) hr⟩)) (⟨⟨_, _, _, _, k5.drew⟩, kb5.drew, o5.below (Below.refl _ _).drew, u5.below (Below.refl _ _).drew, d5.s'.below (Below.refl _ _).drew, (hB2.trans (d5.b.mono hgw)).drew⟩) (fun x => ?_)
        refine obs_stepS (Eq.trans (by simp only [List.getElem?_toArray, List.getElem?_cons_zero]; exact rfl) rfl) rfl (fun w' hS hV K hK => ?_) ?_
        · obtain ⟨q0, q1⟩ := hS.2.1.two
          go_simp
          exact hK.out _ _ _ rfl rfl rfl (Below.refl _ _)
        simp only [List.setIfInBounds_toArray, List.set_cons_zero, List.set_cons_succ]
        refine obs_stepS (Eq.trans (by simp only [List.getElem?_toArray, List.getElem?_cons_succ, List.getElem?_cons_zero]; exact rfl) rfl) rfl (fun w' hS hV K hK => ?_) ?_
        · obtain ⟨q0, q1⟩ := hS.2.1.two
          go_simp
          exact hK.out _ _ _ rfl rfl rfl (Below.refl _ _)
        simp only [List.setIfInBounds_toArray, List.set_cons_zero, List.set_cons_succ]
        refine obs_stepS (Eq.trans (by simp only [List.getElem?_toArray, List.getElem?_cons_succ, List.getElem?_cons_zero]; exact rfl) rfl) rfl (fun w' hS hV K hK => ?_) ?_
        · obtain ⟨q0, q1⟩ := hS.2.1.two
          go_simp
          exact hK.out _ _ _ rfl rfl rfl (Below.refl _ _)
        simp only [List.setIfInBounds_toArray, List.set_cons_zero, List.set_cons_succ]
        refine obs_stepS (Eq.trans (by simp only [List.getElem?_toArray, List.getElem?_cons_succ, List.getElem?_cons_zero]; exact rfl) rfl) rfl (fun w' hS hV K hK => ?_) ?_
        · obtain ⟨q0, q1⟩ := hS.2.1.two
          go_simp
          exact hK.out _ _ _ rfl rfl rfl (Below.refl _ _)
        simp only [List.setIfInBounds_toArray, List.set_cons_zero, List.set_cons_succ]
        refine obs_stepS (Eq.trans (by simp only [List.getElem?_toArray, List.getElem?_cons_succ, List.getElem?_cons_zero]; exact rfl) rfl) rfl (fun w' hS hV K hK => ?_) ?_
        · have e2 : x 2 = (.pointer (some ⟨g, 0, none⟩)) := hV 2 (by decide)
          have e3 : x 3 = (.agg #[.int .i64 P, .slice A n c]) := hV 3 (by decide)
          obtain ⟨q0, q1⟩ := hS.2.1.two
          go_simp
          refine (l03DrawVector_any g P A n c w' hS.2.2.2.2.1 (by omega) (by omega)).mono ?_
          rintro e v1 ⟨A9, m9, c9, xs9, rfl, hm9, ho9, hd9⟩
          exact hK.out _ _ _ rfl rfl ⟨_, _, _, xs9, rfl, by omega, ho9.base hS.2.2.2.2.2.size⟩ (StepR.rel rfl (.inl hd9))
        simp only [List.setIfInBounds_toArray, List.set_cons_zero, List.set_cons_succ]
        refine obs_stepN (Eq.trans (by simp only [List.getElem?_toArray, List.getElem?_cons_succ, List.getElem?_cons_zero]; exact rfl) rfl) rfl (fun w' hS hV K hK => ?_) ?_
        · have e0 : x 0 = (.agg #[.int .i64 P, .slice A n c]) := hV 0 (by decide)
          have e2 : x 2 = (.pointer (some ⟨g, 0, none⟩)) := hV 2 (by decide)
          have e3 : x 3 = (.agg #[.int .i64 P, .slice A n c]) := hV 3 (by decide)
          obtain ⟨A4, m4, c4, X4, e4, l4, h4⟩ := hV 4 (by decide)
          obtain ⟨q0, q1⟩ := hS.2.1.two
          obtain ⟨p9, A9, n9, c9, k9⟩ := hS.1
          obtain ⟨t0, t1⟩ := k9.two
          have f0 := k9.frozen 0
          have f1 := k9.frozen 1
          go_simp
          exact hK.out _ _ rfl k9.stored (StepR.rel rfl (.inr ⟨_, _, _, _, _, _, _, _, k9, rfl⟩))
        refine obs_stepS (Eq.trans (by simp only [List.getElem?_toArray, List.getElem?_cons_succ, List.getElem?_cons_zero]; exact rfl) rfl) rfl (fun w' hS hV K hK => ?_) ?_
        · have e1 : x 1 = (.slice A1 m1 c1) := hV 1 (by decide)
          obtain ⟨q0, q1⟩ := hS.2.1.two
          go_simp
          exact hK.out _ _ _ rfl rfl rfl (Below.refl _ _)
        simp only [List.setIfInBounds_toArray, List.set_cons_zero, List.set_cons_succ]
        refine obs_stepS (Eq.trans (by simp only [List.getElem?_toArray, List.getElem?_cons_succ, List.getElem?_cons_zero]; exact rfl) rfl) rfl (fun w' hS hV K hK => ?_) ?_
        · have e2 : x 2 = (.pointer (some ⟨g, 0, none⟩)) := hV 2 (by decide)
          have e3 : x 3 = (.agg #[.int .i64 P, .slice A n c]) := hV 3 (by decide)
          obtain ⟨A4, m4, c4, X4, e4, l4, h4⟩ := hV 4 (by decide)
          obtain ⟨q0, q1⟩ := hS.2.1.two
          go_simp
          exact hK.out _ _ _ rfl rfl ⟨_, _, _, _, rfl, l4, h4⟩ (Below.refl _ _)
        simp only [List.setIfInBounds_toArray, List.set_cons_zero, List.set_cons_succ]
        refine fun w' hS hV => ?_
        have e0 : x 0 = (.agg #[.int .i64 P, .slice A n c]) := hV 0 (by decide)
        have e1 : x 1 = (.slice A1 m1 c1) := hV 1 (by decide)
        have e2 : x 2 = (.pointer (some ⟨g, 0, none⟩)) := hV 2 (by decide)
        have e3 : x 3 = (.agg #[.int .i64 P, .slice A n c]) := hV 3 (by decide)
        obtain ⟨A4, m4, c4, X4, e4, l4, h4⟩ := hV 4 (by decide)
        have b5 := hV 5 (by decide)
        have e6 : x 6 = (.slice A1 m1 c1) := hV 6 (by decide)
        obtain ⟨A7, m7, c7, X7, e7, l7, h7⟩ := hV 7 (by decide)
        simp only [e0, e1, e2, e3, e4, e6, e7]
        clear e0 e1 e2 e3 e4 e6 e7
        refine wpAny_done (by kernel_rfl) ?_ _
        obtain ⟨_, kb6, o6, u6, _, hB6⟩ := hS
        obtain ⟨w6, rfl⟩ : ∃ W, W = w' := ⟨_, rfl⟩
        clear q0 q1 k5 kb5 o5 u5 d5
        replace b5 : Blk w6 w.heap.size 26 #[.int .i64 P, .slice A n c] := b5
        obtain ⟨p0, p1⟩ := b5.two
        go_wp2
        exact bodyPost_ret (v := .tuple #[.agg #[.int .i64 P, .slice A n c], .slice A1 m1 c1, .slice A7 m7 c7]) (by simp [results, Tryz.results32, go_sem, p0, p1]) rfl ⟨P, A, n, c, sq, A1, m1, c1, xs, A7, m7, c7, X7, rfl, hP, hn, by omega, l7, o6, u6, h7, hB6⟩
      · rw [hv] at hve
        obtain ⟨hxl, hxn⟩ := isVe_spec4 hv
        rw [hsl] at hxl
        have hmn : m1 = n := by rw [← u5.rd.lenI]; exact hxl
        have HXN := Lib.hid hxn
        clear hsl hv hxl hxn
        subst hmn
        obtain ⟨q0, q1⟩ := kb5.two
        go_wp2_with fail
        refine hve.mono ?_
        rintro e w9 ⟨rfl, hb9⟩
        replace d5 := d5.then hb9
        replace k5 := k5.below hb9 k5.lt
        replace kb5 := kb5.below hb9 kb5.lt
        replace o5 := o5.below hb9
        replace u5 := u5.below hb9
        clear hve hb9 q0 q1
        have hnx := next_any g 8 w9 d5.s' (by omega)
        go_wp2_with fail
        refine hnx.mono ?_
        rintro e w10 ⟨r8, rfl, _, _, hd10⟩
        replace d5 := d5.trans hd10
        replace k5 := k5.dr hd10 (by decide)
        replace kb5 := kb5.dr hd10 (by decide)
        replace o5 := o5.dr hd10 (by decide)
        replace u5 := u5.dr hd10 (by decide)
        clear hnx hd10
        by_cases h8 : r8 = 0
        · have e8 : (r8 == 0) = true := by simp [h8]
          clear hm1
          have hm1 : m1 ≤ m1 + 1 := by omega
          obtain ⟨q0, q1⟩ := kb5.two
          go_wp2
          refine wp_obsS 8 (RelB g w.heap.size) [[], [], [], [], [2, 3], [0, 2, 3, 4], [1], [2, 3, 4]] [[], [], [], [], [99], [99], [], []] (fun x => [VIs (.agg #[.int .i64 P, .slice A m1 c]), VIs (.slice A1 m1 c1), VIs (.pointer (some ⟨g, 0, none⟩)), VIs (.agg #[.int .i64 P, .slice A m1 c]), VLx w.heap.size, VBk w.heap.size 26 #[.int .i64 P, .slice A m1 c], VIs (.slice A1 m1 c1), VLx w.heap.size]) (fun w' => SB w.heap.size w' ∧ Blk w' w3.heap.size 26 #[.int .i64 P, .slice A m1 c] ∧ Own w' w.heap.size 2 A m1 c (ints sq) ∧ Own w' w.heap.size 2 A1 m1 c1 (ints xs) ∧ Src w' g 143 ∧ Below w.heap.size w w') (by kernel_rfl) (by kernel_rfl) (fun x x' j hx => by
              rcases j with _ | _ | _ | _ | _ | _ | _ | _ | j
              · rfl
              · rfl
              · rfl
              · rfl
              · rfl
              · rfl
              · rfl
              · rfl
              · rfl)
            (weak_ofR [0, 1, 2, 3, 4, 6, 7] (by decide) (fun k hk x v w w' hp hr => by
              simp only [List.mem_cons, List.not_mem_nil, or_false] at hk
              rcases hk with rfl | rfl | rfl | rfl | rfl | rfl | rfl
              · exact hp
              · exact hp
              · exact hp
              · exact hp
              · obtain ⟨A9, m9, c9, X9, e9, l9, h9⟩ := hp; exact ⟨A9, m9, c9, X9, e9, l9, h9.relB hr⟩
              · exact hp
              · obtain ⟨A9, m9, c9, X9, e9, l9, h9⟩ := hp; exact ⟨A9, m9, c9, X9, e9, l9, h9.relB hr⟩)) (fun j _ _ h hb => hb.either (fun hb => ⟨h.1.below hb, h.2.1.below hb h.2.1.lt, h.2.2.1.below hb, h.2.2.2.1.below hb, h.2.2.2.2.1.below hb, h.2.2.2.2.2.trans (hb.mono h.2.2.2.2.2.size)⟩) (fun hr => ⟨h.1.relB hr, h.2.1.relB (Nat.ne_of_gt hres) hr, h.2.2.1.relB hr, h.2.2.2.1.relB hr, h.2.2.2.2.1.relB hr, below_relB h.2.2.2.2.2 hgw (Nat.le_refl _) hr⟩)) (⟨⟨_, _, _, _, k5.drew⟩, kb5.drew, o5.below (Below.refl _ _).drew, u5.below (Below.refl _ _).drew, d5.s'.below (Below.refl _ _).drew, (hB2.trans (d5.b.mono hgw)).drew⟩) (fun x => ?_)
          refine obs_stepS (Eq.trans (by simp only [List.getElem?_toArray, List.getElem?_cons_zero]; exact rfl) rfl) rfl (fun w' hS hV K hK => ?_) ?_
          · obtain ⟨q0, q1⟩ := hS.2.1.two
            go_simp
            exact hK.out _ _ _ rfl rfl rfl (Below.refl _ _)
          simp only [List.setIfInBounds_toArray, List.set_cons_zero, List.set_cons_succ]
          refine obs_stepS (Eq.trans (by simp only [List.getElem?_toArray, List.getElem?_cons_succ, List.getElem?_cons_zero]; exact rfl) rfl) rfl (fun w' hS hV K hK => ?_) ?_
          · obtain ⟨q0, q1⟩ := hS.2.1.two
            go_simp
            exact hK.out _ _ _ rfl rfl rfl (Below.refl _ _)
          simp only [List.setIfInBounds_toArray, List.set_cons_zero, List.set_cons_succ]
          refine obs_stepS (Eq.trans (by simp only [List.getElem?_toArray, List.getElem?_cons_succ, List.getElem?_cons_zero]; exact rfl) rfl) rfl (fun w' hS hV K hK => ?_) ?_
          · obtain ⟨q0, q1⟩ := hS.2.1.two
            go_simp
            exact hK.out _ _ _ rfl rfl rfl (Below.refl _ _)
          simp only [List.setIfInBounds_toArray, List.set_cons_zero, List.set_cons_succ]
          refine obs_stepS (Eq.trans (by simp only [List.getElem?_toArray, List.getElem?_cons_succ, List.getElem?_cons_zero]; exact rfl) rfl) rfl (fun w' hS hV K hK => ?_) ?_
          · obtain ⟨q0, q1⟩ := hS.2.1.two
            go_simp
            exact hK.out _ _ _ rfl rfl rfl (Below.refl _ _)
          simp only [List.setIfInBounds_toArray, List.set_cons_zero, List.set_cons_succ]
          refine obs_stepS (Eq.trans (by simp only [List.getElem?_toArray, List.getElem?_cons_succ, List.getElem?_cons_zero]; exact rfl) rfl) rfl (fun w' hS hV K hK => ?_) ?_
          · have e2 : x 2 = (.pointer (some ⟨g, 0, none⟩)) := hV 2 (by decide)
            have e3 : x 3 = (.agg #[.int .i64 P, .slice A m1 c]) := hV 3 (by decide)
            obtain ⟨q0, q1⟩ := hS.2.1.two
            go_simp
            refine (l03DrawVector_any g P A m1 c w' hS.2.2.2.2.1 (by omega) (by omega)).mono ?_
            rintro e v1 ⟨A9, m9, c9, xs9, rfl, hm9, ho9, hd9⟩
            exact hK.out _ _ _ rfl rfl ⟨_, _, _, xs9, rfl, by omega, ho9.base hS.2.2.2.2.2.size⟩ (StepR.rel rfl (.inl hd9))
          simp only [List.setIfInBounds_toArray, List.set_cons_zero, List.set_cons_succ]
          refine obs_stepN (Eq.trans (by simp only [List.getElem?_toArray, List.getElem?_cons_succ, List.getElem?_cons_zero]; exact rfl) rfl) rfl (fun w' hS hV K hK => ?_) ?_
          · have e0 : x 0 = (.agg #[.int .i64 P, .slice A m1 c]) := hV 0 (by decide)
            have e2 : x 2 = (.pointer (some ⟨g, 0, none⟩)) := hV 2 (by decide)
            have e3 : x 3 = (.agg #[.int .i64 P, .slice A m1 c]) := hV 3 (by decide)
            obtain ⟨A4, m4, c4, X4, e4, l4, h4⟩ := hV 4 (by decide)
            obtain ⟨q0, q1⟩ := hS.2.1.two
            obtain ⟨p9, A9, n9, c9, k9⟩ := hS.1
            obtain ⟨t0, t1⟩ := k9.two
            have f0 := k9.frozen 0
            have f1 := k9.frozen 1
            go_simp
            exact hK.out _ _ rfl k9.stored (StepR.rel rfl (.inr ⟨_, _, _, _, _, _, _, _, k9, rfl⟩))
          refine obs_stepS (Eq.trans (by simp only [List.getElem?_toArray, List.getElem?_cons_succ, List.getElem?_cons_zero]; exact rfl) rfl) rfl (fun w' hS hV K hK => ?_) ?_
          · have e1 : x 1 = (.slice A1 m1 c1) := hV 1 (by decide)
            obtain ⟨q0, q1⟩ := hS.2.1.two
            go_simp
            exact hK.out _ _ _ rfl rfl rfl (Below.refl _ _)
          simp only [List.setIfInBounds_toArray, List.set_cons_zero, List.set_cons_succ]
          refine obs_stepS (Eq.trans (by simp only [List.getElem?_toArray, List.getElem?_cons_succ, List.getElem?_cons_zero]; exact rfl) rfl) rfl (fun w' hS hV K hK => ?_) ?_
          · have e2 : x 2 = (.pointer (some ⟨g, 0, none⟩)) := hV 2 (by decide)
            have e3 : x 3 = (.agg #[.int .i64 P, .slice A m1 c]) := hV 3 (by decide)
            obtain ⟨A4, m4, c4, X4, e4, l4, h4⟩ := hV 4 (by decide)
            obtain ⟨q0, q1⟩ := hS.2.1.two
            go_simp
            exact hK.out _ _ _ rfl rfl ⟨_, _, _, _, rfl, l4, h4⟩ (Below.refl _ _)
          simp only [List.setIfInBounds_toArray, List.set_cons_zero, List.set_cons_succ]
          refine fun w' hS hV => ?_
          have e0 : x 0 = (.agg #[.int .i64 P, .slice A m1 c]) := hV 0 (by decide)
          have e1 : x 1 = (.slice A1 m1 c1) := hV 1 (by decide)
          have e2 : x 2 = (.pointer (some ⟨g, 0, none⟩)) := hV 2 (by decide)
          have e3 : x 3 = (.agg #[.int .i64 P, .slice A m1 c]) := hV 3 (by decide)
          obtain ⟨A4, m4, c4, X4, e4, l4, h4⟩ := hV 4 (by decide)
          have b5 := hV 5 (by decide)
          have e6 : x 6 = (.slice A1 m1 c1) := hV 6 (by decide)
          obtain ⟨A7, m7, c7, X7, e7, l7, h7⟩ := hV 7 (by decide)
          simp only [e0, e1, e2, e3, e4, e6, e7]
          clear e0 e1 e2 e3 e4 e6 e7
          refine wpAny_done (by kernel_rfl) ?_ _
          obtain ⟨_, kb6, o6, u6, _, hB6⟩ := hS
          obtain ⟨w6, rfl⟩ : ∃ W, W = w' := ⟨_, rfl⟩
          clear q0 q1 k5 kb5 o5 u5 d5
          replace b5 : Blk w6 w.heap.size 26 #[.int .i64 P, .slice A m1 c] := b5
          obtain ⟨p0, p1⟩ := b5.two
          go_wp2
          exact bodyPost_ret (v := .tuple #[.agg #[.int .i64 P, .slice A m1 c], .slice A1 m1 c1, .slice A7 m7 c7]) (by simp [results, Tryz.results32, go_sem, p0, p1]) rfl ⟨P, A, m1, c, sq, A1, m1, c1, xs, A7, m7, c7, X7, rfl, hP, hn, by omega, l7, o6, u6, h7, hB6⟩
        · have e8 : (r8 == 0) = false := by simp [h8]
          have hlu := l07Units_any g P A m1 c sq 3 _ d5.s' HP hn2 (o5.base (Nat.zero_le _)) HQ.out (by omega)
          obtain ⟨q0, q1⟩ := kb5.two
          go_wp2_with fail
          refine hlu.mono ?_
          rintro e w11 ⟨AL, m, cl, L, rfl, hm3, hTL, hL, hd11⟩
          have d11 := d5.trans hd11
          have k11 := k5.dr hd11 (by decide)
          have kb11 := kb5.dr hd11 (by decide)
          have o11 := o5.dr hd11 (by decide)
          have u11 := u5.dr hd11 (by decide)
          have L11 := hL.rd
          have HTL := Lib.hid hTL
          clear hlu hd11 hL hTL d5 k5 kb5 o5 u5 q0 q1
          go_wp2
          go_loopw [8, 10] (fun l i wr => ∃ (j : Nat) (A2 : Option Addr) (c2 : Nat) (ys : List Int), j ≤ m ∧ i = .int .i64 j ∧ l = .slice A2 m1 c2 ∧ NumsL P ys ∧ Own wr w.heap.size 2 A2 m1 c2 (ints ys) ∧ Below w11.heap.size w11 wr) (fun _ i _ => m - (intOf i).toNat)
          case atStart => exact ⟨0, A1, c1, xs, by omega, rfl, rfl, HXN.out, u11, Below.refl _ _⟩
          case round =>
            obtain ⟨j, A2, c2, ys, hj, rfl, rfl, hyn, hy, hbr⟩ := hrel
            have HYN := Lib.hid hyn
            clear hyn
            have kbr := kb11.below hbr kb11.lt
            obtain ⟨q0, q1⟩ := kbr.two
            by_cases hlt : j < m
            · obtain ⟨gl, ol, rfl, hxk, Ar, cr, hcell, hr, hcr⟩ := (L11.below hbr).at_ hlt
              have HRN := Lib.hid (HTL.out L[j] (List.getElem_mem hxk))
              have hl1 := HRN.out.1
              rw [hl1] at hcell hr
              obtain ⟨vr, hvr⟩ : ∃ v, v = L[j] := ⟨_, rfl⟩
              rw [← hvr] at HRN hr
              have orr := o11.below hbr
              have HRF := Lib.hid fun (w' : World) (h : Below wr.heap.size wr w') => l07Reflect_any P A m1 c sq Ar cr vr A2 c2 ys w' HP hn2 (orr.rd.below h) HQ.out (hr.below h) HRN.out.2.1 (hy.rd.below h) HYN.out HRN.out.2.2
              have hBase := hbr.size
              clear hl1 hvr hcr hxk
              have b1 : (0 : Int) ≤ (j : Int) := by omega
              have b2 : (j : Int) < (m : Int) := by omega
              go_wp2
              refine wp_obs 7 [[], [], [], [1, 2], [1, 2, 3], [], [0, 1, 2, 3, 4, 5], [0, 1, 2, 3, 4, 5, 6]] [VIs (.agg #[.int .i64 P, .slice A m1 c]), VIs (.slice (some ⟨gl, ol, none⟩) m cl), VIs (.int .i64 (j)), VIs (.pointer (some ⟨gl, ol + j, none⟩)), VIs (.slice Ar m1 cr), VIs (.slice A2 m1 c2), VSl wr m1 (rflL P sq vr ys)] (fun w' => w'.cell? ⟨gl, ol + j, none⟩ = some (.slice Ar m1 cr) ∧ Blk w' w3.heap.size 26 #[.int .i64 P, .slice A m1 c] ∧ Below wr.heap.size wr w') (by kernel_rfl) (by kernel_rfl) (fun _ _ h hb => ⟨(hb.cell (World.block_lt_of_cell? _ _ h.1)).trans h.1, h.2.1.below hb h.2.1.lt, h.2.2.trans (hb.mono h.2.2.size)⟩) (⟨hcell, kbr.drew, (Below.refl _ _).drew⟩) (fun x => ?_)
              refine obs_step (Eq.trans (by simp only [List.getElem?_toArray, List.getElem?_cons_zero]; exact rfl) rfl) rfl (fun w' hS hV K hK => ?_) ?_
              · have q2 := hS.1; obtain ⟨q0, q1⟩ := hS.2.1.two
                go_simp
                exact hK.out _ _ _ rfl rfl rfl (Below.refl _ _)
              simp only [List.setIfInBounds_toArray, List.set_cons_zero, List.set_cons_succ]
              refine obs_step (Eq.trans (by simp only [List.getElem?_toArray, List.getElem?_cons_succ, List.getElem?_cons_zero]; exact rfl) rfl) rfl (fun w' hS hV K hK => ?_) ?_
              · have q2 := hS.1; obtain ⟨q0, q1⟩ := hS.2.1.two
                go_simp
                exact hK.out _ _ _ rfl rfl rfl (Below.refl _ _)
              simp only [List.setIfInBounds_toArray, List.set_cons_zero, List.set_cons_succ]
              refine obs_step (Eq.trans (by simp only [List.getElem?_toArray, List.getElem?_cons_succ, List.getElem?_cons_zero]; exact rfl) rfl) rfl (fun w' hS hV K hK => ?_) ?_
              · have q2 := hS.1; obtain ⟨q0, q1⟩ := hS.2.1.two
                go_simp
                exact hK.out _ _ _ rfl rfl rfl (Below.refl _ _)
              simp only [List.setIfInBounds_toArray, List.set_cons_zero, List.set_cons_succ]
              refine obs_step (Eq.trans (by simp only [List.getElem?_toArray, List.getElem?_cons_succ, List.getElem?_cons_zero]; exact rfl) rfl) rfl (fun w' hS hV K hK => ?_) ?_
              · have e1 : x 1 = (.slice (some ⟨gl, ol, none⟩) m cl) := hV 1 (by decide)
                have e2 : x 2 = (.int .i64 (j)) := hV 2 (by decide)
                have q2 := hS.1; obtain ⟨q0, q1⟩ := hS.2.1.two
                go_simp
                exact hK.out _ _ _ rfl rfl rfl (Below.refl _ _)
              simp only [List.setIfInBounds_toArray, List.set_cons_zero, List.set_cons_succ]
              refine obs_step (Eq.trans (by simp only [List.getElem?_toArray, List.getElem?_cons_succ, List.getElem?_cons_zero]; exact rfl) rfl) rfl (fun w' hS hV K hK => ?_) ?_
              · have e1 : x 1 = (.slice (some ⟨gl, ol, none⟩) m cl) := hV 1 (by decide)
                have e2 : x 2 = (.int .i64 (j)) := hV 2 (by decide)
                have e3 : x 3 = (.pointer (some ⟨gl, ol + j, none⟩)) := hV 3 (by decide)
                have q2 := hS.1; obtain ⟨q0, q1⟩ := hS.2.1.two
                go_simp
                exact hK.out _ _ _ rfl rfl rfl (Below.refl _ _)
              simp only [List.setIfInBounds_toArray, List.set_cons_zero, List.set_cons_succ]
              refine obs_step (Eq.trans (by simp only [List.getElem?_toArray, List.getElem?_cons_succ, List.getElem?_cons_zero]; exact rfl) rfl) rfl (fun w' hS hV K hK => ?_) ?_
              · have q2 := hS.1; obtain ⟨q0, q1⟩ := hS.2.1.two
                go_simp
                exact hK.out _ _ _ rfl rfl rfl (Below.refl _ _)
              simp only [List.setIfInBounds_toArray, List.set_cons_zero, List.set_cons_succ]
              refine obs_step (Eq.trans (by simp only [List.getElem?_toArray, List.getElem?_cons_succ, List.getElem?_cons_zero]; exact rfl) rfl) rfl (fun w' hS hV K hK => ?_) ?_
              · have e0 : x 0 = (.agg #[.int .i64 P, .slice A m1 c]) := hV 0 (by decide)
                have e1 : x 1 = (.slice (some ⟨gl, ol, none⟩) m cl) := hV 1 (by decide)
                have e2 : x 2 = (.int .i64 (j)) := hV 2 (by decide)
                have e3 : x 3 = (.pointer (some ⟨gl, ol + j, none⟩)) := hV 3 (by decide)
                have e4 : x 4 = (.slice Ar m1 cr) := hV 4 (by decide)
                have e5 : x 5 = (.slice A2 m1 c2) := hV 5 (by decide)
                have q2 := hS.1; obtain ⟨q0, q1⟩ := hS.2.1.two
                go_simp
                refine (HRF.out _ hS.2.2).mono ?_
                rintro e v1 ⟨A3, c3, rfl, hM⟩
                exact hK.out _ _ _ rfl rfl ⟨_, _, rfl, hM.after hS.2.2⟩ hM.b
              simp only [List.setIfInBounds_toArray, List.set_cons_zero, List.set_cons_succ]
              refine fun w' hS hV => ?_
              have e0 : x 0 = (.agg #[.int .i64 P, .slice A m1 c]) := hV 0 (by decide)
              have e1 : x 1 = (.slice (some ⟨gl, ol, none⟩) m cl) := hV 1 (by decide)
              have e2 : x 2 = (.int .i64 (j)) := hV 2 (by decide)
              have e3 : x 3 = (.pointer (some ⟨gl, ol + j, none⟩)) := hV 3 (by decide)
              have e4 : x 4 = (.slice Ar m1 cr) := hV 4 (by decide)
              have e5 : x 5 = (.slice A2 m1 c2) := hV 5 (by decide)
              obtain ⟨A6, c6, e6, h6⟩ := hV 6 (by decide)
              simp only [e0, e1, e2, e3, e4, e5, e6]
              clear e0 e1 e2 e3 e4 e5 e6
              refine any_one (j := 7) (by kernel_rfl) (Eq.trans (by simp only [List.getElem?_toArray, List.getElem?_cons_succ, List.getElem?_cons_zero]; exact rfl) rfl) (fun K hK => ?_)
              go_simp
              refine hK.out _ _ (wpAny_done (by kernel_rfl) ?_ _)
              have hbw := hS.2.2
              obtain ⟨w12, rfl⟩ : ∃ W, W = w' := ⟨_, rfl⟩
              have HMN := Lib.hid (h6.2.base (B' := w.heap.size) (by have := d11.size; omega))
              have HBN := Lib.hid (hbr.trans (hbw.mono hBase))
              clear hS h6 HRF
              go_wp2
              go_roundw
              case rel => exact ⟨j + 1, A6, c6, _, by omega, by go_num, rfl, rflL_nums (by omega) sq vr ys, HMN.out, HBN.out⟩
              case measure => simp [intOf]; omega
            · have t2 : decide ((j : Int) < (m : Int)) = false := by simp; omega
              have k12 := k11.below hbr k11.lt
              have o12 := o11.below hbr
              have u12 := u11.below hbr
              have d12 := d11.then hbr
              obtain ⟨p0, p1⟩ := k12.two
              have f0 := k12.frozen 0
              have f1 := k12.frozen 1
              have hf : ∀ {m d : Nat} {A2 : Option Addr} {xs : List Int}, Own wr w.heap.size 2 A2 m d (ints xs) → Own ((wr.setCell ⟨w.heap.size, 0, none⟩ (.int .i64 P)).setCell ⟨w.heap.size, 1, none⟩ (.slice A m1 c)) w.heap.size 2 A2 m d (ints xs) := by
                intro m c' A' xs ho
                exact (ho.far k12 (by decide) 0 _).far (k12.set_ 0 (.int .i64 P)) (by decide) 1 _
              go_wp2
              exact bodyPost_ret (v := .tuple #[.agg #[.int .i64 P, .slice A m1 c], .slice A1 m1 c1, .slice A2 m1 c2]) (by simp [results, Tryz.results32, go_sem, p0, p1]) rfl ⟨P, A, m1, c, sq, A1, m1, c1, xs, A2, m1, c2, ys, rfl, hP, hn, by omega, by omega, hf o12, hf u12, hf hy, hB2.trans (((d12.b.mono hgw).setCell (p := ⟨w.heap.size, 0, none⟩) (Nat.le_refl _) _).setCell (p := ⟨w.heap.size, 1, none⟩) (Nat.le_refl _) _)⟩
end Go.Proofs.YtggigolkncckoaaGreat
namespace Go.Proofs.YtggigolkncckoaaGreat
open Go.RowKit
set_option maxHeartbeats 400000 in
theorem likeInts_any (A B : Option Addr) (n m c d : Nat) (xs ys : List Int) (w : World) (hn : n ≤ 1099511627776) (hm : m ≤ 1099511627776)
    (ha : Rd w A n (ints xs)) (hb : Rd w B m (ints ys)) :
    Calls Tryz.prog 19 #[.slice A n c, .slice B m d] w fun e w' => e = .returned (.bool (decide (xs = ys))) ∧ ∃ j, w' = w.drewN j := by
  have hxl : xs.length = n := by have := ha.1; rwa [ints_length] at this
  have hyl : ys.length = m := by have := hb.1; rwa [ints_length] at this
  by_cases hnm : n = m
  · subst hnm
    have Hx := Lib.hid hxl; clear hxl
    have Hy := Lib.hid hyl; clear hyl
    go_enter Tryz.func19, Tryz.ntmps19
    go_wp2
    go_loopw [5] (fun i wr => ∃ k j : Nat, k ≤ n ∧ i = .int .i64 k ∧ xs.take k = ys.take k ∧ wr = w.drewN j) (fun i _ => n - (intOf i).toNat)
    case atStart => exact ⟨0, 0, by omega, rfl, by simp, rfl⟩
    case round =>
      obtain ⟨k, j, hk, rfl, hxy, rfl⟩ := hrel
      have H := Lib.hid hxy; clear hxy
      by_cases hlt : k < n
      · obtain ⟨g, o, rfl, hx, hcx⟩ := ha.int hlt
        obtain ⟨g', o', rfl, hy, hcy⟩ := hb.int hlt
        clear ha hb
        go_wp2
        go_quiet (fail)
        go_wp2
        · go_ret
          exact ⟨ret_bool (ne_of_get xs ys k hx hy (by assumption)).symm, _, World.drewN_drewN _ _ _⟩
        · go_roundw
          case rel => exact ⟨k + 1, _, by omega, by go_num, take_succ_eq xs ys k hx hy H.out (by simpa using (by assumption : (xs[k] != ys[k]) = false)), rfl⟩
          case measure => simp [intOf]; omega
      · go_wp2
        go_ret
        refine ⟨ret_bool ?_, _, rfl⟩
        have := H.out
        rw [List.take_of_length_le (by rw [Hx.out]; omega), List.take_of_length_le (by rw [Hy.out]; omega)] at this
        rw [this]; simp
  · have hne : decide (xs = ys) = false := by
      rw [decide_eq_false_iff_not]; rintro rfl; omega
    have Hne := Lib.hid hne; clear hne hxl hyl
    have hb0 : ((n : Int) != (m : Int)) = true := by rw [bne_iff_ne]; omega
    go_enter Tryz.func19, Tryz.ntmps19
    go_wp2
    go_ret
    exact ⟨ret_bool Hne.out.symm, 0, rfl⟩
end Go.Proofs.YtggigolkncckoaaGreat
namespace Go.Proofs.YtggigolkncckoaaGreat
open Go.RowKit
theorem big_any (A : Option Addr) (n c : Nat) (w : World) :
    Calls Tryz.prog 15 #[.slice A n c] w fun e w' => e = .returned (.bool (decide (4096 < n))) ∧ w = w' := by
  go_enter Tryz.func15, Tryz.ntmps15
  by_cases h : 4096 < n
  · have d1 : decide ((4096 : Int) < (n : Int)) = true := by rw [decide_eq_true_eq]; omega
    go_wp2
    go_ret
    exact ⟨ret_bool (by rw [eq_comm, decide_eq_true_eq]; exact h), rfl⟩
  · have d1 : decide ((4096 : Int) < (n : Int)) = false := by rw [decide_eq_false_iff_not]; omega
    go_wp2
    go_ret
    exact ⟨ret_bool (by rw [eq_comm, decide_eq_false_iff_not]; exact h), rfl⟩
end Go.Proofs.YtggigolkncckoaaGreat
namespace Go.Proofs.YtggigolkncckoaaGreat
open Go.RowKit
theorem vbL_len (P : Int) (sq u v : List Int) : (vbL P sq u v).length = pw sq.length := by
  unfold vbL
  split
  · exact versL_len P sq _ _ _ rfl
  · exact vecTo_len _ _ _
theorem vbR_len (P : Int) (sq u v : List Int) : (vbR P sq u v).1.length ≤ 64 := by
  by_cases h : codeVB P sq u v = 0
  · rw [vbR_ok h]
    show (vbL P sq u v).length ≤ 64
    rw [vbL_len]
    have h1 : codeVb P sq [u, v] = 0 := by
      unfold codeVB at h
      by_cases h2 : codeVb P sq [u, v] = 0
      · exact h2
      · rw [if_neg h2] at h; exact h
    exact pw_le (codeV_spec (codeVb_zero h1).1).2.2.2.2.1
  · rw [vbR_bad h]; simp
theorem codeVB_zero {P : Int} {sq u v : List Int} (h : codeVB P sq u v = 0) : codeV P sq [u, v] = 0 ∧ regB sq = true ∧ pairL P sq u u = pairL P sq v v ∧ ¬ pairL P sq u u = 0 := by
  unfold codeVB at h
  by_cases h2 : codeVb P sq [u, v] = 0
  · rw [if_pos h2] at h
    by_cases h3 : pairL P sq u u = 0 ∨ ¬ pairL P sq u u = pairL P sq v v
    · rw [if_pos h3] at h; exact absurd h (by decide)
    · obtain ⟨h4, h5⟩ := codeVb_zero h2
      exact ⟨h4, h5, Classical.byContradiction fun h6 => h3 (.inr h6), fun h6 => h3 (.inl h6)⟩
  · rw [if_neg h2] at h; exact absurd h h2
theorem codeV_012 (P : Int) (sq : List Int) (vs : List (List Int)) : codeV P sq vs = 0 ∨ codeV P sq vs = 1 ∨ codeV P sq vs = 2 := by
  unfold codeV
  by_cases h : isSp P sq = true
  · rw [if_pos h]; split
    · exact .inr (.inr rfl)
    · exact .inl rfl
  · rw [if_neg h]; exact .inr (.inl rfl)
theorem codeVB_five {P : Int} {sq u v : List Int} (h : codeVB P sq u v = 5) : codeV P sq [u, v] = 0 ∧ (regB sq = true → pairL P sq u u = pairL P sq v v → pairL P sq u u = 0) := by
  unfold codeVB at h
  by_cases h2 : codeVb P sq [u, v] = 0
  · rw [if_pos h2] at h
    refine ⟨(codeVb_zero h2).1, fun _ h4 => ?_⟩
    by_cases h3 : pairL P sq u u = 0 ∨ ¬ pairL P sq u u = pairL P sq v v
    · rcases h3 with h3 | h3
      · exact h3
      · exact absurd h4 h3
    · rw [if_neg h3] at h; exact absurd h (by decide)
  · rw [if_neg h2] at h
    unfold codeVb at h h2
    by_cases h3 : codeV P sq [u, v] = 0
    · rw [if_pos h3] at h h2
      refine ⟨h3, fun h4 => ?_⟩
      rw [h4] at h; exact absurd h (by decide)
    · rw [if_neg h3] at h
      rcases codeV_012 P sq [u, v] with h4 | h4 | h4
      · exact absurd h4 h3
      · rw [h4] at h; exact absurd h (by decide)
      · rw [h4] at h; exact absurd h (by decide)
set_option maxHeartbeats 6400000 in
set_option maxRecDepth 8000 in
theorem FnVersorsBetween_any (B : Option Addr) (nb cb : Nat) (bs : List Int) (w : World) (r : Rd w B nb (bs.map (Value.int .u8))) (hbs : ∀ b ∈ bs, 0 ≤ b ∧ b < 256) (hbg : ∀ a, B = some a → a.block < w.heap.size) :
    Calls Tryz.prog 4 #[.slice B nb cb] w fun e w' => e = .returned (.bool true) ∧ Below w.heap.size w w' := by
  have hbig := big_any B nb cb w
  by_cases hbb : 4096 < nb
  · rw [decide_eq_true hbb] at hbig
    go_enter Tryz.func4, Tryz.ntmps4
    go_wp2_with fail
    refine hbig.mono ?_
    rintro e w1 ⟨rfl, rfl⟩
    go_wp2
    go_ret
    exact ⟨rfl, Below.refl _ _⟩
  · rw [decide_eq_false hbb] at hbig
    have hdr := DrawVersorBetween_any B nb cb bs w (by omega) r hbs hbg
    go_enter Tryz.func4, Tryz.ntmps4
    go_wp2_with fail
    refine hbig.mono ?_
    rintro e w1 ⟨rfl, rfl⟩
    clear hbig
    go_wp2_with fail
    refine hdr.mono ?_
    rintro e w2 ⟨P, A, n, c, sq, A1, m1, c1, us, A2, m2, c2, vs, rfl, hP, hn, h1, h2, ho, hx, hy, hb2⟩
    have hcx : m1 ≤ c1 := hx.cap
    have hcy : m2 ≤ c2 := hy.cap
    have hA : Below w2.heap.size w2 (w2.alloc (.cells #[.int .i64 P, .slice A n c] 26)) := (Below.refl _ _).alloc (Nat.le_refl _) _
    have k3 : Blk (w2.alloc (.cells #[.int .i64 P, .slice A n c] 26)) w2.heap.size 26 #[.int .i64 P, .slice A n c] := Blk.new _ _ _
    have hB3 := hb2.alloc (o := .cells #[.int .i64 P, .slice A n c] 26) hb2.size
    have o3 := (ho.below hA).rd
    have x3 := (hx.below hA).rd
    have y3 := (hy.below hA).rd
    obtain ⟨w3, hw3⟩ : ∃ W, W = w2.alloc (.cells #[.int .i64 P, .slice A n c] 26) := ⟨_, rfl⟩
    have hb1 := VersorBetween_any P A n c sq A1 m1 c1 us A2 m2 c2 vs w3 (by omega) (by omega) (by omega) (hw3 ▸ o3) (hw3 ▸ x3) hcx (hw3 ▸ y3) hcy
    obtain ⟨q0, q1⟩ := k3.two
    clear hdr ho hx hy hb2 r hA
    go_wp2_with fail
    rw [← hw3] at k3 hB3 o3 x3 y3 ⊢
    clear hw3
    refine hb1.mono ?_
    rintro e w4 ⟨A4, m4, c4, rfl, hM4⟩
    have hB4 : Below w3.heap.size w3 w4 := hM4.b
    have k4 := k3.below hB4 k3.lt
    have hb2 := specVersorBetween_any P A n c sq A1 m1 c1 us A2 m2 c2 vs w4 (by omega) (by omega) (by omega) (o3.below hB4) (x3.below hB4) hcx (y3.below hB4) hcy
    clear q0 q1 hb1
    obtain ⟨q0, q1⟩ := k4.two
    go_wp2_with fail
    refine hb2.mono ?_
    rintro e w5 ⟨A5, m5, c5, rfl, hM5⟩
    have hB5 := hB4.trans (hM5.b.mono hB4.size)
    have hlen := vbR_len P sq us vs
    have r4 := (hM4.below hM5.b).rd
    have r5 := hM5.rd
    have l4 := r4.lenI
    have l5 := r5.lenI
    have i4 := hM4.2.cap
    have hl := likeInts_any A4 A5 m4 m5 c4 c5 _ _ w5 (by omega) (by omega) r4 r5
    rw [decide_eq_true rfl] at hl
    have e0 : ((vbR P sq us vs).2 != (vbR P sq us vs).2) = false := by simp
    clear q0 q1 hb2 hM4 hM5 r5 l5 hlen
    go_wp2_with fail
    refine hl.mono ?_
    rintro e w6 ⟨rfl, jj, rfl⟩
    have hB6 : Below w.heap.size w (w5.drewN jj) := below_drewN (hB3.trans (hB5.mono hB3.size)) jj
    have hW := below_drewN hB5 jj
    have r4 := r4.below (below_drewN (Below.refl w5.heap.size w5) jj)
    clear e0 hl
    by_cases hc : codeVB P sq us vs = 0
    · have e1 : ((vbR P sq us vs).2 != 0) = false := by rw [vbR_ok hc]; rfl
      have e1' : ((vbR P sq us vs).2 == 0) = true := by rw [vbR_ok hc]; rfl
      obtain ⟨hcv, hreg, hab, ha0⟩ := codeVB_zero hc
      obtain ⟨hsp, -⟩ := codeV_sp hcv
      obtain ⟨HP, hp, hp2, hd1, hd2, hs0, hms⟩ := codeV_spec hcv
      obtain ⟨hx1, hxs0⟩ := hms us (by simp)
      obtain ⟨hy1, hys0⟩ := hms vs (by simp)
      have hsl := o3.lenI
      obtain ⟨L, hL, hLv, hLr⟩ := vbL_prod HP hx1 hxs0 hy1 hys0 hab ha0
      obtain ⟨hv1, -⟩ := versL_vers HP hd2 L hL
      have hvl : (vbL P sq us vs).length = pw sq.length := vbL_len P sq us vs
      have hvn : NumsL P (vbL P sq us vs) := by rw [hLv]; exact versL_nums hp sq _ L
      rw [← hLv] at hv1
      obtain ⟨hM0, hR0, hV0⟩ := codeVr_mk hsp hreg hvl hvn hv1
      have hsd : sandL P sq sq.length (vbL P sq us vs) us = vs := by rw [hLv, sand_prod HP hd2 L hL hx1 hxs0, hLr]
      have hsR : sandR P sq (vbL P sq us vs) us = (vs, 0) := by rw [sandR_ok hM0 (isVe_mk hx1 hxs0) hV0, hsd]
      have hvR : isVersR P sq (vbL P sq us vs) = (true, 0) := by unfold isVersR; rw [if_pos hR0, hv1]
      rw [vbR_ok hc] at r4 l4
      obtain rfl : m1 = n := by rw [← x3.lenI, hx1, hsl]
      obtain rfl : m2 = m1 := by rw [← y3.lenI, hy1, hsl]
      obtain rfl : m4 = pw m2 := by rw [← r4.lenI]; exact hvl.trans (by rw [hsl])
      have hpw : pw m2 ≤ 64 := pw_le (show m2 ≤ 6 by omega)
      have hrl := IsRegular_ok P A m2 c sq (w5.drewN jj) hsp (by omega) (o3.below hW)
      rw [hreg] at hrl
      obtain ⟨a, haa⟩ : ∃ a, a = pairL P sq us us := ⟨_, rfl⟩
      have hN1 := fun w' (h : Below w3.heap.size w3 w') => NormOf_ok P A m2 c sq A1 c1 us w' hsp (o3.below h) (x3.below h) hcx hxs0
      have hN2 := fun w' (h : Below w3.heap.size w3 w') => NormOf_ok P A m2 c sq A2 c2 vs w' hsp (o3.below h) (y3.below h) hcy hys0
      rw [← hab] at hN2
      rw [← haa] at hN1 hN2 ha0
      have e2 : (a != 0) = true := by simp [ha0]
      have HS := Lib.hid (And.intro hsR hvR)
      clear hM0 hR0 hV0 hsd hsR hvR hLv hLr hL hv1 hms hx1 hy1 hab haa hcv hc hreg hvl l4 hsl
      have k6 := k3.below hW k3.lt
      obtain ⟨q0, q1⟩ := k6.two
      go_wp2_with fail
      refine hrl.mono ?_
      rintro e w7 ⟨rfl, hb7⟩
      replace hW := hW.trans (hb7.mono hW.size)
      replace r4 := r4.below hb7
      clear hrl q0 q1 k6 hb7
      have k6 := k3.below hW k3.lt
      obtain ⟨q0, q1⟩ := k6.two
      go_wp2_with fail
      refine (hN1 _ hW).mono ?_
      rintro e w8 ⟨rfl, hb7⟩
      replace hW := hW.trans (hb7.mono hW.size)
      replace r4 := r4.below hb7
      clear hN1 q0 q1 k6 hb7
      have k6 := k3.below hW k3.lt
      obtain ⟨q0, q1⟩ := k6.two
      go_wp2_with fail
      refine (hN2 _ hW).mono ?_
      rintro e w9 ⟨rfl, hb7⟩
      replace hW := hW.trans (hb7.mono hW.size)
      replace r4 := r4.below hb7
      clear hN2 q0 q1 k6 hb7
      have k6 := k3.below hW k3.lt
      obtain ⟨q0, q1⟩ := k6.two
      have hsw := SandwichOf_any P A m2 c sq A4 (pw m2) c4 (vbL P sq us vs) A1 m2 c1 us w9 (by omega) (by omega) (by omega) (o3.below hW) r4 i4 (x3.below hW) hcx
      rw [HS.out.1] at hsw
      have e3 : (a == a) = true := by simp
      go_wp2_with fail
      refine hsw.mono ?_
      rintro e w10 ⟨A10, k10, c10, rfl, hM10⟩
      replace hW := hW.trans (hM10.b.mono hW.size)
      replace r4 := r4.below hM10.b
      clear hsw q0 q1 k6
      have k6 := k3.below hW k3.lt
      obtain ⟨q0, q1⟩ := k6.two
      have hiv := IsVersor_any P A m2 c sq A4 (pw m2) c4 (vbL P sq us vs) w10 (by omega) (by omega) (o3.below hW) r4 i4
      rw [HS.out.2] at hiv
      go_wp2_with fail
      refine hiv.mono ?_
      rintro e w11 ⟨rfl, hb7⟩
      replace hW := hW.trans (hb7.mono hW.size)
      have r10 := hM10.rd.below hb7
      have hk10 : k10 = m2 := by rw [← r10.lenI]; exact y3.lenI
      subst hk10
      clear hiv q0 q1 k6 hb7 hM10 r4
      have hl2 := likeInts_any A10 A2 k10 k10 c10 c2 vs vs w11 (by omega) (by omega) r10 (y3.below hW)
      rw [decide_eq_true rfl] at hl2
      go_wp2_with fail
      refine hl2.mono ?_
      rintro e w12 ⟨rfl, j2, rfl⟩
      go_wp2
      go_ret
      exact ⟨rfl, below_drewN (hB3.trans (hW.mono hB3.size)) j2⟩
    · by_cases h5 : codeVB P sq us vs = 5
      · have e1 : ((vbR P sq us vs).2 != 0) = true := by rw [vbR_bad hc]; simp [hc]
        have e1' : ((vbR P sq us vs).2 == 0) = false := by rw [vbR_bad hc]; simp [hc]
        have e2 : ((vbR P sq us vs).2 != 5) = false := by rw [vbR_bad hc]; simp [h5]
        obtain ⟨hcv, hno⟩ := codeVB_five h5
        obtain ⟨hsp, -⟩ := codeV_sp hcv
        obtain ⟨HP, hp, hp2, hd1, hd2, hs0, hms⟩ := codeV_spec hcv
        obtain ⟨hx1, hxs0⟩ := hms us (by simp)
        obtain ⟨hy1, hys0⟩ := hms vs (by simp)
        have hsl := o3.lenI
        obtain rfl : m1 = n := by rw [← x3.lenI, hx1, hsl]
        obtain rfl : m2 = m1 := by rw [← y3.lenI, hy1, hsl]
        have hrl := IsRegular_ok P A m2 c sq (w5.drewN jj) hsp (by omega) (o3.below hW)
        have hN1 := fun w' (h : Below w3.heap.size w3 w') => NormOf_ok P A m2 c sq A1 c1 us w' hsp (o3.below h) (x3.below h) hcx hxs0
        have hN2 := fun w' (h : Below w3.heap.size w3 w') => NormOf_ok P A m2 c sq A2 c2 vs w' hsp (o3.below h) (y3.below h) hcy hys0
        obtain ⟨a, haa⟩ : ∃ a, a = pairL P sq us us := ⟨_, rfl⟩
        obtain ⟨b, hbb'⟩ : ∃ b, b = pairL P sq vs vs := ⟨_, rfl⟩
        obtain ⟨rb, hrb⟩ : ∃ x, x = regB sq := ⟨_, rfl⟩
        rw [← haa] at hN1 hno
        rw [← hbb'] at hN2 hno
        rw [← hrb] at hrl hno
        clear hms hx1 hy1 haa hbb' hrb hcv hc h5 hsl l4 i4 r4
        have k6 := k3.below hW k3.lt
        obtain ⟨q0, q1⟩ := k6.two
        go_wp2_with fail
        refine hrl.mono ?_
        rintro e w7 ⟨rfl, hb7⟩
        replace hW := hW.trans (hb7.mono hW.size)
        clear hrl q0 q1 k6 hb7
        have k6 := k3.below hW k3.lt
        obtain ⟨q0, q1⟩ := k6.two
        go_wp2_with fail
        refine (hN1 _ hW).mono ?_
        rintro e w8 ⟨rfl, hb7⟩
        replace hW := hW.trans (hb7.mono hW.size)
        clear hN1 q0 q1 k6 hb7
        have k6 := k3.below hW k3.lt
        obtain ⟨q0, q1⟩ := k6.two
        go_wp2_with fail
        refine (hN2 _ hW).mono ?_
        rintro e w9 ⟨rfl, hb7⟩
        replace hW := hW.trans (hb7.mono hW.size)
        clear hN2 q0 q1 k6 hb7
        have HB := Lib.hid (hB3.trans (hW.mono hB3.size))
        cases rb
        · go_wp2
          go_ret
          exact ⟨rfl, HB.out⟩
        · by_cases hab : a = b
          · have ha0 := hno rfl hab
            have e3 : (a == b) = true := by simp [hab]
            have e4 : (a != 0) = false := by simp [ha0]
            clear hno hab ha0
            go_wp2
            go_ret
            exact ⟨rfl, HB.out⟩
          · have e3 : (a == b) = false := by simp [hab]
            clear hno hab
            go_wp2
            go_ret
            exact ⟨rfl, HB.out⟩
      · have e1 : ((vbR P sq us vs).2 != 0) = true := by rw [vbR_bad hc]; simp [hc]
        have e2 : ((vbR P sq us vs).2 != 5) = true := by rw [vbR_bad hc]; simp [h5]
        go_wp2
        go_ret
        exact ⟨rfl, hB6⟩
end Go.Proofs.YtggigolkncckoaaGreat
