/-
  LawFnVersors: part 8 of the texts that the proof needs. No condition.
-/
import Derived.Test.YtggigolkncckoaaGreatP7
namespace Go.Proofs.YtggigolkncckoaaGreat
open Go.RowKit
set_option maxHeartbeats 3200000 in
set_option maxRecDepth 8000 in
theorem l07Space_any (g : Nat) (w : World) (hs : Src w g 143) :
    Calls Tryz.prog 142 #[.pointer (some ⟨g, 0, none⟩)] w fun e w' => ∃ (P : Int) (A : Option Addr) (n c : Nat) (xs : List Int), e = .returned (.agg #[.int .i64 P, .slice A n c]) ∧ P ≤ 17 ∧ n ≤ 7 ∧ Own w' w.heap.size 2 A n c (ints xs) ∧ Dr g 143 w w' := by
  have hd1 := ((Dr.refl hs).alloc (.cells #[.int .i64 0, .slice none 0 0] 26)).alloc (.cells #[.int .i64 2, .int .i64 3, .int .i64 3, .int .i64 4, .int .i64 5] 2)
  have k1 : Blk ((w.alloc (.cells #[.int .i64 0, .slice none 0 0] 26)).alloc (.cells #[.int .i64 2, .int .i64 3, .int .i64 3, .int .i64 4, .int .i64 5] 2)) w.heap.size 26 #[.int .i64 0, .slice none 0 0] := (Blk.new _ _ _).alloc _
  have hpk := pick_any g (w.alloc (.cells #[.int .i64 0, .slice none 0 0] 26)).heap.size [2, 3, 3, 4, 5] _ hd1.s' (Blk.new _ 2 _) (by decide) (by decide)
  have e1 : (w.alloc (.cells #[.int .i64 0, .slice none 0 0] 26)).heap.size = w.heap.size + 1 := by simp
  rw [e1] at hpk
  go_enter Tryz.func142, Tryz.ntmps142
  go_wp2_with fail
  refine hpk.mono ?_
  rintro e w2 ⟨r, hr, rfl, hd2⟩
  have hr1 : 2 ≤ r ∧ r ≤ 5 := by simp at hr; omega
  obtain ⟨mn, rfl⟩ : ∃ mn : Nat, r = mn := ⟨r.toNat, by omega⟩
  have hd3 := hd1.trans hd2
  have k2 := k1.dr hd2 (by decide)
  have han := l03Any_any g mn w2 hd3.s' (by omega) (by omega)
  clear hpk hd1 hd2 k1 hr
  go_wp2_with fail
  refine han.mono ?_
  rintro e w3 ⟨P, A, n, c, xs, rfl, hP1, hP2, hn1, hn2, hO0, hd4⟩
  have hn7 : n ≤ 5 := by omega
  have k3 := (k2.dr hd4 (by decide)).alloc (.cells #[.int .i64 P, .slice A n c] 26)
  have hd5 := (hd3.trans hd4).alloc (.cells #[.int .i64 P, .slice A n c] 26)
  have hO5 := (hO0.base hd3.size).below ((Below.refl _ _).alloc (Nat.le_refl _) (.cells #[.int .i64 P, .slice A n c] 26))
  have kb3 : Blk (w3.alloc (.cells #[.int .i64 P, .slice A n c] 26)) w3.heap.size 26 #[.int .i64 P, .slice A n c] := Blk.new _ _ _
  have hbx : w.heap.size ≤ w3.heap.size := (hd3.trans hd4).size
  clear han k2 hd3 hd4 hO0
  go_wp2
  go_loopw [4] (fun i wr => ∃ (j : Nat) (ys : List Int), j ≤ n ∧ i = .int .i64 j ∧ Blk wr w.heap.size 26 #[.int .i64 0, .slice none 0 0] ∧ Blk wr w3.heap.size 26 #[.int .i64 P, .slice A n c] ∧ Own wr w.heap.size 2 A n c (ints ys) ∧ Dr g 143 w wr) (fun i _ => n - (intOf i).toNat)
  case atStart => exact ⟨0, xs, by omega, rfl, k3, kb3, hO5, hd5⟩
  case round =>
    obtain ⟨j, ys, hj, rfl, k, kb, hO, hD⟩ := hrel
    clear k3 kb3 hO5 hd5
    obtain ⟨q0, q1⟩ := kb.two
    by_cases hlt : j < n
    · have t1 : (j : Int) < (n : Int) := by omega
      have hnx := next_any g 12 wr hD.s' (by omega)
      go_wp2_with fail
      refine hnx.mono ?_
      rintro e w4 ⟨r, rfl, _, _, hd6⟩
      replace hD := hD.trans hd6
      replace k := k.dr hd6 (by decide)
      replace kb := kb.dr hd6 (by decide)
      replace hO := hO.dr hd6 (by decide)
      clear hnx hd6 q0 q1
      by_cases hr0 : 0 < r
      · have t2 : decide (0 < r) = true := by simpa using hr0
        rcases hO.form with ⟨_, hz⟩ | ⟨gA, rfl, hg1, hg2⟩
        · omega
        obtain ⟨u1, hc1⟩ := hO.cellI hlt
        have hf1 := hO.frozen_ j
        obtain ⟨q0, q1⟩ := kb.two
        have t3 : (0 : Int) ≤ (j : Int) := by omega
        by_cases hu : u1 = 0
        · have e5 : (u1 == 0) = true := by simp [hu]
          have hne1 := hO.ne_blk kb (by decide)
          have hne2 := hO.ne_blk k (by decide)
          simp only [Value.ownBlock, ne_eq, Option.some.injEq] at hne1 hne2
          obtain ⟨h7, hg7⟩ := hO.set_ j (.int .i64 1)
          rw [ints_set] at h7
          have d7 := hD.grown hO hg7
          have k7 := k.far (p := ⟨gA, j, none⟩) hne2 (.int .i64 1)
          have kb7 := kb.far (p := ⟨gA, j, none⟩) hne1 (.int .i64 1)
          clear k kb hO hD hg7
          go_wp2
          go_roundw
          case rel => exact ⟨j + 1, ys.set j 1, by omega, by go_num, k7, kb7, h7, d7⟩
          case measure => simp [intOf]; omega
        · have e5 : (u1 == 0) = false := by simp [hu]
          go_wp2
          go_roundw
          case rel => exact ⟨j + 1, ys, by omega, by go_num, k, kb, hO, hD⟩
          case measure => simp [intOf]; omega
      · have t2 : decide (0 < r) = false := by simpa using hr0
        clear hlt t1
        have hnx2 := next_any g 30 _ hD.s' (by omega)
        go_wp2_with fail
        refine hnx2.mono ?_
        rintro e w9 ⟨r9, rfl, _, _, hd9⟩
        have hD9 := hD.trans hd9
        have k9 := k.dr hd9 (by decide)
        have kb9 := kb.dr hd9 (by decide)
        have hO9 := hO.dr hd9 (by decide)
        clear hnx2 hD k kb hO hd9
        by_cases h9 : r9 = 0
        · have e9 : (r9 == 0) = true := by simp [h9]
          have hsp := l03Spoil_any g w9 hD9.s'
          go_wp2_with fail
          refine hsp.mono ?_
          rintro e w10 ⟨P2, A2, n2, c2, xs2, rfl, hP2, hn2, hO2, hd10⟩
          have hD10 := hD9.trans hd10
          have k10 := k9.dr hd10 (by decide)
          have hO10 := hO2.base (B' := w.heap.size) hD9.size
          obtain ⟨p0, p1⟩ := k10.two
          have f0 := k10.frozen 0
          have f1 := k10.frozen 1
          have kz := k10.set_ 0 (.int .i64 P2)
          clear hsp kb9 hO9 k9 hD9 hd10 hO2
          go_wp2
          exact bodyPost_ret (v := .agg #[.int .i64 P2, .slice A2 n2 c2]) (by simp [results, Tryz.results142, go_sem, p0, p1]) rfl ⟨P2, A2, n2, c2, xs2, rfl, hP2, hn2, (hO10.far k10 (by decide) 0 _).far kz (by decide) 1 _, (hD10.setNew (Nat.le_refl _) 0 _).setNew (Nat.le_refl _) 1 _⟩
        · have e9 : (r9 == 0) = false := by simp [h9]
          obtain ⟨p0, p1⟩ := k9.two
          obtain ⟨q0, q1⟩ := kb9.two
          have f0 := k9.frozen 0
          have f1 := k9.frozen 1
          have kz := k9.set_ 0 (.int .i64 P)
          clear kb9
          go_wp2
          exact bodyPost_ret (v := .agg #[.int .i64 P, .slice A n c]) (by simp [results, Tryz.results142, go_sem, p0, p1]) rfl ⟨P, A, n, c, ys, rfl, by omega, by omega, (hO9.far k9 (by decide) 0 _).far kz (by decide) 1 _, (hD9.setNew (Nat.le_refl _) 0 _).setNew (Nat.le_refl _) 1 _⟩
    · have t1 : decide ((j : Int) < (n : Int)) = false := by simp; omega
      have hnx2 := next_any g 30 _ hD.s' (by omega)
      go_wp2_with fail
      refine hnx2.mono ?_
      rintro e w9 ⟨r9, rfl, _, _, hd9⟩
      have hD9 := hD.trans hd9
      have k9 := k.dr hd9 (by decide)
      have kb9 := kb.dr hd9 (by decide)
      have hO9 := hO.dr hd9 (by decide)
      clear hnx2 hD k kb hO hd9
      by_cases h9 : r9 = 0
      · have e9 : (r9 == 0) = true := by simp [h9]
        have hsp := l03Spoil_any g w9 hD9.s'
        go_wp2_with fail
        refine hsp.mono ?_
        rintro e w10 ⟨P2, A2, n2, c2, xs2, rfl, hP2, hn2, hO2, hd10⟩
        have hD10 := hD9.trans hd10
        have k10 := k9.dr hd10 (by decide)
        have hO10 := hO2.base (B' := w.heap.size) hD9.size
        obtain ⟨p0, p1⟩ := k10.two
        have f0 := k10.frozen 0
        have f1 := k10.frozen 1
        have kz := k10.set_ 0 (.int .i64 P2)
        clear hsp kb9 hO9 k9 hD9 hd10 hO2
        go_wp2
        exact bodyPost_ret (v := .agg #[.int .i64 P2, .slice A2 n2 c2]) (by simp [results, Tryz.results142, go_sem, p0, p1]) rfl ⟨P2, A2, n2, c2, xs2, rfl, hP2, hn2, (hO10.far k10 (by decide) 0 _).far kz (by decide) 1 _, (hD10.setNew (Nat.le_refl _) 0 _).setNew (Nat.le_refl _) 1 _⟩
      · have e9 : (r9 == 0) = false := by simp [h9]
        obtain ⟨p0, p1⟩ := k9.two
        obtain ⟨q0, q1⟩ := kb9.two
        have f0 := k9.frozen 0
        have f1 := k9.frozen 1
        have kz := k9.set_ 0 (.int .i64 P)
        clear kb9
        go_wp2
        exact bodyPost_ret (v := .agg #[.int .i64 P, .slice A n c]) (by simp [results, Tryz.results142, go_sem, p0, p1]) rfl ⟨P, A, n, c, ys, rfl, by omega, by omega, (hO9.far k9 (by decide) 0 _).far kz (by decide) 1 _, (hD9.setNew (Nat.le_refl _) 0 _).setNew (Nat.le_refl _) 1 _⟩
set_option maxHeartbeats 3200000 in
set_option maxRecDepth 8000 in
theorem l02Vector_any (g : Nat) (p : Int) (n : Nat) (w : World) (hs : Src w g 143) (hp : p ≤ 1048576) (hn : n ≤ 1048576) :
    Calls Tryz.prog 289 #[.pointer (some ⟨g, 0, none⟩), .int .i64 p, .int .i64 n] w fun e w' => ∃ (A : Option Addr) (m c : Nat) (xs : List Int), e = .returned (.slice A m c) ∧ m ≤ n + 1 ∧ Own w' w.heap.size 2 A m c (ints xs) ∧ Dr g 143 w w' := by
  by_cases hp1 : p < 1
  · have d1 : decide (p < 1) = true := by simpa using hp1
    go_enter Tryz.func289, Tryz.ntmps289
    have hli := nextList_any g (3) n w hs (by omega) hn
    go_wp2_with fail
    refine hli.mono ?_
    rintro e w1 ⟨A, c, xs, rfl, hl, hx, hO, hd⟩
    have hnx := next_any g 24 w1 hd.s' (by omega)
    clear hli hx
    go_wp2_with fail
    refine hnx.mono ?_
    rintro e w2 ⟨r, rfl, _, _, hd2⟩
    replace hd := hd.trans hd2
    replace hO := hO.dr hd2 (by decide)
    clear hnx hd2
    by_cases h0 : r = 0
    · have e0 : (r == 0) = true := by simp [h0]
      go_wp2_with (first
        | (at_builtin; (refine wpList_app1 (cutW w2 w.heap.size) w2 24 2 _ _ Tryz.underlying24 info_i rfl (by omega) rfl _ _ rfl A n c _ _ (hO.mk_ hd.size) (by omega) rfl rfl rfl ?_; intro A9 c9 w9 hM9 hg9 _)))
      have hO9 := hM9.own_ (cutW_size hd.size)
      have d9 := hd.grown hO hg9
      clear hM9 hg9
      go_wp2
      go_ret
      exact ⟨A9, n + 1, c9, xs ++ [0], rfl, by omega, by simpa [ints] using hO9, d9⟩
    · have e0 : (r == 0) = false := by simp [h0]
      by_cases h1 : r = 1
      · have e1 : (r == 1) = true := by simp [h1]
        by_cases hn0 : 0 < n
        · have t1 : decide ((0 : Int) < (n : Int)) = true := by simp; omega
          rcases hO.form with ⟨_, hzz⟩ | ⟨g2, rfl, hga, hgb⟩
          · omega
          have hd3 := hd.alloc (.cells #[.int .i64 (-1), .int .i64 (3)] 2)
          have hO3 := hO.below ((Below.refl _ _).alloc (Nat.le_refl _) (.cells #[.int .i64 (-1), .int .i64 (3)] 2))
          have hpk := pick_any g w2.heap.size [-1, 3] _ hd3.s' (by rw [ints2]; exact Blk.new w2 2 _) (by simp) (by simp)
          clear hO hd
          go_wp2_with fail
          refine hpk.mono ?_
          rintro e w3 ⟨r3, _, rfl, hd4⟩
          have hd5 := hd3.trans hd4
          have hO5 := hO3.dr hd4 (by decide)
          obtain ⟨u1, hc1⟩ := hO5.cellI hn0
          have hf1 := hO5.frozen_ 0
          obtain ⟨h7, hg7⟩ := hO5.set_ 0 (.int .i64 r3)
          rw [ints_set] at h7
          have d7 := hd5.grown hO5 hg7
          have i1 : (0 : Int) < (n : Int) := by omega
          clear hpk hd3 hO3 hd4 hd5 hO5 hg7
          go_wp2
          go_ret
          exact ⟨_, n, c, _, rfl, by omega, h7, d7⟩
        · have t1 : decide ((0 : Int) < (n : Int)) = false := by simp; omega
          go_wp2
          go_ret
          exact ⟨A, n, c, xs, rfl, by omega, hO, hd⟩
      · have e1 : (r == 1) = false := by simp [h1]
        go_wp2
        go_ret
        exact ⟨A, n, c, xs, rfl, by omega, hO, hd⟩
  · have d1 : decide (p < 1) = false := by simpa using hp1
    go_enter Tryz.func289, Tryz.ntmps289
    have hli := nextList_any g (p) n w hs (by omega) hn
    go_wp2_with fail
    refine hli.mono ?_
    rintro e w1 ⟨A, c, xs, rfl, hl, hx, hO, hd⟩
    have hnx := next_any g 24 w1 hd.s' (by omega)
    clear hli hx
    go_wp2_with fail
    refine hnx.mono ?_
    rintro e w2 ⟨r, rfl, _, _, hd2⟩
    replace hd := hd.trans hd2
    replace hO := hO.dr hd2 (by decide)
    clear hnx hd2
    by_cases h0 : r = 0
    · have e0 : (r == 0) = true := by simp [h0]
      go_wp2_with (first
        | (at_builtin; (refine wpList_app1 (cutW w2 w.heap.size) w2 24 2 _ _ Tryz.underlying24 info_i rfl (by omega) rfl _ _ rfl A n c _ _ (hO.mk_ hd.size) (by omega) rfl rfl rfl ?_; intro A9 c9 w9 hM9 hg9 _)))
      have hO9 := hM9.own_ (cutW_size hd.size)
      have d9 := hd.grown hO hg9
      clear hM9 hg9
      go_wp2
      go_ret
      exact ⟨A9, n + 1, c9, xs ++ [0], rfl, by omega, by simpa [ints] using hO9, d9⟩
    · have e0 : (r == 0) = false := by simp [h0]
      by_cases h1 : r = 1
      · have e1 : (r == 1) = true := by simp [h1]
        by_cases hn0 : 0 < n
        · have t1 : decide ((0 : Int) < (n : Int)) = true := by simp; omega
          rcases hO.form with ⟨_, hzz⟩ | ⟨g2, rfl, hga, hgb⟩
          · omega
          have hd3 := hd.alloc (.cells #[.int .i64 (-1), .int .i64 (p)] 2)
          have hO3 := hO.below ((Below.refl _ _).alloc (Nat.le_refl _) (.cells #[.int .i64 (-1), .int .i64 (p)] 2))
          have hpk := pick_any g w2.heap.size [-1, p] _ hd3.s' (by rw [ints2]; exact Blk.new w2 2 _) (by simp) (by simp)
          clear hO hd
          go_wp2_with fail
          refine hpk.mono ?_
          rintro e w3 ⟨r3, _, rfl, hd4⟩
          have hd5 := hd3.trans hd4
          have hO5 := hO3.dr hd4 (by decide)
          obtain ⟨u1, hc1⟩ := hO5.cellI hn0
          have hf1 := hO5.frozen_ 0
          obtain ⟨h7, hg7⟩ := hO5.set_ 0 (.int .i64 r3)
          rw [ints_set] at h7
          have d7 := hd5.grown hO5 hg7
          have i1 : (0 : Int) < (n : Int) := by omega
          clear hpk hd3 hO3 hd4 hd5 hO5 hg7
          go_wp2
          go_ret
          exact ⟨_, n, c, _, rfl, by omega, h7, d7⟩
        · have t1 : decide ((0 : Int) < (n : Int)) = false := by simp; omega
          go_wp2
          go_ret
          exact ⟨A, n, c, xs, rfl, by omega, hO, hd⟩
      · have e1 : (r == 1) = false := by simp [h1]
        go_wp2
        go_ret
        exact ⟨A, n, c, xs, rfl, by omega, hO, hd⟩
set_option maxHeartbeats 3200000 in
set_option maxRecDepth 8000 in
theorem l03DrawVector_any (g : Nat) (P : Int) (A : Option Addr) (n c : Nat) (w : World) (hs : Src w g 143) (hp : P ≤ 1048576) (hn : n ≤ 1048576) :
    Calls Tryz.prog 143 #[.pointer (some ⟨g, 0, none⟩), .agg #[.int .i64 P, .slice A n c]] w fun e w' => ∃ (A : Option Addr) (m c : Nat) (xs : List Int), e = .returned (.slice A m c) ∧ m ≤ n + 1 ∧ Own w' w.heap.size 2 A m c (ints xs) ∧ Dr g 143 w w' := by
  have k0 : Blk (w.alloc (.cells #[.int .i64 P, .slice A n c] 26)) w.heap.size 26 #[.int .i64 P, .slice A n c] := Blk.new _ _ _
  have d0 := (Dr.refl hs).alloc (.cells #[.int .i64 P, .slice A n c] 26)
  have hv := l02Vector_any g P n _ d0.s' hp hn
  obtain ⟨q0, q1⟩ := k0.two
  go_enter Tryz.func143, Tryz.ntmps143
  go_wp2_with fail
  refine hv.mono ?_
  rintro e w2 ⟨A2, m, c2, xs, rfl, hm, hO, hd⟩
  go_wp2
  go_ret
  exact ⟨A2, m, c2, xs, rfl, hm, hO.base (by simp), d0.trans hd⟩
end Go.Proofs.YtggigolkncckoaaGreat
namespace Go.Proofs.YtggigolkncckoaaGreat
open Go.RowKit
/-- A list of lists of the call's own, in blocks from B on. -/
def OwnM (w : World) (B : Nat) (A : Option Addr) (n c : Nat) (xss : List (List Int)) : Prop := ∃ rows, Own w B 24 A n c rows ∧ Nest w B rows xss
section
variable {w w' w0 W : World} {B B' g : Nat} {T : TypeId} {A : Option Addr} {n c : Nat} {xss : List (List Int)}
theorem OwnM.dr (h : OwnM w B A n c xss) (d : Dr g T w w') (h1 : 24 ≠ T) (h2 : 2 ≠ T) : OwnM w' B A n c xss := by
  obtain ⟨rows, ho, hn⟩ := h
  exact ⟨rows, ho.dr d h1, hn.len, fun k hk => by obtain ⟨A1, c1, e, h3⟩ := hn.row k hk; exact ⟨A1, c1, e, h3.dr d h2⟩, hn.apart⟩
theorem OwnM.below (h : OwnM w B A n c xss) (hb : Below w.heap.size w w') : OwnM w' B A n c xss := by
  obtain ⟨rows, ho, hn⟩ := h; exact ⟨rows, ho.below hb, hn.below hb⟩
theorem OwnM.base (h : OwnM w B A n c xss) (hB : B' ≤ B) : OwnM w B' A n c xss := by
  obtain ⟨rows, ho, hn⟩ := h; exact ⟨rows, ho.base hB, hn.base hB⟩
theorem OwnM.rd (h : OwnM w B A n c xss) : RdII w A n xss := by
  obtain ⟨rows, ho, hn⟩ := h
  exact ⟨rows, ho.rd, hn.len, fun k hk => by obtain ⟨A', c', e, ho⟩ := hn.row k hk; exact ⟨A', c', e, ho.rd, ho.cap⟩⟩
theorem OwnM.cap (h : OwnM w B A n c xss) : n ≤ c := by obtain ⟨rows, ho, _⟩ := h; exact ho.cap
theorem OwnM.nil (w : World) (B : Nat) : OwnM w B none 0 0 [] := ⟨[], World.ownsRow_nil _ _ _ _, Nest.nil _ _⟩
theorem OwnM.empty (w : World) (hB : B ≤ w.heap.size) : OwnM (w.alloc (.cells #[] 24)) B (some ⟨w.heap.size, 0, none⟩) 0 0 [] := by
  refine ⟨[], ?_, Nest.nil _ _⟩
  have := (Mk.lit (E := 24) (Below.refl w.heap.size w) #[] (by simp)).2
  exact Own.base (by simpa using this) hB
theorem Nest.push {rows : List Value} {A1 : Option Addr} {m c1 K : Nat} {xs : List Int} (h : Nest w B rows xss) (hk : ∀ i g : Nat, (rows[i]?).bind Value.ownBlock = some g → g < K) (hr : Own w K 2 A1 m c1 (ints xs)) (hB : B ≤ K) :
    Nest w B (rows ++ [.slice A1 m c1]) (xss ++ [xs]) := by
  have hn : xs.length = m := by have := hr.len; rwa [ints_length] at this
  subst hn
  refine ⟨by simp [h.len], fun k hk => ?_, fun i j g hij hi => ?_⟩
  · by_cases hlt : k < xss.length
    · obtain ⟨A', c', e, ho⟩ := h.row k hlt
      rw [List.getElem_append_left hlt]
      exact ⟨A', c', by rw [List.getElem?_append_left (by rw [h.len]; exact hlt)]; exact e, ho⟩
    · have hk' : k = xss.length := by simp at hk; omega
      subst hk'
      simp only [List.getElem_append_right (Nat.le_refl _), Nat.sub_self, List.getElem_cons_zero]
      exact ⟨A1, c1, by rw [List.getElem?_append_right (by rw [h.len]; exact Nat.le_refl _), h.len, Nat.sub_self]; rfl, hr.base hB⟩
  · rcases Nat.lt_or_ge j rows.length with hj | hj
    · rw [List.getElem?_append_left (by omega)] at hi
      rw [List.getElem?_append_left hj]
      exact h.apart i j g hij hi
    · rcases Nat.lt_or_ge i rows.length with hil | hil
      · rw [List.getElem?_append_left hil] at hi
        have hg := hk i g hi
        rw [List.getElem?_append_right hj]
        by_cases hj0 : j - rows.length = 0
        · rw [hj0]
          intro he
          have := (World.ownsRow.lt hr g (by simpa using he)).1
          omega
        · rw [List.getElem?_eq_none (by simp; omega)]; simp
      · rw [List.getElem?_append_right hj, List.getElem?_eq_none (by simp; omega)]; simp
end
/-- Other rows of numbers and other blocks are as they were. -/
def KeptR (w w' : World) : Prop := (∀ (B : Nat) (A : Option Addr) (n c : Nat) (us : List Value), Own w B 2 A n c us → Own w' B 2 A n c us) ∧ ∀ (g : Nat) (t : TypeId) (cs : Array Value), Blk w g t cs → 24 ≠ t → Blk w' g t cs
/-- A drawn row is appended. -/
theorem wpList_pushRow {ops : Array Oper} {rest : List Oper} {o : Oper} {a : Act} {Q : Exit → Act → World → Prop} (W w0 w : World) (g : Nat) (T : TypeId)
    (hgd : o.guard = none) (s x : Operand) (ho : o.op = .call { callee := .builtin .append, args := #[s, x], argTypes := #[44, 44] })
    (A : Option Addr) (n c : Nat) (xss : List (List Int)) (A1 : Option Addr) (m c1 : Nat) (xs : List Int) (h : OwnM w0 W.heap.size A n c xss) (dW : Dr g T W w0) (d : Dr g T w0 w) (h1 : 24 ≠ T) (h2 : 2 ≠ T)
    (hr : Own w w0.heap.size 2 A1 m c1 (ints xs)) (hn : n ≤ 1099511627776)
    (hs : a.eval s = .slice A n c) (hx : a.eval x = .slice (some ⟨w.heap.size, 0, none⟩) 1 1)
    (k : ∀ A' c' w', OwnM w' W.heap.size A' (n + 1) c' (xss ++ [xs]) → Dr g T W w' → KeptR w w' → wpList Tryz.prog ops Q rest (a.put o.dst (.slice A' (n + 1) c')) w') :
    wpList Tryz.prog ops Q (o :: rest) a (w.alloc (.cells #[.slice A1 m c1] 24)) := by
  obtain ⟨rows, ho0, hn0⟩ := h
  have hblk := hn0.block
  have ho1 := ho0.dr d h1
  have hn1 : Nest w W.heap.size rows xss := ⟨hn0.len, fun k hk => by obtain ⟨A1, c1, e, h3⟩ := hn0.row k hk; exact ⟨A1, c1, e, h3.dr d h2⟩, hn0.apart⟩
  have hn2 := hn1.push (fun i g hg => (hblk i g hg).2) hr dW.size
  have dd := dW.trans d
  refine wpList_app1 (cutW w W.heap.size) w 44 24 (.slice none 0 0) 24 Tryz.underlying44 info_s rfl (by omega) hgd s x ho A n c rows (.slice A1 m c1) (ho1.mk_ dd.size) hn rfl hs hx ?_
  intro A' c' w' hM' hg _
  exact k A' c' w' ⟨_, hM'.own_ (cutW_size dd.size), hn2.grown ho1 (by decide) hg⟩ (dd.grown ho1 hg) ⟨fun B A2 n2 c2 us h2 => h2.grown hg (h2.ne ho1 (by decide)), fun g2 t cs h2 hne => h2.grown hg (ho1.ne_blk h2 hne)⟩
set_option maxHeartbeats 6400000 in
set_option maxRecDepth 8000 in
theorem l07Units_any (g : Nat) (P : Int) (A : Option Addr) (n c : Nat) (sq : List Int) (most : Nat) (w : World) (hs : Src w g 143) (HP : isP P = true) (hn : n ≤ 6) (ho : Own w 0 2 A n c (ints sq)) (hq : NumsL P sq) (hm : most ≤ 100) :
    Calls Tryz.prog 148 #[.pointer (some ⟨g, 0, none⟩), .agg #[.int .i64 P, .slice A n c], .int .i64 most] w fun e w' => ∃ (A' : Option Addr) (m c' : Nat) (L : List (List Int)), e = .returned (.slice A' m c') ∧ m ≤ most ∧ (∀ v ∈ L, v.length = n ∧ NumsL P v ∧ ¬ pairL P sq v v = 0) ∧ OwnM w' w.heap.size A' m c' L ∧ Dr g 143 w w' := by
  obtain ⟨hp3, hp2⟩ := isP_ge HP
  have hp : 2 ≤ P := by omega
  have HQ := Lib.hid hq
  have k0 : Blk (w.alloc (.cells #[.int .i64 P, .slice A n c] 26)) w.heap.size 26 #[.int .i64 P, .slice A n c] := Blk.new _ _ _
  have d0 := (Dr.refl hs).alloc (.cells #[.int .i64 P, .slice A n c] 26)
  have o0 := ho.below ((Below.refl _ _).alloc (Nat.le_refl _) (.cells #[.int .i64 P, .slice A n c] 26))
  have k1 := k0.alloc (.cells #[] 24)
  have d1 := d0.alloc (.cells #[] 24)
  have o1 := o0.below ((Below.refl _ _).alloc (Nat.le_refl _) (.cells #[] 24))
  have l1 := OwnM.empty (w.alloc (.cells #[.int .i64 P, .slice A n c] 26)) (B := w.heap.size) (by simp)
  have e9 : (w.alloc (.cells #[.int .i64 P, .slice A n c] 26)).heap.size = w.heap.size + 1 := by simp
  rw [e9] at l1
  have hnx := next_any g ((most : Int) + 1) _ d1.s' (by omega)
  clear hq ho k0 d0 o0 HP
  go_enter Tryz.func148, Tryz.ntmps148
  go_wp2_with fail
  refine hnx.mono ?_
  rintro e w2 ⟨r, rfl, hr1, hr2, hd2⟩
  obtain ⟨rn, rfl⟩ : ∃ rn : Nat, r = rn := ⟨r.toNat, by omega⟩
  have hr3 := hr2 (by omega)
  have D2 := d1.trans hd2
  have K2 := k1.dr hd2 (by decide)
  have O2 := o1.dr hd2 (by decide)
  have L2 := l1.dr hd2 (by decide) (by decide)
  clear hnx d1 k1 o1 l1 hd2
  go_wp2
  go_loopw [7, 8] (fun l i wr => ∃ (kk m : Nat) (A0 : Option Addr) (c0 : Nat) (L : List (List Int)), m + kk ≤ most ∧ i = .int .i64 kk ∧ l = .slice A0 m c0 ∧ (∀ v ∈ L, v.length = n ∧ NumsL P v ∧ ¬ pairL P sq v v = 0) ∧ OwnM wr w.heap.size A0 m c0 L ∧ Dr g 143 w wr ∧ Blk wr w.heap.size 26 #[.int .i64 P, .slice A n c] ∧ Own wr 0 2 A n c (ints sq)) (fun _ i _ => (intOf i).toNat)
  case atStart => exact ⟨rn, 0, _, _, [], by omega, rfl, rfl, by simp, L2, D2, K2, O2⟩
  case round =>
    obtain ⟨kk, m, A0, c0, L, hmk, rfl, rfl, hTL, hL, hD, hK, hO⟩ := hrel
    clear L2 D2 K2 O2
    obtain ⟨wo, rfl⟩ : ∃ W, W = wr := ⟨_, rfl⟩
    have HTL := Lib.hid hTL
    have HL := Lib.hid hL
    have HD := Lib.hid hD
    clear hTL hL
    by_cases hk0 : 0 < kk
    · have t1 : decide ((0 : Int) < (kk : Int)) = true := by simp; omega
      have W5 : wrap64 ((kk : Int) - 1) = ((kk - 1 : Nat) : Int) := by unfold wrap64; omega
      obtain ⟨q0, q1⟩ := hK.two
      have hli := nextList_any g P n wo hD.s' (by omega) (by omega)
      go_wp2_with fail
      refine hli.mono ?_
      rintro e w3 ⟨A1, c1, v, rfl, hvl, hvx, hv, hd3⟩
      have HVN0 := nums_of (by omega) hvx
      have k3 := hK.dr hd3 (by decide)
      have o3 := hO.dr hd3 (by decide)
      clear hli hvx q0 q1 hK hO hD
      go_wp2
      go_loopw [9, 10] (fun l i wi => ∃ (j : Nat) (A1 : Option Addr) (c1 : Nat) (v : List Int), j ≤ 20 ∧ i = .int .i64 j ∧ l = .slice A1 n c1 ∧ v.length = n ∧ NumsL P v ∧ Own wi wo.heap.size 2 A1 n c1 (ints v) ∧ Dr g 143 wo wi ∧ Blk wi w.heap.size 26 #[.int .i64 P, .slice A n c] ∧ Own wi 0 2 A n c (ints sq)) (fun _ i _ => 20 - (intOf i).toNat)
      case atStart => exact ⟨0, A1, c1, v, by omega, rfl, rfl, hvl, HVN0, hv, hd3, k3, o3⟩
      case round =>
        obtain ⟨j, A1, c1, v, hj, rfl, rfl, hvl, hvn, hv, di, k3, o3⟩ := hrel
        have HVN := Lib.hid hvn
        have HVL := Lib.hid hvl
        clear hvn hvl
        by_cases hj2 : j < 20
        · have t2 : decide ((j : Int) < 20) = true := by simp; omega
          have hp1' := l03Pair_any P A n c sq A1 c1 v A1 c1 v _ hp hp2 hn o3.rd HQ.out hv.rd HVN.out hv.rd HVN.out
          obtain ⟨q0, q1⟩ := k3.two
          obtain ⟨pz, hpz⟩ : ∃ x, x = pairL P sq v v := ⟨_, rfl⟩
          rw [← hpz] at hp1'
          clear hpz
          by_cases hz0 : pz = 0
          · have e5 : (pz == 0) = true := by simp [hz0]
            go_wp2_with fail
            refine hp1'.mono ?_
            rintro e w7 ⟨rfl, hb7⟩
            replace di := di.then hb7
            replace k3 := k3.below hb7 k3.lt
            replace o3 := o3.below hb7
            clear hp1' hb7 q0 q1 hv HVN HVL
            have hli := nextList_any g P n w7 di.s' (by omega) (by omega)
            obtain ⟨q0, q1⟩ := k3.two
            go_wp2_with fail
            refine hli.mono ?_
            rintro e w10 ⟨A2, c2, v2, rfl, hvl2, hvx2, hv2, hd10⟩
            have hvn2 := nums_of (by omega) hvx2
            have k10 := k3.dr hd10 (by decide)
            have o10 := o3.dr hd10 (by decide)
            have hv10 := hv2.base (B' := wo.heap.size) di.size
            have di10 := di.trans hd10
            clear hli hvx2 q0 q1 k3 o3 di hv2 hd10
            go_wp2
            go_roundw
            case rel => exact ⟨j + 1, A2, c2, v2, by omega, by go_num, rfl, hvl2, hvn2, hv10, di10, k10, o10⟩
            case measure => simp [intOf]; omega
          · have e5 : (pz == 0) = false := by simp [hz0]
            go_wp2_with fail
            refine hp1'.mono ?_
            rintro e w7 ⟨rfl, hb7⟩
            replace di := di.then hb7
            replace k3 := k3.below hb7 k3.lt
            replace o3 := o3.below hb7
            replace hv := hv.below hb7
            clear hp1' hb7 q0 q1
            have hp2' := l03Pair_any P A n c sq A1 c1 v A1 c1 v _ hp hp2 hn o3.rd HQ.out hv.rd HVN.out hv.rd HVN.out
            obtain ⟨q0, q1⟩ := k3.two
            by_cases hz : pairL P sq v v = 0
            · rw [hz] at hp2'
              go_wp2_with fail
              refine hp2'.mono ?_
              rintro e w8 ⟨rfl, hb8⟩
              have d8 := di.then hb8
              have k8 := k3.below hb8 k3.lt
              have o8 := o3.below hb8
              have HL8 := Lib.hid (HL.out.dr d8 (by decide) (by decide))
              have D8 := HD.out.trans d8
              clear hp2' di k3 o3 hv hb8
              go_wp2
              go_roundw
              case rel => exact ⟨kk - 1, m, A0, c0, L, by omega, by go_num, rfl, HTL.out, HL8.out, D8, k8, o8⟩
              case measure => simp [intOf]; omega
            · have HZ := Lib.hid hz
              obtain ⟨pv, hpv⟩ : ∃ x, x = pairL P sq v v := ⟨_, rfl⟩
              rw [← hpv] at hp2' hz
              have e9 : (pv != 0) = true := by simp [hz]
              clear hpv hz
              go_wp2_with fail
              refine hp2'.mono ?_
              rintro e w8 ⟨rfl, hb8⟩
              have D8 := Lib.hid (di.then hb8)
              have K8 := Lib.hid (k3.below hb8 k3.lt)
              have O8 := Lib.hid (o3.below hb8)
              have V8 := Lib.hid (hv.below hb8)
              clear hp2' di k3 o3 hv hb8 q0 q1
              go_wp2_with (at_builtin; (refine wpList_pushRow w wo w8 g 143 rfl _ _ rfl A0 m c0 L A1 n c1 v HL.out HD.out D8.out (by decide) (by decide) V8.out (by omega) rfl ?_ ?_; (go_simp); intro A9 c9 w9 h9 d9 kp))
              have HL9 := Lib.hid h9
              have D9 := Lib.hid d9
              have K9 := kp.2 _ _ _ K8.out (by decide)
              have O9 := kp.1 _ _ _ _ _ O8.out
              have HT9 := Lib.hid (show ∀ u ∈ L ++ [v], u.length = n ∧ NumsL P u ∧ ¬ pairL P sq u u = 0 from fun u hu => by
                rcases List.mem_append.1 hu with hu | hu
                · exact HTL.out u hu
                · rw [List.mem_singleton.1 hu]; exact ⟨HVL.out, HVN.out, HZ.out⟩)
              clear h9 d9 kp
              go_wp2
              go_roundw
              case rel => exact ⟨kk - 1, m + 1, A9, c9, L ++ [v], by omega, by go_num, rfl, HT9.out, HL9.out, D9.out, K9, O9⟩
              case measure => simp [intOf]; omega
        · have t2 : decide ((j : Int) < 20) = false := by simp; omega
          have hp2' := l03Pair_any P A n c sq A1 c1 v A1 c1 v _ hp hp2 hn o3.rd HQ.out hv.rd HVN.out hv.rd HVN.out
          obtain ⟨q0, q1⟩ := k3.two
          by_cases hz : pairL P sq v v = 0
          · rw [hz] at hp2'
            go_wp2_with fail
            refine hp2'.mono ?_
            rintro e w8 ⟨rfl, hb8⟩
            have d8 := di.then hb8
            have k8 := k3.below hb8 k3.lt
            have o8 := o3.below hb8
            have HL8 := Lib.hid (HL.out.dr d8 (by decide) (by decide))
            have D8 := HD.out.trans d8
            clear hp2' di k3 o3 hv hb8
            go_wp2
            go_roundw
            case rel => exact ⟨kk - 1, m, A0, c0, L, by omega, by go_num, rfl, HTL.out, HL8.out, D8, k8, o8⟩
            case measure => simp [intOf]; omega
          · have HZ := Lib.hid hz
            obtain ⟨pv, hpv⟩ : ∃ x, x = pairL P sq v v := ⟨_, rfl⟩
            rw [← hpv] at hp2' hz
            have e9 : (pv != 0) = true := by simp [hz]
            clear hpv hz
            go_wp2_with fail
            refine hp2'.mono ?_
            rintro e w8 ⟨rfl, hb8⟩
            have D8 := Lib.hid (di.then hb8)
            have K8 := Lib.hid (k3.below hb8 k3.lt)
            have O8 := Lib.hid (o3.below hb8)
            have V8 := Lib.hid (hv.below hb8)
            clear hp2' di k3 o3 hv hb8 q0 q1
            go_wp2_with (at_builtin; (refine wpList_pushRow w wo w8 g 143 rfl _ _ rfl A0 m c0 L A1 n c1 v HL.out HD.out D8.out (by decide) (by decide) V8.out (by omega) rfl ?_ ?_; (go_simp); intro A9 c9 w9 h9 d9 kp))
            have HL9 := Lib.hid h9
            have D9 := Lib.hid d9
            have K9 := kp.2 _ _ _ K8.out (by decide)
            have O9 := kp.1 _ _ _ _ _ O8.out
            have HT9 := Lib.hid (show ∀ u ∈ L ++ [v], u.length = n ∧ NumsL P u ∧ ¬ pairL P sq u u = 0 from fun u hu => by
              rcases List.mem_append.1 hu with hu | hu
              · exact HTL.out u hu
              · rw [List.mem_singleton.1 hu]; exact ⟨HVL.out, HVN.out, HZ.out⟩)
            clear h9 d9 kp
            go_wp2
            go_roundw
            case rel => exact ⟨kk - 1, m + 1, A9, c9, L ++ [v], by omega, by go_num, rfl, HT9.out, HL9.out, D9.out, K9, O9⟩
            case measure => simp [intOf]; omega
    · have t1 : decide ((0 : Int) < (kk : Int)) = false := by simp; omega
      go_wp2
      go_ret
      exact ⟨A0, m, c0, L, rfl, by omega, HTL.out, HL.out, HD.out⟩
end Go.Proofs.YtggigolkncckoaaGreat
namespace Go.Proofs.YtggigolkncckoaaGreat
open Go.RowKit
/-- What drawing, or the store of a space into the result's cell, does. -/
def RelB (g res : Nat) (w w' : World) : Prop := Dr g 143 w w' ∨ ∃ (p : Int) (A : Option Addr) (n c : Nat) (p' : Int) (A' : Option Addr) (n' c' : Nat), Blk w res 26 #[.int .i64 p, .slice A n c] ∧ w' = (w.setCell ⟨res, 0, none⟩ (.int .i64 p')).setCell ⟨res, 1, none⟩ (.slice A' n' c')
section
variable {w w' : World} {g res : Nat}
theorem Own.relB {B : Nat} {A : Option Addr} {n c : Nat} {us : List Value} (h : Own w B 2 A n c us) (r : RelB g res w w') : Own w' B 2 A n c us := by
  rcases r with d | ⟨p, A1, n1, c1, p', A', n', c', k, rfl⟩
  · exact h.dr d (by decide)
  · exact (h.far k (by decide) 0 _).far (k.set_ 0 (.int .i64 p')) (by decide) 1 _
theorem OwnM.relB {B : Nat} {A : Option Addr} {n c : Nat} {xss : List (List Int)} (h : OwnM w B A n c xss) (r : RelB g res w w') : OwnM w' B A n c xss := by
  obtain ⟨rows, ho, hn⟩ := h
  refine ⟨rows, ?_, hn.len, fun k hk => by obtain ⟨A1, c1, e, h3⟩ := hn.row k hk; exact ⟨A1, c1, e, h3.relB r⟩, hn.apart⟩
  rcases r with d | ⟨p, A1, n1, c1, p', A', n', c', k, rfl⟩
  · exact ho.dr d (by decide)
  · exact (ho.far k (by decide) 0 _).far (k.set_ 0 (.int .i64 p')) (by decide) 1 _
theorem Blk.relB {b : Nat} {cs : Array Value} (h : Blk w b 26 cs) (hne : b ≠ res) (r : RelB g res w w') : Blk w' b 26 cs := by
  rcases r with d | ⟨p, A1, n1, c1, p', A', n', c', k, rfl⟩
  · exact h.dr d (by decide)
  · exact (h.far hne _).far hne _
theorem Src.farSet {p : Int} {A : Option Addr} {n c : Nat} {i : Nat} {u : Value} (h : Src w g 143) (k : Blk w res 26 #[.int .i64 p, .slice A n c]) : Src (w.setCell ⟨res, i, none⟩ u) g 143 := by
  obtain ⟨B, nb, cb, bs, pl, h0, kg, r, h1, h2, h3, h4⟩ := h
  have hne : g ≠ res := fun e => by
    subst e
    unfold Blk at kg k
    rw [kg] at k
    injection k with k
    injection k with _ k
    exact absurd k (by decide)
  refine ⟨B, nb, cb, bs, pl, h0, kg.far hne u, ⟨r.1, fun hn0 => ?_⟩, h1, h2, h3, h4⟩
  obtain ⟨gb, ob, e, hc⟩ := r.2 hn0
  refine ⟨gb, ob, e, fun j v hv => ?_⟩
  have hcell := hc j v hv
  have hgb : gb ≠ res := fun e => by
    subst e
    rw [k.cell] at hcell
    obtain ⟨b, _, rfl⟩ := List.mem_map.1 (List.mem_of_getElem? hv)
    match ob + j, hcell with
    | 0, hcell => simp at hcell
    | 1, hcell => simp at hcell
    | _ + 2, hcell => simp at hcell
  rw [World.cell?_setCell_far _ _ _ _ (fun e => hgb e.symm)]
  exact hcell
theorem Src.relB (h : Src w g 143) (r : RelB g res w w') : Src w' g 143 := by
  rcases r with d | ⟨p, A1, n1, c1, p', A', n', c', k, rfl⟩
  · exact d.s'
  · exact (h.farSet k).farSet (p := p') (A := A1) (n := n1) (c := c1) (k.set_ 0 (.int .i64 p'))
/-- The result's cell holds a space. -/
def SB (res : Nat) (w : World) : Prop := ∃ (p : Int) (A : Option Addr) (n c : Nat), Blk w res 26 #[.int .i64 p, .slice A n c]
theorem SB.below (h : SB res w) (hb : Below w.heap.size w w') : SB res w' := by obtain ⟨p, A, n, c, k⟩ := h; exact ⟨p, A, n, c, k.below hb k.lt⟩
theorem Blk.stored {p' : Int} {A' : Option Addr} {n' c' : Nat} {a b : Value} (k : Blk w res 26 #[a, b]) : Blk ((w.setCell ⟨res, 0, none⟩ (.int .i64 p')).setCell ⟨res, 1, none⟩ (.slice A' n' c')) res 26 #[.int .i64 p', .slice A' n' c'] := by
  simpa using (k.set_ 0 (.int .i64 p')).set_ 1 (.slice A' n' c')
theorem SB.relB (h : SB res w) (r : RelB g res w w') : SB res w' := by
  rcases r with d | ⟨p, A1, n1, c1, p', A', n', c', k, rfl⟩
  · obtain ⟨p, A, n, c, k⟩ := h; exact ⟨p, A, n, c, k.dr d (by decide)⟩
  · exact ⟨p', A', n', c', k.stored⟩
end
end Go.Proofs.YtggigolkncckoaaGreat
namespace Go.Proofs.YtggigolkncckoaaGreat
open Go.RowKit
/-- The length of a slice. -/
def lenV : Value → Nat
  | .slice _ n _ => n
  | _ => 0
set_option maxHeartbeats 6400000 in
set_option maxRecDepth 8000 in
theorem l03DrawList_any (g : Nat) (P : Int) (A : Option Addr) (n c : Nat) (most : Nat) (w : World) (hs : Src w g 143) (hp : P ≤ 1048576) (hn : n ≤ 1000) (hm : most ≤ 16) :
    Calls Tryz.prog 166 #[.pointer (some ⟨g, 0, none⟩), .agg #[.int .i64 P, .slice A n c], .int .i64 most] w fun e w' => ∃ (A' : Option Addr) (m c' : Nat) (L : List (List Int)), e = .returned (.slice A' m c') ∧ m ≤ 17 ∧ (∀ v ∈ L, v.length ≤ n + 1) ∧ OwnM w' w.heap.size A' m c' L ∧ Dr g 143 w w' := by
  have k0 : Blk (w.alloc (.cells #[.int .i64 P, .slice A n c] 26)) w.heap.size 26 #[.int .i64 P, .slice A n c] := Blk.new _ _ _
  have d0 := (Dr.refl hs).alloc (.cells #[.int .i64 P, .slice A n c] 26)
  have k1 := k0.alloc (.cells #[] 24)
  have d1 := d0.alloc (.cells #[] 24)
  have l1 := OwnM.empty (w.alloc (.cells #[.int .i64 P, .slice A n c] 26)) (B := w.heap.size) (by simp)
  have e9 : (w.alloc (.cells #[.int .i64 P, .slice A n c] 26)).heap.size = w.heap.size + 1 := by simp
  rw [e9] at l1
  have hnx := next_any g ((most : Int) + 1) _ d1.s' (by omega)
  have hmk := make_i (P := Tryz.prog) 24 2 Tryz.underlying24 info_i n (by omega)
  clear k0 d0
  go_enter Tryz.func166, Tryz.ntmps166
  go_wp2_with fail
  refine hnx.mono ?_
  rintro e w2 ⟨r, rfl, hr1, hr2, hd2⟩
  obtain ⟨rn, rfl⟩ : ∃ rn : Nat, r = rn := ⟨r.toNat, by omega⟩
  have hr3 := hr2 (by omega)
  have D2 := d1.trans hd2
  have K2 := k1.dr hd2 (by decide)
  have L2 := l1.dr hd2 (by decide) (by decide)
  clear hnx d1 k1 l1 hd2
  go_wp2
  go_loopw [7, 8] (fun l i wr => ∃ (kk m : Nat) (A0 : Option Addr) (c0 : Nat) (L : List (List Int)), m + kk ≤ most ∧ i = .int .i64 kk ∧ l = .slice A0 m c0 ∧ (∀ v ∈ L, v.length ≤ n + 1) ∧ OwnM wr w.heap.size A0 m c0 L ∧ Dr g 143 w wr ∧ Blk wr w.heap.size 26 #[.int .i64 P, .slice A n c]) (fun _ i _ => (intOf i).toNat)
  case atStart => exact ⟨rn, 0, _, _, [], by omega, rfl, rfl, by simp, L2, D2, K2⟩
  case round =>
    obtain ⟨kk, m, A0, c0, L, hmk2, rfl, rfl, hTL, hL, hD, hK⟩ := hrel
    clear L2 D2 K2
    obtain ⟨wo, rfl⟩ : ∃ W, W = wr := ⟨_, rfl⟩
    have HTL := Lib.hid hTL
    have HL := Lib.hid hL
    have HD := Lib.hid hD
    clear hTL hL
    by_cases hk0 : 0 < kk
    · have t1 : decide ((0 : Int) < (kk : Int)) = true := by simp; omega
      have W5 : wrap64 ((kk : Int) - 1) = ((kk - 1 : Nat) : Int) := by unfold wrap64; omega
      obtain ⟨q0, q1⟩ := hK.two
      have hdv := l03DrawVector_any g P A n c wo hD.s' hp (by omega)
      clear hmk
      go_wp2_with fail
      refine hdv.mono ?_
      rintro e w3 ⟨A1, m1, c1, v, rfl, hm1, hv, hd3⟩
      have D8 := Lib.hid hd3
      have K8 := Lib.hid (hK.dr hd3 (by decide))
      have V8 := Lib.hid hv
      have HVL := Lib.hid (show v.length ≤ n + 1 by rw [hv.rd.lenI]; exact hm1)
      clear hdv hd3 hK hv q0 q1 hD
      go_wp2_with (at_builtin; (refine wpList_pushRow w wo w3 g 143 rfl _ _ rfl A0 m c0 L A1 m1 c1 v HL.out HD.out D8.out (by decide) (by decide) V8.out (by omega) rfl ?_ ?_; (go_simp); intro A9 c9 w9 h9 d9 kp))
      have HL9 := Lib.hid h9
      have D9 := Lib.hid d9
      have K9 := kp.2 _ _ _ K8.out (by decide)
      have HT9 := Lib.hid (show ∀ u ∈ L ++ [v], u.length ≤ n + 1 from fun u hu => by
        rcases List.mem_append.1 hu with hu | hu
        · exact HTL.out u hu
        · rw [List.mem_singleton.1 hu]; exact HVL.out)
      clear h9 d9 kp
      go_wp2
      go_roundw
      case rel => exact ⟨kk - 1, m + 1, A9, c9, L ++ [v], by omega, by go_num, rfl, HT9.out, HL9.out, D9.out, K9⟩
      case measure => simp [intOf]; omega
    · have t1 : decide ((0 : Int) < (kk : Int)) = false := by simp; omega
      have hnx := next_any g 40 wo hD.s' (by omega)
      go_wp2_with fail
      refine hnx.mono ?_
      rintro e w3 ⟨r9, rfl, _, _, hd3⟩
      have K3 := hK.dr hd3 (by decide)
      have L3 := HL.out.dr hd3 (by decide) (by decide)
      have D3 := hD.trans hd3
      clear hnx hd3 hK hD HL HD
      by_cases h9 : r9 = 0
      · have e9 : (r9 == 0) = true := by simp [h9]
        go_wp2
        go_loopw [7] (fun l wr => ∃ (m : Nat) (A0 : Option Addr) (c0 : Nat) (L : List (List Int)), m ≤ 17 ∧ l = .slice A0 m c0 ∧ (∀ v ∈ L, v.length ≤ n + 1) ∧ OwnM wr w.heap.size A0 m c0 L ∧ Dr g 143 w wr ∧ Blk wr w.heap.size 26 #[.int .i64 P, .slice A n c]) (fun l _ => 17 - (lenV l))
        case atStart => exact ⟨m, A0, c0, L, by omega, rfl, HTL.out, L3, D3, K3⟩
        case round =>
          clear HTL L3 D3 K3
          obtain ⟨m, A0, c0, L, hm17, rfl, hTL, hL, hD, hK⟩ := hrel
          obtain ⟨wo, rfl⟩ : ∃ W, W = wr := ⟨_, rfl⟩
          have HTL := Lib.hid hTL
          have HL := Lib.hid hL
          have HD := Lib.hid hD
          clear hTL hL
          by_cases hlt : m < 17
          · have t2 : decide ((m : Int) < 17) = true := by simp; omega
            obtain ⟨q0, q1⟩ := hK.two
            have hM := Mk.made (E := 2) (n := n) (z := .int .i64 0) (Below.refl wo.heap.size wo) (by simp only [maxLen]; omega)
            rw [ints_replicate] at hM
            have V8 := Lib.hid hM.2
            have D8 := Lib.hid (Dr.of_below hD.s' hM.1)
            have K8 := Lib.hid (hK.below hM.1 hK.lt)
            clear hM hK hD
            go_wp2_with (at_builtin; (refine wpList_pushRow w wo _ g 143 rfl _ _ rfl A0 m c0 L _ n n (List.replicate n 0) HL.out HD.out D8.out (by decide) (by decide) V8.out (by omega) rfl ?_ ?_; (go_simp); intro A9 c9 w9 h9 d9 kp))
            have HL9 := Lib.hid h9
            have D9 := Lib.hid d9
            have K9 := kp.2 _ _ _ K8.out (by decide)
            have HT9 := Lib.hid (show ∀ u ∈ L ++ [List.replicate n 0], u.length ≤ n + 1 from fun u hu => by
              rcases List.mem_append.1 hu with hu | hu
              · exact HTL.out u hu
              · rw [List.mem_singleton.1 hu, List.length_replicate]; omega)
            clear h9 d9 kp
            go_wp2
            go_roundw
            case rel => exact ⟨m + 1, A9, c9, _, by omega, rfl, HT9.out, HL9.out, D9.out, K9⟩
            case measure => simp [lenV]; omega
          · have t2 : decide ((m : Int) < 17) = false := by simp; omega
            go_wp2
            go_ret
            exact ⟨A0, m, c0, L, rfl, hm17, HTL.out, HL.out, hD⟩
      · have e9 : (r9 == 0) = false := by simp [h9]
        go_wp2
        go_ret
        exact ⟨A0, m, c0, L, rfl, by omega, HTL.out, L3, D3⟩
/-- A space and a list of vectors, drawn. -/
def DrewM (w : World) (e : Ending) (w' : World) : Prop := ∃ (P : Int) (A : Option Addr) (n c : Nat) (sq : List Int) (AL : Option Addr) (m cl : Nat) (L : List (List Int)), e = .returned (.tuple #[.agg #[.int .i64 P, .slice A n c], .slice AL m cl]) ∧ P ≤ 17 ∧ n ≤ 7 ∧ m ≤ 17 ∧ (∀ v ∈ L, v.length ≤ 8) ∧ Own w' w.heap.size 2 A n c (ints sq) ∧ OwnM w' w.heap.size AL m cl L ∧ Below w.heap.size w w'
/-- The value is a list of at most 17 lists of at most 8 numbers, made since the heap had B blocks. -/
def VLm (B : Nat) : VP := ⟨fun v w => ∃ (A : Option Addr) (m c : Nat) (L : List (List Int)), v = .slice A m c ∧ m ≤ 17 ∧ (∀ v ∈ L, v.length ≤ 8) ∧ OwnM w B A m c L, fun _ _ _ ⟨A, m, c, L, e, hm, hl, ho⟩ hb => ⟨A, m, c, L, e, hm, hl, ho.below hb⟩⟩
theorem VLm.dr {B g : Nat} {T : TypeId} {v : Value} {w w' : World} (h : (VLm B).p v w) (d : Dr g T w w') (h1 : 24 ≠ T) (h2 : 2 ≠ T) : (VLm B).p v w' := by
  obtain ⟨A, m, c, L, e, hm, hl, ho⟩ := h
  exact ⟨A, m, c, L, e, hm, hl, ho.dr d h1 h2⟩
set_option maxHeartbeats 12800000 in
set_option maxRecDepth 8000 in
theorem DrawVersorOf_any (B : Option Addr) (nb cb : Nat) (bs : List Int) (w : World) (hnb : nb ≤ 4096) (r : Rd w B nb (bs.map (Value.int .u8))) (hbs : ∀ b ∈ bs, 0 ≤ b ∧ b < 256) (hbg : ∀ a, B = some a → a.block < w.heap.size) :
    Calls Tryz.prog 39 #[.slice B nb cb] w (DrewM w) := by
  have hB0 : Below w.heap.size w (w.alloc (.cells #[.int .i64 0, .slice none 0 0] 26)) := (Below.refl _ _).alloc (Nat.le_refl _) _
  have k0 : Blk (w.alloc (.cells #[.int .i64 0, .slice none 0 0] 26)) w.heap.size 26 #[.int .i64 0, .slice none 0 0] := Blk.new _ _ _
  have hfr := from__any B nb cb bs (w.alloc (.cells #[.int .i64 0, .slice none 0 0] 26)) hnb (r.below hB0) hbs (fun a e => by have := hbg a e; simp; omega)
  go_enter Tryz.func39, Tryz.ntmps39
  go_wp2_with fail
  refine hfr.mono ?_
  rintro e w2 ⟨g, rfl, hg, hs2, hb2⟩
  have k2 := k0.below hb2 k0.lt
  have hB2 := hB0.trans (hb2.mono hB0.size)
  have hw := hB2.size
  have hgw : w.heap.size ≤ g := Nat.le_trans hB0.size hg
  have hsp := l07Space_any g w2 hs2
  clear hfr hb2 k0 hB0 hg
  go_wp2_with fail
  refine hsp.mono ?_
  rintro e w3 ⟨P, A, n, c, sq, rfl, hP, hn, hO, hd3⟩
  have d4 := hd3.alloc (.cells #[.int .i64 P, .slice A n c] 26)
  have k4 := (k2.dr hd3 (by decide)).alloc (.cells #[.int .i64 P, .slice A n c] 26)
  have kb4 : Blk (w3.alloc (.cells #[.int .i64 P, .slice A n c] 26)) w3.heap.size 26 #[.int .i64 P, .slice A n c] := Blk.new _ _ _
  have hres : w.heap.size < w3.heap.size := Nat.lt_of_lt_of_le (show w.heap.size < w2.heap.size from k2.lt) hd3.size
  have o4 := (hO.base (B' := w.heap.size) hw).below ((Below.refl _ _).alloc (Nat.le_refl _) (.cells #[.int .i64 P, .slice A n c] 26))
  clear hsp k2 hO hd3
  have hsl := o4.rd.lenI
  cases h1 : isSp P sq
  · have his := l03Is_b P A n c sq _ (by omega) o4.rd h1
    clear h1 hsl
    obtain ⟨q0, q1⟩ := kb4.two
    go_wp2_with fail
    refine his.mono ?_
    rintro e w7 ⟨rfl, hb7⟩
    have d5 := d4.then hb7
    have k5 := k4.below hb7 k4.lt
    have kb5 := kb4.below hb7 kb4.lt
    have o5 := o4.below hb7
    clear his hb7 q0 q1 d4 k4 kb4 o4
    obtain ⟨q0, q1⟩ := kb5.two
    go_wp2
    refine wp_obsR 4 (Dr g 143) [[], [], [], [1, 2], [0, 1, 2, 3], [0, 1, 2, 3]] [[], [], [], [99]] (fun x => [VIs (.agg #[.int .i64 P, .slice A n c]), VIs (.pointer (some ⟨g, 0, none⟩)), VIs (.agg #[.int .i64 P, .slice A n c]), VLm w.heap.size]) (fun w' => Blk w' w.heap.size 26 #[.int .i64 0, .slice none 0 0] ∧ Blk w' w3.heap.size 26 #[.int .i64 P, .slice A n c] ∧ Own w' w.heap.size 2 A n c (ints sq) ∧ Dr g 143 w2 w') (by kernel_rfl) (by kernel_rfl) (fun x x' j hx => by
        rcases j with _ | _ | _ | _ | j
        · rfl
        · rfl
        · rfl
        · rfl
        · rfl)
      (weak_ofR [0, 1, 2, 3] (by decide) (fun k hk x v w w' hp hr => by
        simp only [List.mem_cons, List.not_mem_nil, or_false] at hk
        rcases hk with rfl | rfl | rfl | rfl
        · exact hp
        · exact hp
        · exact hp
        · exact VLm.dr hp hr (by decide) (by decide))) (fun j _ _ h hb => hb.either (fun hb => ⟨h.1.below hb h.1.lt, h.2.1.below hb h.2.1.lt, h.2.2.1.below hb, h.2.2.2.then hb⟩) (fun hr => ⟨h.1.dr hr (by decide), h.2.1.dr hr (by decide), h.2.2.1.dr hr (by decide), h.2.2.2.trans hr⟩)) (⟨k5.drew, kb5.drew, o5.below (Below.refl _ _).drew, d5.then (Below.refl _ _).drew⟩) (fun x => ?_)
    refine obs_stepR (Eq.trans (by simp only [List.getElem?_toArray, List.getElem?_cons_zero]; exact rfl) rfl) rfl (fun w' hS hV K hK => ?_) ?_
    · obtain ⟨q0, q1⟩ := hS.2.1.two
      go_simp
      exact hK.out _ _ _ rfl rfl rfl (Below.refl _ _)
    simp only [List.setIfInBounds_toArray, List.set_cons_zero, List.set_cons_succ]
    refine obs_stepR (Eq.trans (by simp only [List.getElem?_toArray, List.getElem?_cons_succ, List.getElem?_cons_zero]; exact rfl) rfl) rfl (fun w' hS hV K hK => ?_) ?_
    · obtain ⟨q0, q1⟩ := hS.2.1.two
      go_simp
      exact hK.out _ _ _ rfl rfl rfl (Below.refl _ _)
    simp only [List.setIfInBounds_toArray, List.set_cons_zero, List.set_cons_succ]
    refine obs_stepR (Eq.trans (by simp only [List.getElem?_toArray, List.getElem?_cons_succ, List.getElem?_cons_zero]; exact rfl) rfl) rfl (fun w' hS hV K hK => ?_) ?_
    · obtain ⟨q0, q1⟩ := hS.2.1.two
      go_simp
      exact hK.out _ _ _ rfl rfl rfl (Below.refl _ _)
    simp only [List.setIfInBounds_toArray, List.set_cons_zero, List.set_cons_succ]
    refine obs_stepR (Eq.trans (by simp only [List.getElem?_toArray, List.getElem?_cons_succ, List.getElem?_cons_zero]; exact rfl) rfl) rfl (fun w' hS hV K hK => ?_) ?_
    · have e1 : x 1 = (.pointer (some ⟨g, 0, none⟩)) := hV 1 (by decide)
      have e2 : x 2 = (.agg #[.int .i64 P, .slice A n c]) := hV 2 (by decide)
      obtain ⟨q0, q1⟩ := hS.2.1.two
      go_simp
      refine (l03DrawList_any g P A n c 4 w' hS.2.2.2.s' (by omega) (by omega) (by omega)).mono ?_
      rintro e v1 ⟨A9, m9, c9, L9, rfl, hm9, ht9, ho9, hd9⟩
      exact hK.out _ _ _ rfl rfl ⟨_, _, _, L9, rfl, hm9, fun v hv => by have := ht9 v hv; omega, ho9.base (Nat.le_trans hw hS.2.2.2.size)⟩ hd9
    simp only [List.setIfInBounds_toArray, List.set_cons_zero, List.set_cons_succ]
    refine fun w' hS hV => ?_
    have e0 : x 0 = (.agg #[.int .i64 P, .slice A n c]) := hV 0 (by decide)
    have e1 : x 1 = (.pointer (some ⟨g, 0, none⟩)) := hV 1 (by decide)
    have e2 : x 2 = (.agg #[.int .i64 P, .slice A n c]) := hV 2 (by decide)
    obtain ⟨A3, m3, c3, L3, e3, l3, t3, h3⟩ := hV 3 (by decide)
    simp only [e0, e1, e2, e3]
    clear e0 e1 e2 e3
    obtain ⟨k6, kb6, o6, d6⟩ := hS
    obtain ⟨w6, rfl⟩ : ∃ W, W = w' := ⟨_, rfl⟩
    clear q0 q1 k5 kb5 o5 d5
    obtain ⟨p0, p1⟩ := k6.two
    have f0 := k6.frozen 0
    have f1 := k6.frozen 1
    refine any_one (j := 4) (by kernel_rfl) (Eq.trans (by simp only [List.getElem?_toArray, List.getElem?_cons_succ, List.getElem?_cons_zero]; exact rfl) rfl) (fun K hK => ?_)
    go_simp
    refine hK.out _ _ (any_one (j := 5) (by kernel_rfl) (Eq.trans (by simp only [List.getElem?_toArray, List.getElem?_cons_succ, List.getElem?_cons_zero]; exact rfl) rfl) (fun K hK => ?_))
    go_simp
    refine hK.out _ _ (wpAny_done (by kernel_rfl) ?_ _)
    have hf : ∀ {m d : Nat} {A2 : Option Addr} {xs : List Int}, Own w6 w.heap.size 2 A2 m d (ints xs) → Own ((w6.setCell ⟨w.heap.size, 0, none⟩ (.int .i64 P)).setCell ⟨w.heap.size, 1, none⟩ (.slice A n c)) w.heap.size 2 A2 m d (ints xs) := by
      intro m c' A' xs ho
      exact (ho.far k6 (by decide) 0 _).far (k6.set_ 0 (.int .i64 P)) (by decide) 1 _
    have hfM : OwnM ((w6.setCell ⟨w.heap.size, 0, none⟩ (.int .i64 P)).setCell ⟨w.heap.size, 1, none⟩ (.slice A n c)) w.heap.size A3 m3 c3 L3 := h3.relB (g := g) (.inr ⟨_, _, _, _, _, _, _, _, k6, rfl⟩)
    go_wp2
    exact bodyPost_ret (v := .tuple #[.agg #[.int .i64 P, .slice A n c], .slice A3 m3 c3]) (by simp [results, Tryz.results39, go_sem, p0, p1]) rfl ⟨P, A, n, c, sq, A3, m3, c3, L3, rfl, hP, hn, l3, t3, hf o6, hfM, hB2.trans (((d6.b.mono hgw).setCell (p := ⟨w.heap.size, 0, none⟩) (Nat.le_refl _) _).setCell (p := ⟨w.heap.size, 1, none⟩) (Nat.le_refl _) _)⟩
  · have his := l03Is_b P A n c sq _ (by omega) o4.rd h1
    obtain ⟨HP, hn1, hn2, hq⟩ := isSp_dim h1
    have HQ := Lib.hid (nums_drawn hq)
    rw [hsl] at hn1 hn2
    clear h1 hq hsl
    obtain ⟨q0, q1⟩ := kb4.two
    go_wp2_with fail
    refine his.mono ?_
    rintro e w7 ⟨rfl, hb7⟩
    have d5 := d4.then hb7
    have k5 := k4.below hb7 k4.lt
    have kb5 := kb4.below hb7 kb4.lt
    have o5 := o4.below hb7
    clear his hb7 q0 q1 d4 k4 kb4 o4
    have hnx := next_any g 6 w7 d5.s' (by omega)
    go_wp2_with fail
    refine hnx.mono ?_
    rintro e w8 ⟨r8, rfl, _, _, hd8⟩
    replace d5 := d5.trans hd8
    replace k5 := k5.dr hd8 (by decide)
    replace kb5 := kb5.dr hd8 (by decide)
    replace o5 := o5.dr hd8 (by decide)
    clear hnx hd8
    by_cases h8 : r8 = 0
    · have e8 : (r8 == 0) = true := by simp [h8]
      obtain ⟨q0, q1⟩ := kb5.two
      go_wp2
      refine wp_obsR 4 (Dr g 143) [[], [], [], [1, 2], [0, 1, 2, 3], [0, 1, 2, 3]] [[], [], [], [99]] (fun x => [VIs (.agg #[.int .i64 P, .slice A n c]), VIs (.pointer (some ⟨g, 0, none⟩)), VIs (.agg #[.int .i64 P, .slice A n c]), VLm w.heap.size]) (fun w' => Blk w' w.heap.size 26 #[.int .i64 0, .slice none 0 0] ∧ Blk w' w3.heap.size 26 #[.int .i64 P, .slice A n c] ∧ Own w' w.heap.size 2 A n c (ints sq) ∧ Dr g 143 w2 w') (by kernel_rfl) (by kernel_rfl) (fun x x' j hx => by
          rcases j with _ | _ | _ | _ | j
          · rfl
          · rfl
          · rfl
          · rfl
          · rfl)
        (weak_ofR [0, 1, 2, 3] (by decide) (fun k hk x v w w' hp hr => by
          simp only [List.mem_cons, List.not_mem_nil, or_false] at hk
          rcases hk with rfl | rfl | rfl | rfl
          · exact hp
          · exact hp
          · exact hp
          · exact VLm.dr hp hr (by decide) (by decide))) (fun j _ _ h hb => hb.either (fun hb => ⟨h.1.below hb h.1.lt, h.2.1.below hb h.2.1.lt, h.2.2.1.below hb, h.2.2.2.then hb⟩) (fun hr => ⟨h.1.dr hr (by decide), h.2.1.dr hr (by decide), h.2.2.1.dr hr (by decide), h.2.2.2.trans hr⟩)) (⟨k5.drew, kb5.drew, o5.below (Below.refl _ _).drew, d5.then (Below.refl _ _).drew⟩) (fun x => ?_)
      refine obs_stepR (Eq.trans (by simp only [List.getElem?_toArray, List.getElem?_cons_zero]; exact rfl) rfl) rfl (fun w' hS hV K hK => ?_) ?_
      · obtain ⟨q0, q1⟩ := hS.2.1.two
        go_simp
        exact hK.out _ _ _ rfl rfl rfl (Below.refl _ _)
      simp only [List.setIfInBounds_toArray, List.set_cons_zero, List.set_cons_succ]
      refine obs_stepR (Eq.trans (by simp only [List.getElem?_toArray, List.getElem?_cons_succ, List.getElem?_cons_zero]; exact rfl) rfl) rfl (fun w' hS hV K hK => ?_) ?_
      · obtain ⟨q0, q1⟩ := hS.2.1.two
        go_simp
        exact hK.out _ _ _ rfl rfl rfl (Below.refl _ _)
      simp only [List.setIfInBounds_toArray, List.set_cons_zero, List.set_cons_succ]
      refine obs_stepR (Eq.trans (by simp only [List.getElem?_toArray, List.getElem?_cons_succ, List.getElem?_cons_zero]; exact rfl) rfl) rfl (fun w' hS hV K hK => ?_) ?_
      · obtain ⟨q0, q1⟩ := hS.2.1.two
        go_simp
        exact hK.out _ _ _ rfl rfl rfl (Below.refl _ _)
      simp only [List.setIfInBounds_toArray, List.set_cons_zero, List.set_cons_succ]
      refine obs_stepR (Eq.trans (by simp only [List.getElem?_toArray, List.getElem?_cons_succ, List.getElem?_cons_zero]; exact rfl) rfl) rfl (fun w' hS hV K hK => ?_) ?_
      · have e1 : x 1 = (.pointer (some ⟨g, 0, none⟩)) := hV 1 (by decide)
        have e2 : x 2 = (.agg #[.int .i64 P, .slice A n c]) := hV 2 (by decide)
        obtain ⟨q0, q1⟩ := hS.2.1.two
        go_simp
        refine (l03DrawList_any g P A n c 4 w' hS.2.2.2.s' (by omega) (by omega) (by omega)).mono ?_
        rintro e v1 ⟨A9, m9, c9, L9, rfl, hm9, ht9, ho9, hd9⟩
        exact hK.out _ _ _ rfl rfl ⟨_, _, _, L9, rfl, hm9, fun v hv => by have := ht9 v hv; omega, ho9.base (Nat.le_trans hw hS.2.2.2.size)⟩ hd9
      simp only [List.setIfInBounds_toArray, List.set_cons_zero, List.set_cons_succ]
      refine fun w' hS hV => ?_
      have e0 : x 0 = (.agg #[.int .i64 P, .slice A n c]) := hV 0 (by decide)
      have e1 : x 1 = (.pointer (some ⟨g, 0, none⟩)) := hV 1 (by decide)
      have e2 : x 2 = (.agg #[.int .i64 P, .slice A n c]) := hV 2 (by decide)
      obtain ⟨A3, m3, c3, L3, e3, l3, t3, h3⟩ := hV 3 (by decide)
      simp only [e0, e1, e2, e3]
      clear e0 e1 e2 e3
      obtain ⟨k6, kb6, o6, d6⟩ := hS
      obtain ⟨w6, rfl⟩ : ∃ W, W = w' := ⟨_, rfl⟩
      clear q0 q1 k5 kb5 o5 d5
      obtain ⟨p0, p1⟩ := k6.two
      have f0 := k6.frozen 0
      have f1 := k6.frozen 1
      refine any_one (j := 4) (by kernel_rfl) (Eq.trans (by simp only [List.getElem?_toArray, List.getElem?_cons_succ, List.getElem?_cons_zero]; exact rfl) rfl) (fun K hK => ?_)
      go_simp
      refine hK.out _ _ (any_one (j := 5) (by kernel_rfl) (Eq.trans (by simp only [List.getElem?_toArray, List.getElem?_cons_succ, List.getElem?_cons_zero]; exact rfl) rfl) (fun K hK => ?_))
      go_simp
      refine hK.out _ _ (wpAny_done (by kernel_rfl) ?_ _)
      have hf : ∀ {m d : Nat} {A2 : Option Addr} {xs : List Int}, Own w6 w.heap.size 2 A2 m d (ints xs) → Own ((w6.setCell ⟨w.heap.size, 0, none⟩ (.int .i64 P)).setCell ⟨w.heap.size, 1, none⟩ (.slice A n c)) w.heap.size 2 A2 m d (ints xs) := by
        intro m c' A' xs ho
        exact (ho.far k6 (by decide) 0 _).far (k6.set_ 0 (.int .i64 P)) (by decide) 1 _
      have hfM : OwnM ((w6.setCell ⟨w.heap.size, 0, none⟩ (.int .i64 P)).setCell ⟨w.heap.size, 1, none⟩ (.slice A n c)) w.heap.size A3 m3 c3 L3 := h3.relB (g := g) (.inr ⟨_, _, _, _, _, _, _, _, k6, rfl⟩)
      go_wp2
      exact bodyPost_ret (v := .tuple #[.agg #[.int .i64 P, .slice A n c], .slice A3 m3 c3]) (by simp [results, Tryz.results39, go_sem, p0, p1]) rfl ⟨P, A, n, c, sq, A3, m3, c3, L3, rfl, hP, hn, l3, t3, hf o6, hfM, hB2.trans (((d6.b.mono hgw).setCell (p := ⟨w.heap.size, 0, none⟩) (Nat.le_refl _) _).setCell (p := ⟨w.heap.size, 1, none⟩) (Nat.le_refl _) _)⟩
    · have e8 : (r8 == 0) = false := by simp [h8]
      obtain ⟨q0, q1⟩ := kb5.two
      go_wp2
      refine wp_obsR 4 (Dr g 143) [[], [], [], [1, 2], [0, 1, 2, 3], [0, 1, 2, 3]] [[], [], [], [99]] (fun x => [VIs (.agg #[.int .i64 P, .slice A n c]), VIs (.pointer (some ⟨g, 0, none⟩)), VIs (.agg #[.int .i64 P, .slice A n c]), VLm w.heap.size]) (fun w' => Blk w' w.heap.size 26 #[.int .i64 0, .slice none 0 0] ∧ Blk w' w3.heap.size 26 #[.int .i64 P, .slice A n c] ∧ Own w' w.heap.size 2 A n c (ints sq) ∧ Dr g 143 w2 w') (by kernel_rfl) (by kernel_rfl) (fun x x' j hx => by
          rcases j with _ | _ | _ | _ | j
          · rfl
          · rfl
          · rfl
          · rfl
          · rfl)
        (weak_ofR [0, 1, 2, 3] (by decide) (fun k hk x v w w' hp hr => by
          simp only [List.mem_cons, List.not_mem_nil, or_false] at hk
          rcases hk with rfl | rfl | rfl | rfl
          · exact hp
          · exact hp
          · exact hp
          · exact VLm.dr hp hr (by decide) (by decide))) (fun j _ _ h hb => hb.either (fun hb => ⟨h.1.below hb h.1.lt, h.2.1.below hb h.2.1.lt, h.2.2.1.below hb, h.2.2.2.then hb⟩) (fun hr => ⟨h.1.dr hr (by decide), h.2.1.dr hr (by decide), h.2.2.1.dr hr (by decide), h.2.2.2.trans hr⟩)) (⟨k5.drew, kb5.drew, o5.below (Below.refl _ _).drew, d5.then (Below.refl _ _).drew⟩) (fun x => ?_)
      refine obs_stepR (Eq.trans (by simp only [List.getElem?_toArray, List.getElem?_cons_zero]; exact rfl) rfl) rfl (fun w' hS hV K hK => ?_) ?_
      · obtain ⟨q0, q1⟩ := hS.2.1.two
        go_simp
        exact hK.out _ _ _ rfl rfl rfl (Below.refl _ _)
      simp only [List.setIfInBounds_toArray, List.set_cons_zero, List.set_cons_succ]
      refine obs_stepR (Eq.trans (by simp only [List.getElem?_toArray, List.getElem?_cons_succ, List.getElem?_cons_zero]; exact rfl) rfl) rfl (fun w' hS hV K hK => ?_) ?_
      · obtain ⟨q0, q1⟩ := hS.2.1.two
        go_simp
        exact hK.out _ _ _ rfl rfl rfl (Below.refl _ _)
      simp only [List.setIfInBounds_toArray, List.set_cons_zero, List.set_cons_succ]
      refine obs_stepR (Eq.trans (by simp only [List.getElem?_toArray, List.getElem?_cons_succ, List.getElem?_cons_zero]; exact rfl) rfl) rfl (fun w' hS hV K hK => ?_) ?_
      · obtain ⟨q0, q1⟩ := hS.2.1.two
        go_simp
        exact hK.out _ _ _ rfl rfl rfl (Below.refl _ _)
      simp only [List.setIfInBounds_toArray, List.set_cons_zero, List.set_cons_succ]
      refine obs_stepR (Eq.trans (by simp only [List.getElem?_toArray, List.getElem?_cons_succ, List.getElem?_cons_zero]; exact rfl) rfl) rfl (fun w' hS hV K hK => ?_) ?_
      · have e1 : x 1 = (.pointer (some ⟨g, 0, none⟩)) := hV 1 (by decide)
        have e2 : x 2 = (.agg #[.int .i64 P, .slice A n c]) := hV 2 (by decide)
        obtain ⟨q0, q1⟩ := hS.2.1.two
        go_simp
        refine (l07Units_any g P A n c sq 4 w' hS.2.2.2.s' HP hn2 (hS.2.2.1.base (Nat.zero_le _)) HQ.out (by omega)).mono ?_
        rintro e v1 ⟨A9, m9, c9, L9, rfl, hm9, ht9, ho9, hd9⟩
        exact hK.out _ _ _ rfl rfl ⟨_, _, _, L9, rfl, by omega, fun v hv => by have := (ht9 v hv).1; omega, ho9.base (Nat.le_trans hw hS.2.2.2.size)⟩ hd9
      simp only [List.setIfInBounds_toArray, List.set_cons_zero, List.set_cons_succ]
      refine fun w' hS hV => ?_
      have e0 : x 0 = (.agg #[.int .i64 P, .slice A n c]) := hV 0 (by decide)
      have e1 : x 1 = (.pointer (some ⟨g, 0, none⟩)) := hV 1 (by decide)
      have e2 : x 2 = (.agg #[.int .i64 P, .slice A n c]) := hV 2 (by decide)
      obtain ⟨A3, m3, c3, L3, e3, l3, t3, h3⟩ := hV 3 (by decide)
      simp only [e0, e1, e2, e3]
      clear e0 e1 e2 e3
      obtain ⟨k6, kb6, o6, d6⟩ := hS
      obtain ⟨w6, rfl⟩ : ∃ W, W = w' := ⟨_, rfl⟩
      clear q0 q1 k5 kb5 o5 d5
      obtain ⟨p0, p1⟩ := k6.two
      have f0 := k6.frozen 0
      have f1 := k6.frozen 1
      refine any_one (j := 4) (by kernel_rfl) (Eq.trans (by simp only [List.getElem?_toArray, List.getElem?_cons_succ, List.getElem?_cons_zero]; exact rfl) rfl) (fun K hK => ?_)
      go_simp
      refine hK.out _ _ (any_one (j := 5) (by kernel_rfl) (Eq.trans (by simp only [List.getElem?_toArray, List.getElem?_cons_succ, List.getElem?_cons_zero]; exact rfl) rfl) (fun K hK => ?_))
      go_simp
      refine hK.out _ _ (wpAny_done (by kernel_rfl) ?_ _)
      have hf : ∀ {m d : Nat} {A2 : Option Addr} {xs : List Int}, Own w6 w.heap.size 2 A2 m d (ints xs) → Own ((w6.setCell ⟨w.heap.size, 0, none⟩ (.int .i64 P)).setCell ⟨w.heap.size, 1, none⟩ (.slice A n c)) w.heap.size 2 A2 m d (ints xs) := by
        intro m c' A' xs ho
        exact (ho.far k6 (by decide) 0 _).far (k6.set_ 0 (.int .i64 P)) (by decide) 1 _
      have hfM : OwnM ((w6.setCell ⟨w.heap.size, 0, none⟩ (.int .i64 P)).setCell ⟨w.heap.size, 1, none⟩ (.slice A n c)) w.heap.size A3 m3 c3 L3 := h3.relB (g := g) (.inr ⟨_, _, _, _, _, _, _, _, k6, rfl⟩)
      go_wp2
      exact bodyPost_ret (v := .tuple #[.agg #[.int .i64 P, .slice A n c], .slice A3 m3 c3]) (by simp [results, Tryz.results39, go_sem, p0, p1]) rfl ⟨P, A, n, c, sq, A3, m3, c3, L3, rfl, hP, hn, l3, t3, hf o6, hfM, hB2.trans (((d6.b.mono hgw).setCell (p := ⟨w.heap.size, 0, none⟩) (Nat.le_refl _) _).setCell (p := ⟨w.heap.size, 1, none⟩) (Nat.le_refl _) _)⟩
end Go.Proofs.YtggigolkncckoaaGreat
namespace Go.Proofs.YtggigolkncckoaaGreat
open Go.RowKit
set_option maxHeartbeats 400000 in
theorem likeInts_any (A B : Option Addr) (n m c d : Nat) (xs ys : List Int) (w : World) (hn : n ≤ 1099511627776) (hm : m ≤ 1099511627776)
    (ha : Rd w A n (ints xs)) (hb : Rd w B m (ints ys)) :
    Calls Tryz.prog 19 #[.slice A n c, .slice B m d] w fun e w' => e = .returned (.bool (decide (xs = ys))) ∧ ∃ j, w' = w.drewN j := by
  have hxl : xs.length = n := by have := ha.1; rwa [ints_length] at this
  have hyl : ys.length = m := by have := hb.1; rwa [ints_length] at this
  by_cases hnm : n = m
  · subst hnm
    have Hx := Lib.hid hxl; clear hxl
    have Hy := Lib.hid hyl; clear hyl
    go_enter Tryz.func19, Tryz.ntmps19
    go_wp2
    go_loopw [5] (fun i wr => ∃ k j : Nat, k ≤ n ∧ i = .int .i64 k ∧ xs.take k = ys.take k ∧ wr = w.drewN j) (fun i _ => n - (intOf i).toNat)
    case atStart => exact ⟨0, 0, by omega, rfl, by simp, rfl⟩
    case round =>
      obtain ⟨k, j, hk, rfl, hxy, rfl⟩ := hrel
      have H := Lib.hid hxy; clear hxy
      by_cases hlt : k < n
      · obtain ⟨g, o, rfl, hx, hcx⟩ := ha.int hlt
        obtain ⟨g', o', rfl, hy, hcy⟩ := hb.int hlt
        clear ha hb
        go_wp2
        go_quiet (fail)
        go_wp2
        · go_ret
          exact ⟨ret_bool (ne_of_get xs ys k hx hy (by assumption)).symm, _, World.drewN_drewN _ _ _⟩
        · go_roundw
          case rel => exact ⟨k + 1, _, by omega, by go_num, take_succ_eq xs ys k hx hy H.out (by simpa using (by assumption : (xs[k] != ys[k]) = false)), rfl⟩
          case measure => simp [intOf]; omega
      · go_wp2
        go_ret
        refine ⟨ret_bool ?_, _, rfl⟩
        have := H.out
        rw [List.take_of_length_le (by rw [Hx.out]; omega), List.take_of_length_le (by rw [Hy.out]; omega)] at this
        rw [this]; simp
  · have hne : decide (xs = ys) = false := by
      rw [decide_eq_false_iff_not]; rintro rfl; omega
    have Hne := Lib.hid hne; clear hne hxl hyl
    have hb0 : ((n : Int) != (m : Int)) = true := by rw [bne_iff_ne]; omega
    go_enter Tryz.func19, Tryz.ntmps19
    go_wp2
    go_ret
    exact ⟨ret_bool Hne.out.symm, 0, rfl⟩
end Go.Proofs.YtggigolkncckoaaGreat
namespace Go.Proofs.YtggigolkncckoaaGreat
open Go.RowKit
theorem mod5_any (p n : Int) (w : World) (hp : 0 < p) (hp2 : p ≤ 13) :
    Calls Tryz.prog 48 #[.int .i64 p, .int .i64 n] w fun e w' => e = .returned (.int .i64 (n % p)) ∧ w = w' := by
  go_enter Tryz.func48, Tryz.ntmps48
  go_wp2
  go_ret
  exact ⟨ret_int (num_math p n hp hp2), rfl⟩
theorem big_any (A : Option Addr) (n c : Nat) (w : World) :
    Calls Tryz.prog 15 #[.slice A n c] w fun e w' => e = .returned (.bool (decide (4096 < n))) ∧ w = w' := by
  go_enter Tryz.func15, Tryz.ntmps15
  by_cases h : 4096 < n
  · have d1 : decide ((4096 : Int) < (n : Int)) = true := by rw [decide_eq_true_eq]; omega
    go_wp2
    go_ret
    exact ⟨ret_bool (by rw [eq_comm, decide_eq_true_eq]; exact h), rfl⟩
  · have d1 : decide ((4096 : Int) < (n : Int)) = false := by rw [decide_eq_false_iff_not]; omega
    go_wp2
    go_ret
    exact ⟨ret_bool (by rw [eq_comm, decide_eq_false_iff_not]; exact h), rfl⟩
theorem size5_any (P : Int) (A : Option Addr) (n c : Nat) (w : World) (hn : n ≤ 30) :
    Calls Tryz.prog 27 #[.agg #[.int .i64 P, .slice A n c]] w fun e w' => e = .returned (.int .i64 (pw n)) ∧ Below w.heap.size w w' := by
  go_enter Tryz.func27, Tryz.ntmps27
  go_wp2
  go_ret
  exact ⟨ret_int (wrap_pw n hn), (Below.refl _ _).alloc (Nat.le_refl _) _⟩
end Go.Proofs.YtggigolkncckoaaGreat
namespace Go.Proofs.YtggigolkncckoaaGreat
open Go.RowKit
set_option maxHeartbeats 3200000 in
set_option maxRecDepth 8000 in
theorem GeometricProduct_ok (P : Int) (A : Option Addr) (n c : Nat) (sq : List Int) (X : Option Addr) (m cx : Nat) (xs : List Int) (Y : Option Addr) (l cy : Nat) (ys : List Int) (w : World) (hn : n ≤ 1048576) (hm : m ≤ 1048576) (hl : l ≤ 1048576) (ha : Rd w A n (ints sq)) (hx : Rd w X m (ints xs)) (hcx : m ≤ cx) (hy : Rd w Y l (ints ys)) (hcy : l ≤ cy) (h0 : codeM P sq [xs, ys] = 0) :
    Calls Tryz.prog 132 #[.agg #[.int .i64 P, .slice A n c], .slice X m cx, .slice Y l cy] w fun e w' => ∃ (A' : Option Addr) (c' : Nat), e = .returned (.tuple #[.slice A' (pw n) c', .int .i64 0]) ∧ MkI w w' A' (pw n) c' (mulL P sq xs ys) := by
  have hB0 : Below w.heap.size w (w.alloc (.cells #[.int .i64 P, .slice A n c] 26)) := (Below.refl _ _).alloc (Nat.le_refl _) _
  have k0 : Blk (w.alloc (.cells #[.int .i64 P, .slice A n c] 26)) w.heap.size 26 #[.int .i64 P, .slice A n c] := Blk.new _ _ _
  have hB1 : Below w.heap.size w ((w.alloc (.cells #[.int .i64 P, .slice A n c] 26)).alloc (.cells #[.slice X m cx, .slice Y l cy] 24)) := hB0.alloc (by simp) _
  have k1 : Blk ((w.alloc (.cells #[.int .i64 P, .slice A n c] 26)).alloc (.cells #[.slice X m cx, .slice Y l cy] 24)) w.heap.size 26 #[.int .i64 P, .slice A n c] := k0.alloc _
  have hreg := checkMultis_any P A (some ⟨w.heap.size + 1, 0, none⟩) n c 2 2 sq [xs, ys] ((w.alloc (.cells #[.int .i64 P, .slice A n c] 26)).alloc (.cells #[.slice X m cx, .slice Y l cy] 24)) hn (by omega) (ha.below hB1) (rdII_two (Blk.newAt (by simp)) (hx.below hB1) (hy.below hB1) hcx hcy) (all_two (by rw [hx.lenI]; exact hm) (by rw [hy.lenI]; exact hl))
  rw [h0] at hreg
  obtain ⟨HP, hp, hp2, hd1, hd2, hs0, hms⟩ := codeM_spec2 h0
  obtain ⟨hx1, hxs0⟩ := hms xs (by simp)
  obtain ⟨hy1, hys0⟩ := hms ys (by simp)
  have hsl := ha.lenI
  have hmx : m = pw n := by rw [← hx.lenI, hx1, hsl]
  have hly : l = pw n := by rw [← hy.lenI, hy1, hsl]
  subst hmx
  subst hly
  rw [hsl] at hd2
  have HXS := Lib.hid hxs0
  have HYS := Lib.hid hys0
  have HS := Lib.hid hs0
  have HX1 := Lib.hid hx.lenI
  have HY1 := Lib.hid hy.lenI
  have htm := timesL_two P sq n xs ys HX1.out HXS.out
  clear hms hx1 hs0 hxs0 hy1 hys0 h0 hsl
  go_enter Tryz.func132, Tryz.ntmps132
  go_wp2_with fail
  refine hreg.mono ?_
  rintro e w2 ⟨rfl, hb2⟩
  have hB2 := hB1.trans (hb2.mono hB1.size)
  have k2 := k1.below hb2 k1.lt
  obtain ⟨q0, q1⟩ := k2.two
  clear k0 hB0 k1 hB1 hb2 hreg
  have hB3 : Below w.heap.size w (w2.alloc (.cells #[.slice X (pw n) cx, .slice Y (pw n) cy] 24)) := hB2.alloc hB2.size _
  have hcall := times_any P A n c sq (some ⟨w2.heap.size, 0, none⟩) 2 2 [xs, ys] (w2.alloc (.cells #[.slice X (pw n) cx, .slice Y (pw n) cy] 24)) (by omega) hp2 hd2 (by omega) (ha.below hB3) HS.out (rdII_two (Blk.new w2 24 _) (hx.below hB3) (hy.below hB3) hcx hcy) (all_two ⟨HXS.out, HX1.out⟩ ⟨HYS.out, HY1.out⟩)
  rw [htm] at hcall
  go_wp2_with fail
  refine hcall.mono ?_
  rintro e w3 ⟨A', c', rfl, hM⟩
  have hM3 := hM.after hB3
  go_wp2
  go_ret2
  exact ⟨A', c', rfl, hM3⟩
set_option maxHeartbeats 3200000 in
set_option maxRecDepth 8000 in
theorem times5_ok (P : Int) (A : Option Addr) (n c : Nat) (sq : List Int) (X : Option Addr) (m cx : Nat) (xs : List Int) (Y : Option Addr) (l cy : Nat) (ys : List Int) (w : World) (hn : n ≤ 1048576) (hm : m ≤ 1048576) (hl : l ≤ 1048576) (ha : Rd w A n (ints sq)) (hx : Rd w X m (ints xs)) (hcx : m ≤ cx) (hy : Rd w Y l (ints ys)) (hcy : l ≤ cy) (h0 : codeM P sq [xs, ys] = 0) :
    Calls Tryz.prog 20 #[.agg #[.int .i64 P, .slice A n c], .slice X m cx, .slice Y l cy] w fun e w' => ∃ (A' : Option Addr) (c' : Nat), e = .returned (.slice A' (pw n) c') ∧ MkI w w' A' (pw n) c' (mulL P sq xs ys) := by
  have hB0 : Below w.heap.size w (w.alloc (.cells #[.int .i64 P, .slice A n c] 26)) := (Below.refl _ _).alloc (Nat.le_refl _) _
  have k0 : Blk (w.alloc (.cells #[.int .i64 P, .slice A n c] 26)) w.heap.size 26 #[.int .i64 P, .slice A n c] := Blk.new _ _ _
  have hgp := GeometricProduct_ok P A n c sq X m cx xs Y l cy ys (w.alloc (.cells #[.int .i64 P, .slice A n c] 26)) hn hm hl (ha.below hB0) (hx.below hB0) hcx (hy.below hB0) hcy h0
  clear h0
  go_enter Tryz.func20, Tryz.ntmps20
  go_wp2_with fail
  refine hgp.mono ?_
  rintro e w2 ⟨A', c', rfl, hM⟩
  have hM3 := hM.after hB0
  go_wp2
  go_ret
  exact ⟨A', c', rfl, hM3⟩
end Go.Proofs.YtggigolkncckoaaGreat
namespace Go.Proofs.YtggigolkncckoaaGreat
open Go.RowKit
theorem voR_len (P : Int) (sq : List Int) (L : List (List Int)) : (voR P sq L).1.length ≤ 64 := by
  by_cases h : codeVo P sq L = 0
  · rw [voR_ok h]
    show (versL P sq sq.length L).length ≤ 64
    rw [versL_len P sq _ _ _ rfl]
    exact pw_le (codeV_spec (codeVo_zero h).1).2.2.2.2.1
  · rw [voR_bad h]; simp
/-- The value is a tuple of a new list and the code 0. -/
def VTs (w0 : World) (n : Nat) (L : List Int) : VP := ⟨fun v w => ∃ A c, v = .tuple #[.slice A n c, .int .i64 0] ∧ MkI w0 w A n c L, fun _ _ _ ⟨A, c, e, h⟩ hb => ⟨A, c, e, h.below hb⟩⟩
/-- The value is a die. -/
def VDice (B : Nat) : VP := ⟨fun v w => ∃ g, v = .pointer (some ⟨g, 0, none⟩) ∧ B ≤ g ∧ Src w g 99, fun _ _ _ ⟨g, e, h1, h2⟩ hb => ⟨g, e, h1, h2.below hb⟩⟩
/-- What a throw of a die that was made since the heap had B blocks does. -/
def RelC (B : Nat) (w w' : World) : Prop := ∃ g, B ≤ g ∧ Dr g 99 w w'
theorem nrmP_drop {P : Int} {sq : List Int} {L : List (List Int)} {j : Nat} (h : j < L.length) : nrmP sq (L.drop j) = bil sq L[j] L[j] * nrmP sq (L.drop (j + 1)) := by
  rw [List.drop_eq_getElem_cons h]; rfl
theorem refls_drop {P : Int} {sq : List Int} {L : List (List Int)} {w : List Int} {j : Nat} (h : j < L.length) : refls P sq (L.drop j) w = reflF P sq L[j] (refls P sq (L.drop (j + 1)) w) := by
  rw [List.drop_eq_getElem_cons h]; rfl
theorem mul_144 {P a b : Int} (h2 : P ≤ 13) (ha : 0 ≤ a ∧ a < P) (hb : 0 ≤ b ∧ b < P) : 0 ≤ a * b ∧ a * b ≤ 144 := mul_two_small h2 ha hb
set_option maxHeartbeats 12800000 in
set_option maxRecDepth 40000 in
theorem FnVersors_any (B : Option Addr) (nb cb : Nat) (bs : List Int) (w : World) (r : Rd w B nb (bs.map (Value.int .u8))) (hbs : ∀ b ∈ bs, 0 ≤ b ∧ b < 256) (hbg : ∀ a, B = some a → a.block < w.heap.size) :
    Calls Tryz.prog 5 #[.slice B nb cb] w fun e w' => e = .returned (.bool true) ∧ Below w.heap.size w w' := by
  have hbig := big_any B nb cb w
  by_cases hbb : 4096 < nb
  · rw [decide_eq_true hbb] at hbig
    go_enter Tryz.func5, Tryz.ntmps5
    go_wp2_with fail
    refine hbig.mono ?_
    rintro e w1 ⟨rfl, rfl⟩
    go_wp2
    go_ret
    exact ⟨rfl, Below.refl _ _⟩
  · rw [decide_eq_false hbb] at hbig
    have hdr := DrawVersorOf_any B nb cb bs w (by omega) r hbs hbg
    go_enter Tryz.func5, Tryz.ntmps5
    go_wp2_with fail
    refine hbig.mono ?_
    rintro e w1 ⟨rfl, rfl⟩
    clear hbig
    go_wp2_with fail
    refine hdr.mono ?_
    rintro e w2 ⟨P, A, n, c, sq, AL, m, cl, L, rfl, hP, hn, hm17, hl8, ho, hL, hb2⟩
    have hcl : m ≤ cl := hL.cap
    have hA : Below w2.heap.size w2 (w2.alloc (.cells #[.int .i64 P, .slice A n c] 26)) := (Below.refl _ _).alloc (Nat.le_refl _) _
    have k3 : Blk (w2.alloc (.cells #[.int .i64 P, .slice A n c] 26)) w2.heap.size 26 #[.int .i64 P, .slice A n c] := Blk.new _ _ _
    have hB3 := hb2.alloc (o := .cells #[.int .i64 P, .slice A n c] 26) hb2.size
    have o3 := (ho.below hA).rd
    have x3 := (hL.below hA).rd
    have r3 := r.below (hb2.alloc (o := .cells #[.int .i64 P, .slice A n c] 26) hb2.size)
    obtain ⟨w3, hw3⟩ : ∃ W, W = w2.alloc (.cells #[.int .i64 P, .slice A n c] 26) := ⟨_, rfl⟩
    have hL8 : ∀ ys ∈ L, ys.length ≤ 1048576 := fun ys h => Nat.le_trans (hl8 ys h) (by omega)
    have hb1 := VersorOf_any P A n c sq AL m cl L w3 (by omega) (by omega) (hw3 ▸ o3) (hw3 ▸ x3) hL8
    obtain ⟨q0, q1⟩ := k3.two
    clear hdr ho hL hb2 r hA
    go_wp2_with fail
    rw [← hw3] at k3 hB3 o3 x3 r3 ⊢
    clear hw3
    refine hb1.mono ?_
    rintro e w4 ⟨A4, m4, c4, rfl, hM4⟩
    have hB4 : Below w3.heap.size w3 w4 := hM4.b
    have k4 := k3.below hB4 k3.lt
    have hb2 := specVersorOf_any P A n c sq AL m cl L w4 (by omega) (by omega) (o3.below hB4) (x3.below hB4) hL8
    clear q0 q1 hb1
    obtain ⟨q0, q1⟩ := k4.two
    go_wp2_with fail
    refine hb2.mono ?_
    rintro e w5 ⟨A5, m5, c5, rfl, hM5⟩
    have hB5 := hB4.trans (hM5.b.mono hB4.size)
    have hlen := voR_len P sq L
    have r4 := (hM4.below hM5.b).rd
    have r5 := hM5.rd
    have l4 := r4.lenI
    have l5 := r5.lenI
    have i_x := hM4.2.cap
    have hl := likeInts_any A4 A5 m4 m5 c4 c5 _ _ w5 (by omega) (by omega) r4 r5
    rw [decide_eq_true rfl] at hl
    have e0 : ((voR P sq L).2 != (voR P sq L).2) = false := by simp
    clear q0 q1 hb2 hM4 hM5 r5 l5 hlen
    go_wp2_with fail
    refine hl.mono ?_
    rintro e w6 ⟨rfl, jj, rfl⟩
    have hB6 : Below w.heap.size w (w5.drewN jj) := below_drewN (hB3.trans (hB5.mono hB3.size)) jj
    have hW := below_drewN hB5 jj
    have r_x := r4.below (below_drewN (Below.refl w5.heap.size w5) jj)
    clear e0 hl r4 hB4 hB5 k4
    by_cases hc : codeVo P sq L = 0
    · have e1 : ((voR P sq L).2 != 0) = false := by rw [voR_ok hc]; rfl
      obtain ⟨hcv, hl16, hreg, hnz⟩ := codeVo_zero hc
      obtain ⟨hsp, -⟩ := codeV_sp hcv
      obtain ⟨HP, hp, hp2, hd1, hd2, hs0, hms⟩ := codeV_spec hcv
      have hsl := o3.lenI
      have hG : Good P sq L := fun v hv => ⟨(hms v hv).1, (hms v hv).2, fun h => hnz v hv ((bil_same HP (hms v hv).1).2 h)⟩
      obtain ⟨hv1, hv2⟩ := versL_vers HP hd2 L hG
      have hvl : (versL P sq sq.length L).length = pw sq.length := versL_len P sq _ _ _ rfl
      have hvn : NumsL P (versL P sq sq.length L) := versL_nums hp sq _ L
      obtain ⟨hM0, hR0, hV0⟩ := codeVr_mk hsp hreg hvl hvn hv1
      obtain ⟨hy1, hy2, hy3, hy4⟩ := vinv_prod HP hd2 hG
      have hyn : NumsL P (vinvL P sq (versL P sq sq.length L)) := vinvL_nums hp sq _
      obtain ⟨hM1, hR1, hV1⟩ := codeVr_mk hsp hreg hy2 hyn hy1
      have hev := even_prod HP hd2 hG
      have hSV : ∀ V : List Int, V.length = sq.length → NumsL P V → sandR P sq (versL P sq sq.length L) V = (refls P sq L V, 0) ∧ sandR P sq (vinvL P sq (versL P sq sq.length L)) (refls P sq L V) = (V, 0) ∧ NumsL P (refls P sq L V) ∧ pairL P sq (refls P sq L V) (refls P sq L V) = pairL P sq V V := fun V hVl hVn => by
        have hrl : (refls P sq L V).length = sq.length := (refls_len L V).trans hVl
        have hrn : NumsL P (refls P sq L V) := refls_nums (by omega) L hVn
        refine ⟨by rw [sandR_ok hM0 (isVe_mk hVl hVn) hV0, sand_prod HP hd2 L hG hVl hVn], by rw [sandR_ok hM1 (isVe_mk hrl hrn) hV1, hy3 V hVl hVn], hrn, ?_⟩
        refine cg_eq (pairL_small hp sq _ _) (pairL_small hp sq _ _) ?_
        rw [pairL_bil hrl, pairL_bil hVl, refls_norm HP L hG.ne hVl]
      have HS : Hid (isVersR P sq (versL P sq sq.length L) = (true, 0) ∧ nrmL P sq (versL P sq sq.length L) = nrmP sq L % P ∧ vinvR P sq (versL P sq sq.length L) = (vinvL P sq (versL P sq sq.length L), 0) ∧ isRotR P sq (versL P sq sq.length L) = (decide (L.length % 2 = 0), 0)) :=
        Lib.hid ⟨by unfold isVersR; rw [if_pos hR0, hv1], hv2, by unfold vinvR; rw [if_pos hV0], by unfold isRotR; rw [if_pos hR0, hv1, hev]; rfl⟩
      rw [voR_ok hc] at r_x l4
      replace r_x : Rd (w5.drewN jj) A4 m4 (ints (versL P sq sq.length L)) := r_x
      obtain rfl : m4 = pw n := by rw [← r_x.lenI]; exact hvl.trans (by rw [hsl])
      have hpw : pw n ≤ 64 := pw_le (show n ≤ 6 by omega)
      have HML := Lib.hid x3.len
      have hrb : decide (L.length % 2 = 0) = (((m : Nat) : Int) % 2 == 0) := by
        rw [HML.out]
        by_cases h : m % 2 = 0
        · have : ((m : Nat) : Int) % 2 = 0 := by omega
          simp [h, this]
        · have : ¬ ((m : Nat) : Int) % 2 = 0 := by omega
          simp [h, this]
      rw [hrb] at HS
      have HG := Lib.hid hG
      have HSL := Lib.hid hsl
      have HPP := Lib.hid HP
      obtain ⟨X, hX⟩ : ∃ X, X = versL P sq sq.length L := ⟨_, rfl⟩
      rw [← hX] at r_x HS hSV hvn hvl hy2 hyn hy4
      obtain ⟨Y, hY⟩ : ∃ Y, Y = vinvL P sq X := ⟨_, rfl⟩
      rw [← hY] at HS hSV hy2 hyn hy4
      have HXN := Lib.hid hvn
      have HCM : Hid (codeM P sq [X, Y] = 0) := Lib.hid (codeM_mk hsp (all_two ⟨hvl, hvn⟩ ⟨hy2, hyn⟩))
      have HYN := Lib.hid (show NumsL P Y ∧ Y.length = pw n ∧ mulL P sq X Y = bladeL n 0 from ⟨hyn, by rw [hy2, hsl], by rw [hy4, hsl]⟩)
      clear hcv hl16 hms hnz hG hv1 hv2 hvl hvn hM0 hR0 hV0 hy1 hy2 hy3 hy4 hyn hM1 hR1 hV1 hev hsl HP l4 hc hX hY hrb hs0 hd1 hd2
      have r_l := x3.below hW
      have kk := k3.below hW k3.lt
      obtain ⟨q0, q1⟩ := kk.two
      clear kk
      have hcall := IsVersor_any P A n c sq A4 (pw n) c4 X _ (by omega) (by omega) (o3.below hW) r_x i_x
      rw [HS.out.1] at hcall
      go_wp2_with fail
      refine hcall.mono ?_
      rintro e w7 ⟨rfl, hb7⟩
      replace r_x := r_x.below hb7
      replace r_l := r_l.below hb7
      replace hW := hW.trans (hb7.mono hW.size)
      clear hcall q0 q1
      have kk := k3.below hW k3.lt
      obtain ⟨q0, q1⟩ := kk.two
      clear kk
      have hcall := SpinorNormOf_ok P A n c sq A4 c4 X w7 hsp hreg (o3.below hW) r_x i_x HXN.out
      rw [HS.out.2.1] at hcall
      go_wp2_with fail
      refine hcall.mono ?_
      rintro e w8 ⟨rfl, hb7⟩
      replace r_x := r_x.below hb7
      replace r_l := r_l.below hb7
      replace hW := hW.trans (hb7.mono hW.size)
      clear hcall q0 q1
      have kk := k3.below hW k3.lt
      obtain ⟨q0, q1⟩ := kk.two
      clear kk
      have hcall := VersorInverse_any P A n c sq A4 (pw n) c4 X w8 (by omega) (by omega) (o3.below hW) r_x i_x
      rw [HS.out.2.2.1] at hcall
      go_wp2_with fail
      refine hcall.mono ?_
      rintro e w9 ⟨A9, k9, c9, rfl, hM⟩
      replace r_x := r_x.below hM.b
      replace r_l := r_l.below hM.b
      have r_b := hM.rd
      have i_b := hM.2.cap
      replace hW := hW.trans (hM.b.mono hW.size)
      obtain rfl : k9 = pw n := by rw [← r_b.lenI]; exact HYN.out.2.1
      clear hM
      clear hcall q0 q1
      have kk := k3.below hW k3.lt
      obtain ⟨q0, q1⟩ := kk.two
      clear kk
      have hcall := IsRotor_any P A n c sq A4 (pw n) c4 X w9 (by omega) (by omega) (o3.below hW) r_x i_x
      rw [HS.out.2.2.2] at hcall
      go_wp2_with fail
      refine hcall.mono ?_
      rintro e w10 ⟨rfl, hb7⟩
      replace r_x := r_x.below hb7
      replace r_l := r_l.below hb7
      replace r_b := r_b.below hb7
      replace hW := hW.trans (hb7.mono hW.size)
      clear hcall q0 q1
      have kk := k3.below hW k3.lt
      obtain ⟨q0, q1⟩ := kk.two
      have r10 := r3.below hW
      have hbg10 : ∀ a, B = some a → a.block < w10.heap.size := fun a e => Nat.lt_of_lt_of_le (hbg a e) (Nat.le_trans hB3.size hW.size)
      go_wp2
      refine wp_obsR 9 (RelC w10.heap.size) [[], [0], [], [2], [2, 3], [], [5], [0, 1, 2, 3, 4, 5, 6], [0, 1, 2, 3, 4, 5, 6, 7]] [[], [], [], [], [], [], [], [1], []] (fun x => [VIs (.slice B nb cb), VDice w10.heap.size, VIs (.pointer (some ⟨w2.heap.size, 1, none⟩)), VIs (.slice A n c), VIs (.int .i64 (n)), VIs (.pointer (some ⟨w2.heap.size, 0, none⟩)), VIs (.int .i64 (P)), VLs w10.heap.size n P, VLs w10.heap.size n P]) (fun w' => Blk w' w2.heap.size 26 #[.int .i64 P, .slice A n c] ∧ Below w10.heap.size w10 w') (by kernel_rfl) (by kernel_rfl) (fun x x' j hx => by
          rcases j with _ | _ | _ | _ | _ | _ | _ | _ | _ | j
          · rfl
          · rfl
          · rfl
          · rfl
          · rfl
          · rfl
          · rfl
          · rfl
          · rfl
          · rfl)
        (weak_ofR [0, 2, 3, 4, 5, 6, 7, 8] (by decide) (fun k hk x v w w' hp hr => by
          simp only [List.mem_cons, List.not_mem_nil, or_false] at hk
          rcases hk with rfl | rfl | rfl | rfl | rfl | rfl | rfl | rfl
          · exact hp
          · exact hp
          · exact hp
          · exact hp
          · exact hp
          · exact hp
          · obtain ⟨g, h1, hd⟩ := hr; exact VLs.dr hp hd (by decide)
          · obtain ⟨g, h1, hd⟩ := hr; exact VLs.dr hp hd (by decide))) (fun j _ _ h hb => hb.either (fun hb => ⟨h.1.below hb h.1.lt, h.2.trans (hb.mono h.2.size)⟩) (fun ⟨g, h1, hd⟩ => ⟨h.1.dr hd (by decide), h.2.trans (hd.b.mono h1)⟩)) (⟨kk.drew, (Below.refl _ _).drew⟩) (fun x => ?_)
      refine obs_stepR (Eq.trans (by simp only [List.getElem?_toArray, List.getElem?_cons_zero]; exact rfl) rfl) rfl (fun w' hS hV K hK => ?_) ?_
      · obtain ⟨q0, q1⟩ := hS.1.two
        go_simp
        exact hK.out _ _ _ rfl rfl rfl (Below.refl _ _)
      simp only [List.setIfInBounds_toArray, List.set_cons_zero, List.set_cons_succ]
      refine obs_stepR (Eq.trans (by simp only [List.getElem?_toArray, List.getElem?_cons_succ, List.getElem?_cons_zero]; exact rfl) rfl) rfl (fun w' hS hV K hK => ?_) ?_
      · have e0 : x 0 = (.slice B nb cb) := hV 0 (by decide)
        obtain ⟨q0, q1⟩ := hS.1.two
        go_simp
        refine (roll_any B nb cb bs 839 w' (by omega) (r10.below hS.2) hbs (fun a e => Nat.lt_of_lt_of_le (hbg10 a e) hS.2.size)).mono ?_
        rintro e v1 ⟨g, rfl, hg, hs, hb⟩
        exact hK.out _ _ _ rfl rfl ⟨g, rfl, Nat.le_trans hS.2.size hg, hs⟩ hb
      simp only [List.setIfInBounds_toArray, List.set_cons_zero, List.set_cons_succ]
      refine obs_stepR (Eq.trans (by simp only [List.getElem?_toArray, List.getElem?_cons_succ, List.getElem?_cons_zero]; exact rfl) rfl) rfl (fun w' hS hV K hK => ?_) ?_
      · obtain ⟨q0, q1⟩ := hS.1.two
        go_simp
        exact hK.out _ _ _ rfl rfl rfl (Below.refl _ _)
      simp only [List.setIfInBounds_toArray, List.set_cons_zero, List.set_cons_succ]
      refine obs_stepR (Eq.trans (by simp only [List.getElem?_toArray, List.getElem?_cons_succ, List.getElem?_cons_zero]; exact rfl) rfl) rfl (fun w' hS hV K hK => ?_) ?_
      · have e2 : x 2 = (.pointer (some ⟨w2.heap.size, 1, none⟩)) := hV 2 (by decide)
        obtain ⟨q0, q1⟩ := hS.1.two
        go_simp
        exact hK.out _ _ _ rfl rfl rfl (Below.refl _ _)
      simp only [List.setIfInBounds_toArray, List.set_cons_zero, List.set_cons_succ]
      refine obs_stepR (Eq.trans (by simp only [List.getElem?_toArray, List.getElem?_cons_succ, List.getElem?_cons_zero]; exact rfl) rfl) rfl (fun w' hS hV K hK => ?_) ?_
      · have e2 : x 2 = (.pointer (some ⟨w2.heap.size, 1, none⟩)) := hV 2 (by decide)
        have e3 : x 3 = (.slice A n c) := hV 3 (by decide)
        obtain ⟨q0, q1⟩ := hS.1.two
        go_simp
        exact hK.out _ _ _ rfl rfl rfl (Below.refl _ _)
      simp only [List.setIfInBounds_toArray, List.set_cons_zero, List.set_cons_succ]
      refine obs_stepR (Eq.trans (by simp only [List.getElem?_toArray, List.getElem?_cons_succ, List.getElem?_cons_zero]; exact rfl) rfl) rfl (fun w' hS hV K hK => ?_) ?_
      · obtain ⟨q0, q1⟩ := hS.1.two
        go_simp
        exact hK.out _ _ _ rfl rfl rfl (Below.refl _ _)
      simp only [List.setIfInBounds_toArray, List.set_cons_zero, List.set_cons_succ]
      refine obs_stepR (Eq.trans (by simp only [List.getElem?_toArray, List.getElem?_cons_succ, List.getElem?_cons_zero]; exact rfl) rfl) rfl (fun w' hS hV K hK => ?_) ?_
      · have e5 : x 5 = (.pointer (some ⟨w2.heap.size, 0, none⟩)) := hV 5 (by decide)
        obtain ⟨q0, q1⟩ := hS.1.two
        go_simp
        exact hK.out _ _ _ rfl rfl rfl (Below.refl _ _)
      simp only [List.setIfInBounds_toArray, List.set_cons_zero, List.set_cons_succ]
      refine obs_stepR (Eq.trans (by simp only [List.getElem?_toArray, List.getElem?_cons_succ, List.getElem?_cons_zero]; exact rfl) rfl) rfl (fun w' hS hV K hK => ?_) ?_
      · have e0 : x 0 = (.slice B nb cb) := hV 0 (by decide)
        obtain ⟨g9, e1, hg9, s9⟩ := hV 1 (by decide)
        have e2 : x 2 = (.pointer (some ⟨w2.heap.size, 1, none⟩)) := hV 2 (by decide)
        have e3 : x 3 = (.slice A n c) := hV 3 (by decide)
        have e4 : x 4 = (.int .i64 (n)) := hV 4 (by decide)
        have e5 : x 5 = (.pointer (some ⟨w2.heap.size, 0, none⟩)) := hV 5 (by decide)
        have e6 : x 6 = (.int .i64 (P)) := hV 6 (by decide)
        obtain ⟨q0, q1⟩ := hS.1.two
        go_simp
        refine (belowList_any g9 P n w' s9 (by omega) (by omega)).mono ?_
        rintro e v1 ⟨A9, c9, xs9, rfl, hl9, hx9, ho9, hd9⟩
        exact hK.out _ _ _ rfl rfl ⟨_, _, xs9, rfl, hl9, nums_of (by omega) hx9, ho9.base hS.2.size⟩ (StepR.rel rfl ⟨g9, hg9, hd9⟩)
      simp only [List.setIfInBounds_toArray, List.set_cons_zero, List.set_cons_succ]
      refine obs_stepR (Eq.trans (by simp only [List.getElem?_toArray, List.getElem?_cons_succ, List.getElem?_cons_zero]; exact rfl) rfl) rfl (fun w' hS hV K hK => ?_) ?_
      · have e0 : x 0 = (.slice B nb cb) := hV 0 (by decide)
        have e2 : x 2 = (.pointer (some ⟨w2.heap.size, 1, none⟩)) := hV 2 (by decide)
        have e3 : x 3 = (.slice A n c) := hV 3 (by decide)
        have e4 : x 4 = (.int .i64 (n)) := hV 4 (by decide)
        have e5 : x 5 = (.pointer (some ⟨w2.heap.size, 0, none⟩)) := hV 5 (by decide)
        have e6 : x 6 = (.int .i64 (P)) := hV 6 (by decide)
        obtain ⟨A7, c7, X7, e7, l7, u7, h7⟩ := hV 7 (by decide)
        obtain ⟨q0, q1⟩ := hS.1.two
        go_simp
        exact hK.out _ _ _ rfl rfl ⟨_, _, _, rfl, l7, u7, h7⟩ (Below.refl _ _)
      simp only [List.setIfInBounds_toArray, List.set_cons_zero, List.set_cons_succ]
      refine fun w' hS hV => ?_
      have e0 : x 0 = (.slice B nb cb) := hV 0 (by decide)
      have e2 : x 2 = (.pointer (some ⟨w2.heap.size, 1, none⟩)) := hV 2 (by decide)
      have e3 : x 3 = (.slice A n c) := hV 3 (by decide)
      have e4 : x 4 = (.int .i64 (n)) := hV 4 (by decide)
      have e5 : x 5 = (.pointer (some ⟨w2.heap.size, 0, none⟩)) := hV 5 (by decide)
      have e6 : x 6 = (.int .i64 (P)) := hV 6 (by decide)
      obtain ⟨A7, c7, X7, e7, l7, u7, h7⟩ := hV 7 (by decide)
      obtain ⟨A8, c8, X8, e8, l8, u8, h8⟩ := hV 8 (by decide)
      simp only [e0, e2, e3, e4, e5, e6, e7, e8]
      clear e0 e2 e3 e4 e5 e6 e7 e8
      refine wpAny_done (by kernel_rfl) ?_ _
      have hb7 := hS.2
      clear hS kk q0 q1
      obtain ⟨w11, rfl⟩ : ∃ W, W = w' := ⟨_, rfl⟩
      obtain ⟨V, hV0⟩ : ∃ V, V = X8 := ⟨_, rfl⟩
      rw [← hV0] at l8 u8 h8
      replace r_x := r_x.below hb7
      replace r_l := r_l.below hb7
      replace r_b := r_b.below hb7
      replace hW := hW.trans (hb7.mono hW.size)
      have r_v := h8.rd
      have i_v := h8.cap
      have HVN := Lib.hid (And.intro l8 u8)
      clear l8 u8 h8 hV0 hb7 r10 hbg10
      have HSV := Lib.hid (hSV V (HVN.out.1.trans HSL.out.symm) HVN.out.2)
      clear hSV
      have kk := k3.below hW k3.lt
      obtain ⟨q0, q1⟩ := kk.two
      clear kk
      have hcall := SandwichOf_any P A n c sq A4 (pw n) c4 X A8 n c8 V w11 (by omega) (by omega) (by omega) (o3.below hW) r_x i_x r_v i_v
      rw [HSV.out.1] at hcall
      go_wp2_with fail
      refine hcall.mono ?_
      rintro e w12 ⟨A12, k12, c12, rfl, hM⟩
      replace r_x := r_x.below hM.b
      replace r_l := r_l.below hM.b
      replace r_b := r_b.below hM.b
      replace r_v := r_v.below hM.b
      have r_im := hM.rd
      have i_im := hM.2.cap
      replace hW := hW.trans (hM.b.mono hW.size)
      obtain rfl : n = k12 := by rw [← r_im.lenI]; exact ((refls_len L V).trans HVN.out.1).symm
      clear hM
      clear hcall q0 q1
      have kk := k3.below hW k3.lt
      obtain ⟨q0, q1⟩ := kk.two
      clear kk
      have hcall := SandwichOf_any P A n c sq A9 (pw n) c9 Y A12 n c12 (refls P sq L V) w12 (by omega) (by omega) (by omega) (o3.below hW) r_b i_b r_im i_im
      rw [HSV.out.2.1] at hcall
      go_wp2_with fail
      refine hcall.mono ?_
      rintro e w13 ⟨A13, k13, c13, rfl, hM⟩
      replace r_x := r_x.below hM.b
      replace r_l := r_l.below hM.b
      replace r_b := r_b.below hM.b
      replace r_v := r_v.below hM.b
      replace r_im := r_im.below hM.b
      have r_ag := hM.rd
      replace hW := hW.trans (hM.b.mono hW.size)
      obtain rfl : n = k13 := by rw [← r_ag.lenI]; exact HVN.out.1.symm
      clear hM
      clear hcall q0 q1
      have kk := k3.below hW k3.lt
      obtain ⟨q0, q1⟩ := kk.two
      clear kk
      have hcall := NormOf_ok P A n c sq A8 c8 V w13 hsp (o3.below hW) r_v i_v HVN.out.2
      go_wp2_with fail
      refine hcall.mono ?_
      rintro e w14 ⟨rfl, hb7⟩
      replace r_x := r_x.below hb7
      replace r_l := r_l.below hb7
      replace r_b := r_b.below hb7
      replace r_v := r_v.below hb7
      replace r_im := r_im.below hb7
      replace r_ag := r_ag.below hb7
      replace hW := hW.trans (hb7.mono hW.size)
      clear hcall q0 q1
      have kk := k3.below hW k3.lt
      obtain ⟨q0, q1⟩ := kk.two
      clear kk
      have hcall := NormOf_ok P A n c sq A12 c12 (refls P sq L V) w14 hsp (o3.below hW) r_im i_im HSV.out.2.2.1
      rw [HSV.out.2.2.2] at hcall
      go_wp2_with fail
      refine hcall.mono ?_
      rintro e w15 ⟨rfl, hb7⟩
      replace r_x := r_x.below hb7
      replace r_l := r_l.below hb7
      replace r_b := r_b.below hb7
      replace r_v := r_v.below hb7
      replace r_im := r_im.below hb7
      replace r_ag := r_ag.below hb7
      replace hW := hW.trans (hb7.mono hW.size)
      clear hcall q0 q1
      have hcall := likeInts_any A13 A8 n n c13 c8 V V w15 (by omega) (by omega) r_ag r_v
      rw [decide_eq_true rfl] at hcall
      have kk := k3.below hW k3.lt
      obtain ⟨q0, q1⟩ := kk.two
      clear kk
      go_wp2_with fail
      refine hcall.mono ?_
      rintro e w16 ⟨rfl, j1, rfl⟩
      have hb7 := below_drewN (Below.refl w15.heap.size w15) j1
      clear r_ag
      replace r_x := r_x.below hb7
      replace r_l := r_l.below hb7
      replace r_b := r_b.below hb7
      replace r_v := r_v.below hb7
      replace r_im := r_im.below hb7
      replace hW := hW.trans (hb7.mono hW.size)
      clear hcall q0 q1 hb7
      go_wp2
      go_loopw [26, 27, 28] (fun pr nw i wr => ∃ (k : Nat) (iv : Int) (An : Option Addr) (cn : Nat), k ≤ m ∧ iv = (k : Int) - 1 ∧ i = .int .i64 iv ∧ pr = .int .i64 (nrmP sq (L.drop k) % P) ∧ nw = .slice An n cn ∧ Rd wr An n (ints (refls P sq (L.drop k) V)) ∧ n ≤ cn ∧ Below (w15.drewN j1).heap.size (w15.drewN j1) wr) (fun _ _ i _ => (intOf i + 1).toNat)
      case atStart => exact ⟨m, (m : Int) - 1, _, _, by omega, rfl, rfl, by rw [List.drop_of_length_le (by rw [HML.out]; omega)]; show Value.int .i64 1 = .int .i64 (1 % P); rw [Int.emod_eq_of_lt (by omega) (by omega)], rfl, by rw [List.drop_of_length_le (by rw [HML.out]; omega)]; exact r_v, i_v, Below.refl _ _⟩
      case round =>
        obtain ⟨k, iv, An, cn, hk, hiv, rfl, rfl, rfl, hnow, hcn, hbr⟩ := hrel
        by_cases hk0 : 0 < k
        · obtain ⟨j, rfl⟩ : ∃ j, k = j + 1 := ⟨k - 1, by omega⟩
          obtain rfl : iv = (j : Int) := by omega
          clear hiv
          have t1 : decide ((0 : Int) ≤ (j : Int)) = true := by simp
          obtain ⟨gl, ol, rfl, hxk, Ar, cr, hcell, hr, hcr⟩ := (r_l.below hbr).at_ (show j < m by omega)
          have HRN := Lib.hid (HG.out L[j] (List.getElem_mem hxk))
          have hl1 : L[j].length = n := HRN.out.1.trans HSL.out
          rw [hl1] at hcell hr hcr
          have HD := Lib.hid (And.intro (nrmP_drop (P := P) (sq := sq) hxk) (refls_drop (P := P) (sq := sq) (w := V) hxk))
          obtain ⟨v, hv⟩ : ∃ v, v = L[j] := ⟨_, rfl⟩
          rw [← hv] at HRN hr HD
          obtain ⟨N0, hN0⟩ : ∃ N, N = nrmP sq (L.drop (j + 1)) % P := ⟨_, rfl⟩
          have hN1 : 0 ≤ N0 ∧ N0 < P := by rw [hN0]; exact ⟨Int.emod_nonneg _ (by omega), Int.emod_lt_of_pos _ (by omega)⟩
          obtain ⟨R0, hR0⟩ : ∃ R, R = refls P sq (L.drop (j + 1)) V := ⟨_, rfl⟩
          have HR0 := Lib.hid (show R0.length = sq.length ∧ NumsL P R0 by rw [hR0]; exact ⟨(refls_len _ V).trans (HVN.out.1.trans HSL.out.symm), refls_nums (by omega) _ HVN.out.2⟩)
          rw [← hR0] at hnow
          have oo := o3.below (hW.trans (hbr.mono hW.size))
          have hpz : ¬ pairL P sq v v = 0 := fun h => HRN.out.2.2 ((bil_same HPP.out HRN.out.1).1 h)
          have HNO := Lib.hid fun (w' : World) (h : Below wr.heap.size wr w') => NormOf_ok P A n c sq Ar cr v w' hsp (oo.below h) (hr.below h) hcr HRN.out.2.1
          have hrf := fun (w' : World) (h : Below wr.heap.size wr w') => ReflectIn_ok P A n c sq Ar cr v An cn R0 w' hsp hreg (oo.below h) (hr.below h) hcr HRN.out.2.1 (hnow.below h) hcn HR0.out.2 hpz
          obtain ⟨R, hR⟩ : ∃ R, R = rflL P sq v R0 := ⟨_, rfl⟩
          rw [← hR] at hrf
          obtain ⟨a, ha⟩ : ∃ a, a = pairL P sq v v := ⟨_, rfl⟩
          have ha1 : 0 ≤ a ∧ a < P := by rw [ha]; exact pairL_small (by omega) sq v v
          rw [← ha] at HNO
          have HNX : Hid (nrmP sq (L.drop j) % P = N0 * a % P) := Lib.hid (by
            rw [HD.out.1, hN0, ha, Int.mul_comm]
            refine (cg_mul (cg_self P _) ?_).symm
            exact pairL_bil HRN.out.1)
          have HRX : Hid (refls P sq (L.drop j) V = R) := Lib.hid (by rw [HD.out.2, ← hR0, hR, rflL_reflF HPP.out HRN.out.1])
          have hmm := mul_144 hp2 hN1 ha1
          have W1 := i64_fit (N0 * a) (by omega) (by omega)
          have kk := k3.below (hW.trans (hbr.mono hW.size)) k3.lt
          rw [← hN0]
          have b1 : (0 : Int) ≤ (j : Int) := by omega
          have b2 : (j : Int) < (m : Int) := by omega
          obtain ⟨q0, q1⟩ := kk.two
          clear hl1 hv hxk ha hR hR0 hN0 hpz hnow
          go_wp2
          refine wp_obs 11 [[], [], [], [1, 2], [1, 2, 3], [0, 1, 2, 3, 4], [0, 1, 2, 3, 4, 5], [0, 1, 2, 3, 4, 5, 6], [0, 1, 2, 3, 4, 5, 6], [0, 1, 2, 3, 4, 5, 6, 7], [0, 1, 2, 3, 4, 5, 6, 8]] [VIs (.agg #[.int .i64 P, .slice A n c]), VIs (.slice (some ⟨gl, ol, none⟩) m cl), VIs (.int .i64 (j)), VIs (.pointer (some ⟨gl, ol + j, none⟩)), VIs (.slice Ar n cr), VIs (.tuple #[.int .i64 a, .int .i64 0]), VIs (.tuple #[.int .i64 a, .int .i64 0]), VIs (.int .i64 (a)), VIs (.int .i64 (0)), VIs (.int .i64 (a)), VIs (.int .i64 (0))] (fun w' => w'.cell? ⟨gl, ol + j, none⟩ = some (.slice Ar n cr) ∧ Blk w' w2.heap.size 26 #[.int .i64 P, .slice A n c] ∧ Below wr.heap.size wr w') (by kernel_rfl) (by kernel_rfl) (fun _ _ h hb => ⟨(hb.cell (World.block_lt_of_cell? _ _ h.1)).trans h.1, h.2.1.below hb h.2.1.lt, h.2.2.trans (hb.mono h.2.2.size)⟩) (⟨hcell, kk.drew, (Below.refl _ _).drew⟩) (fun x => ?_)
          refine obs_step (Eq.trans (by simp only [List.getElem?_toArray, List.getElem?_cons_zero]; exact rfl) rfl) rfl (fun w' hS hV K hK => ?_) ?_
          · have q2 := hS.1; obtain ⟨q0, q1⟩ := hS.2.1.two
            go_simp
            exact hK.out _ _ _ rfl rfl rfl (Below.refl _ _)
          simp only [List.setIfInBounds_toArray, List.set_cons_zero, List.set_cons_succ]
          refine obs_step (Eq.trans (by simp only [List.getElem?_toArray, List.getElem?_cons_succ, List.getElem?_cons_zero]; exact rfl) rfl) rfl (fun w' hS hV K hK => ?_) ?_
          · have q2 := hS.1; obtain ⟨q0, q1⟩ := hS.2.1.two
            go_simp
            exact hK.out _ _ _ rfl rfl rfl (Below.refl _ _)
          simp only [List.setIfInBounds_toArray, List.set_cons_zero, List.set_cons_succ]
          refine obs_step (Eq.trans (by simp only [List.getElem?_toArray, List.getElem?_cons_succ, List.getElem?_cons_zero]; exact rfl) rfl) rfl (fun w' hS hV K hK => ?_) ?_
          · have q2 := hS.1; obtain ⟨q0, q1⟩ := hS.2.1.two
            go_simp
            exact hK.out _ _ _ rfl rfl rfl (Below.refl _ _)
          simp only [List.setIfInBounds_toArray, List.set_cons_zero, List.set_cons_succ]
          refine obs_step (Eq.trans (by simp only [List.getElem?_toArray, List.getElem?_cons_succ, List.getElem?_cons_zero]; exact rfl) rfl) rfl (fun w' hS hV K hK => ?_) ?_
          · have e1 : x 1 = (.slice (some ⟨gl, ol, none⟩) m cl) := hV 1 (by decide)
            have e2 : x 2 = (.int .i64 (j)) := hV 2 (by decide)
            have q2 := hS.1; obtain ⟨q0, q1⟩ := hS.2.1.two
            go_simp
            exact hK.out _ _ _ rfl rfl rfl (Below.refl _ _)
          simp only [List.setIfInBounds_toArray, List.set_cons_zero, List.set_cons_succ]
          refine obs_step (Eq.trans (by simp only [List.getElem?_toArray, List.getElem?_cons_succ, List.getElem?_cons_zero]; exact rfl) rfl) rfl (fun w' hS hV K hK => ?_) ?_
          · have e1 : x 1 = (.slice (some ⟨gl, ol, none⟩) m cl) := hV 1 (by decide)
            have e2 : x 2 = (.int .i64 (j)) := hV 2 (by decide)
            have e3 : x 3 = (.pointer (some ⟨gl, ol + j, none⟩)) := hV 3 (by decide)
            have q2 := hS.1; obtain ⟨q0, q1⟩ := hS.2.1.two
            go_simp
            exact hK.out _ _ _ rfl rfl rfl (Below.refl _ _)
          simp only [List.setIfInBounds_toArray, List.set_cons_zero, List.set_cons_succ]
          refine obs_step (Eq.trans (by simp only [List.getElem?_toArray, List.getElem?_cons_succ, List.getElem?_cons_zero]; exact rfl) rfl) rfl (fun w' hS hV K hK => ?_) ?_
          · have e0 : x 0 = (.agg #[.int .i64 P, .slice A n c]) := hV 0 (by decide)
            have e1 : x 1 = (.slice (some ⟨gl, ol, none⟩) m cl) := hV 1 (by decide)
            have e2 : x 2 = (.int .i64 (j)) := hV 2 (by decide)
            have e3 : x 3 = (.pointer (some ⟨gl, ol + j, none⟩)) := hV 3 (by decide)
            have e4 : x 4 = (.slice Ar n cr) := hV 4 (by decide)
            have q2 := hS.1; obtain ⟨q0, q1⟩ := hS.2.1.two
            go_simp
            refine (HNO.out _ hS.2.2).mono ?_
            rintro e v1 ⟨rfl, hb⟩
            exact hK.out _ _ _ rfl rfl rfl hb
          simp only [List.setIfInBounds_toArray, List.set_cons_zero, List.set_cons_succ]
          refine obs_step (Eq.trans (by simp only [List.getElem?_toArray, List.getElem?_cons_succ, List.getElem?_cons_zero]; exact rfl) rfl) rfl (fun w' hS hV K hK => ?_) ?_
          · have e0 : x 0 = (.agg #[.int .i64 P, .slice A n c]) := hV 0 (by decide)
            have e1 : x 1 = (.slice (some ⟨gl, ol, none⟩) m cl) := hV 1 (by decide)
            have e2 : x 2 = (.int .i64 (j)) := hV 2 (by decide)
            have e3 : x 3 = (.pointer (some ⟨gl, ol + j, none⟩)) := hV 3 (by decide)
            have e4 : x 4 = (.slice Ar n cr) := hV 4 (by decide)
            have e5 : x 5 = (.tuple #[.int .i64 a, .int .i64 0]) := hV 5 (by decide)
            have q2 := hS.1; obtain ⟨q0, q1⟩ := hS.2.1.two
            go_simp
            exact hK.out _ _ _ rfl rfl rfl (Below.refl _ _)
          simp only [List.setIfInBounds_toArray, List.set_cons_zero, List.set_cons_succ]
          refine obs_step (Eq.trans (by simp only [List.getElem?_toArray, List.getElem?_cons_succ, List.getElem?_cons_zero]; exact rfl) rfl) rfl (fun w' hS hV K hK => ?_) ?_
          · have e0 : x 0 = (.agg #[.int .i64 P, .slice A n c]) := hV 0 (by decide)
            have e1 : x 1 = (.slice (some ⟨gl, ol, none⟩) m cl) := hV 1 (by decide)
            have e2 : x 2 = (.int .i64 (j)) := hV 2 (by decide)
            have e3 : x 3 = (.pointer (some ⟨gl, ol + j, none⟩)) := hV 3 (by decide)
            have e4 : x 4 = (.slice Ar n cr) := hV 4 (by decide)
            have e5 : x 5 = (.tuple #[.int .i64 a, .int .i64 0]) := hV 5 (by decide)
            have e6 : x 6 = (.tuple #[.int .i64 a, .int .i64 0]) := hV 6 (by decide)
            have q2 := hS.1; obtain ⟨q0, q1⟩ := hS.2.1.two
            go_simp
            exact hK.out _ _ _ rfl rfl rfl (Below.refl _ _)
          simp only [List.setIfInBounds_toArray, List.set_cons_zero, List.set_cons_succ]
          refine obs_step (Eq.trans (by simp only [List.getElem?_toArray, List.getElem?_cons_succ, List.getElem?_cons_zero]; exact rfl) rfl) rfl (fun w' hS hV K hK => ?_) ?_
          · have e0 : x 0 = (.agg #[.int .i64 P, .slice A n c]) := hV 0 (by decide)
            have e1 : x 1 = (.slice (some ⟨gl, ol, none⟩) m cl) := hV 1 (by decide)
            have e2 : x 2 = (.int .i64 (j)) := hV 2 (by decide)
            have e3 : x 3 = (.pointer (some ⟨gl, ol + j, none⟩)) := hV 3 (by decide)
            have e4 : x 4 = (.slice Ar n cr) := hV 4 (by decide)
            have e5 : x 5 = (.tuple #[.int .i64 a, .int .i64 0]) := hV 5 (by decide)
            have e6 : x 6 = (.tuple #[.int .i64 a, .int .i64 0]) := hV 6 (by decide)
            have q2 := hS.1; obtain ⟨q0, q1⟩ := hS.2.1.two
            go_simp
            exact hK.out _ _ _ rfl rfl rfl (Below.refl _ _)
          simp only [List.setIfInBounds_toArray, List.set_cons_zero, List.set_cons_succ]
          refine obs_step (Eq.trans (by simp only [List.getElem?_toArray, List.getElem?_cons_succ, List.getElem?_cons_zero]; exact rfl) rfl) rfl (fun w' hS hV K hK => ?_) ?_
          · have e0 : x 0 = (.agg #[.int .i64 P, .slice A n c]) := hV 0 (by decide)
            have e1 : x 1 = (.slice (some ⟨gl, ol, none⟩) m cl) := hV 1 (by decide)
            have e2 : x 2 = (.int .i64 (j)) := hV 2 (by decide)
            have e3 : x 3 = (.pointer (some ⟨gl, ol + j, none⟩)) := hV 3 (by decide)
            have e4 : x 4 = (.slice Ar n cr) := hV 4 (by decide)
            have e5 : x 5 = (.tuple #[.int .i64 a, .int .i64 0]) := hV 5 (by decide)
            have e6 : x 6 = (.tuple #[.int .i64 a, .int .i64 0]) := hV 6 (by decide)
            have e7 : x 7 = (.int .i64 (a)) := hV 7 (by decide)
            have q2 := hS.1; obtain ⟨q0, q1⟩ := hS.2.1.two
            go_simp
            exact hK.out _ _ _ rfl rfl rfl (Below.refl _ _)
          simp only [List.setIfInBounds_toArray, List.set_cons_zero, List.set_cons_succ]
          refine obs_step (Eq.trans (by simp only [List.getElem?_toArray, List.getElem?_cons_succ, List.getElem?_cons_zero]; exact rfl) rfl) rfl (fun w' hS hV K hK => ?_) ?_
          · have e0 : x 0 = (.agg #[.int .i64 P, .slice A n c]) := hV 0 (by decide)
            have e1 : x 1 = (.slice (some ⟨gl, ol, none⟩) m cl) := hV 1 (by decide)
            have e2 : x 2 = (.int .i64 (j)) := hV 2 (by decide)
            have e3 : x 3 = (.pointer (some ⟨gl, ol + j, none⟩)) := hV 3 (by decide)
            have e4 : x 4 = (.slice Ar n cr) := hV 4 (by decide)
            have e5 : x 5 = (.tuple #[.int .i64 a, .int .i64 0]) := hV 5 (by decide)
            have e6 : x 6 = (.tuple #[.int .i64 a, .int .i64 0]) := hV 6 (by decide)
            have e8 : x 8 = (.int .i64 (0)) := hV 8 (by decide)
            have q2 := hS.1; obtain ⟨q0, q1⟩ := hS.2.1.two
            go_simp
            exact hK.out _ _ _ rfl rfl rfl (Below.refl _ _)
          simp only [List.setIfInBounds_toArray, List.set_cons_zero, List.set_cons_succ]
          refine fun w' hS hV => ?_
          have e0 : x 0 = (.agg #[.int .i64 P, .slice A n c]) := hV 0 (by decide)
          have e1 : x 1 = (.slice (some ⟨gl, ol, none⟩) m cl) := hV 1 (by decide)
          have e2 : x 2 = (.int .i64 (j)) := hV 2 (by decide)
          have e3 : x 3 = (.pointer (some ⟨gl, ol + j, none⟩)) := hV 3 (by decide)
          have e4 : x 4 = (.slice Ar n cr) := hV 4 (by decide)
          have e5 : x 5 = (.tuple #[.int .i64 a, .int .i64 0]) := hV 5 (by decide)
          have e6 : x 6 = (.tuple #[.int .i64 a, .int .i64 0]) := hV 6 (by decide)
          have e7 : x 7 = (.int .i64 (a)) := hV 7 (by decide)
          have e8 : x 8 = (.int .i64 (0)) := hV 8 (by decide)
          have e9 : x 9 = (.int .i64 (a)) := hV 9 (by decide)
          have e10 : x 10 = (.int .i64 (0)) := hV 10 (by decide)
          simp only [e0, e1, e2, e3, e4, e5, e6, e7, e8, e9, e10]
          clear e0 e1 e2 e3 e4 e5 e6 e7 e8 e9 e10
          refine wpAny_done (by kernel_rfl) ?_ _
          obtain ⟨w18, rfl⟩ : ∃ W, W = w' := ⟨_, rfl⟩
          replace hcell := hS.1
          replace kk := hS.2.1
          have hb18 := hS.2.2
          have HRF := Lib.hid fun (w' : World) (h : Below w18.heap.size w18 w') => hrf w' (hb18.trans (h.mono hb18.size))
          clear hS hrf HNO q0 q1
          obtain ⟨q0, q1⟩ := kk.two
          go_wp2
          refine wp_obs 12 [[], [], [], [1, 2], [1, 2, 3], [], [0, 1, 2, 3, 4, 5], [0, 1, 2, 3, 4, 5, 6], [0, 1, 2, 3, 4, 5, 6, 7], [0, 1, 2, 3, 4, 5, 6, 7], [0, 1, 2, 3, 4, 5, 6, 7, 8], [0, 1, 2, 3, 4, 5, 6, 7, 9]] [VIs (.agg #[.int .i64 P, .slice A n c]), VIs (.slice (some ⟨gl, ol, none⟩) m cl), VIs (.int .i64 (j)), VIs (.pointer (some ⟨gl, ol + j, none⟩)), VIs (.slice Ar n cr), VIs (.slice An n cn), VTs w18 n R, VTs w18 n R, VSl w18 n R, VIs (.int .i64 (0)), VSl w18 n R, VIs (.int .i64 (0))] (fun w' => w'.cell? ⟨gl, ol + j, none⟩ = some (.slice Ar n cr) ∧ Blk w' w2.heap.size 26 #[.int .i64 P, .slice A n c] ∧ Below w18.heap.size w18 w') (by kernel_rfl) (by kernel_rfl) (fun _ _ h hb => ⟨(hb.cell (World.block_lt_of_cell? _ _ h.1)).trans h.1, h.2.1.below hb h.2.1.lt, h.2.2.trans (hb.mono h.2.2.size)⟩) (⟨hcell, kk.drew, (Below.refl _ _).drew⟩) (fun x => ?_)
          refine obs_step (Eq.trans (by simp only [List.getElem?_toArray, List.getElem?_cons_zero]; exact rfl) rfl) rfl (fun w' hS hV K hK => ?_) ?_
          · have q2 := hS.1; obtain ⟨q0, q1⟩ := hS.2.1.two
            go_simp
            exact hK.out _ _ _ rfl rfl rfl (Below.refl _ _)
          simp only [List.setIfInBounds_toArray, List.set_cons_zero, List.set_cons_succ]
          refine obs_step (Eq.trans (by simp only [List.getElem?_toArray, List.getElem?_cons_succ, List.getElem?_cons_zero]; exact rfl) rfl) rfl (fun w' hS hV K hK => ?_) ?_
          · have q2 := hS.1; obtain ⟨q0, q1⟩ := hS.2.1.two
            go_simp
            exact hK.out _ _ _ rfl rfl rfl (Below.refl _ _)
          simp only [List.setIfInBounds_toArray, List.set_cons_zero, List.set_cons_succ]
          refine obs_step (Eq.trans (by simp only [List.getElem?_toArray, List.getElem?_cons_succ, List.getElem?_cons_zero]; exact rfl) rfl) rfl (fun w' hS hV K hK => ?_) ?_
          · have q2 := hS.1; obtain ⟨q0, q1⟩ := hS.2.1.two
            go_simp
            exact hK.out _ _ _ rfl rfl rfl (Below.refl _ _)
          simp only [List.setIfInBounds_toArray, List.set_cons_zero, List.set_cons_succ]
          refine obs_step (Eq.trans (by simp only [List.getElem?_toArray, List.getElem?_cons_succ, List.getElem?_cons_zero]; exact rfl) rfl) rfl (fun w' hS hV K hK => ?_) ?_
          · have e1 : x 1 = (.slice (some ⟨gl, ol, none⟩) m cl) := hV 1 (by decide)
            have e2 : x 2 = (.int .i64 (j)) := hV 2 (by decide)
            have q2 := hS.1; obtain ⟨q0, q1⟩ := hS.2.1.two
            go_simp
            exact hK.out _ _ _ rfl rfl rfl (Below.refl _ _)
          simp only [List.setIfInBounds_toArray, List.set_cons_zero, List.set_cons_succ]
          refine obs_step (Eq.trans (by simp only [List.getElem?_toArray, List.getElem?_cons_succ, List.getElem?_cons_zero]; exact rfl) rfl) rfl (fun w' hS hV K hK => ?_) ?_
          · have e1 : x 1 = (.slice (some ⟨gl, ol, none⟩) m cl) := hV 1 (by decide)
            have e2 : x 2 = (.int .i64 (j)) := hV 2 (by decide)
            have e3 : x 3 = (.pointer (some ⟨gl, ol + j, none⟩)) := hV 3 (by decide)
            have q2 := hS.1; obtain ⟨q0, q1⟩ := hS.2.1.two
            go_simp
            exact hK.out _ _ _ rfl rfl rfl (Below.refl _ _)
          simp only [List.setIfInBounds_toArray, List.set_cons_zero, List.set_cons_succ]
          refine obs_step (Eq.trans (by simp only [List.getElem?_toArray, List.getElem?_cons_succ, List.getElem?_cons_zero]; exact rfl) rfl) rfl (fun w' hS hV K hK => ?_) ?_
          · have q2 := hS.1; obtain ⟨q0, q1⟩ := hS.2.1.two
            go_simp
            exact hK.out _ _ _ rfl rfl rfl (Below.refl _ _)
          simp only [List.setIfInBounds_toArray, List.set_cons_zero, List.set_cons_succ]
          refine obs_step (Eq.trans (by simp only [List.getElem?_toArray, List.getElem?_cons_succ, List.getElem?_cons_zero]; exact rfl) rfl) rfl (fun w' hS hV K hK => ?_) ?_
          · have e0 : x 0 = (.agg #[.int .i64 P, .slice A n c]) := hV 0 (by decide)
            have e1 : x 1 = (.slice (some ⟨gl, ol, none⟩) m cl) := hV 1 (by decide)
            have e2 : x 2 = (.int .i64 (j)) := hV 2 (by decide)
            have e3 : x 3 = (.pointer (some ⟨gl, ol + j, none⟩)) := hV 3 (by decide)
            have e4 : x 4 = (.slice Ar n cr) := hV 4 (by decide)
            have e5 : x 5 = (.slice An n cn) := hV 5 (by decide)
            have q2 := hS.1; obtain ⟨q0, q1⟩ := hS.2.1.two
            go_simp
            refine (HRF.out _ hS.2.2).mono ?_
            rintro e v1 ⟨A2, c2, rfl, hM⟩
            exact hK.out _ _ _ rfl rfl ⟨_, _, rfl, hM.after hS.2.2⟩ hM.b
          simp only [List.setIfInBounds_toArray, List.set_cons_zero, List.set_cons_succ]
          refine obs_step (Eq.trans (by simp only [List.getElem?_toArray, List.getElem?_cons_succ, List.getElem?_cons_zero]; exact rfl) rfl) rfl (fun w' hS hV K hK => ?_) ?_
          · have e0 : x 0 = (.agg #[.int .i64 P, .slice A n c]) := hV 0 (by decide)
            have e1 : x 1 = (.slice (some ⟨gl, ol, none⟩) m cl) := hV 1 (by decide)
            have e2 : x 2 = (.int .i64 (j)) := hV 2 (by decide)
            have e3 : x 3 = (.pointer (some ⟨gl, ol + j, none⟩)) := hV 3 (by decide)
            have e4 : x 4 = (.slice Ar n cr) := hV 4 (by decide)
            have e5 : x 5 = (.slice An n cn) := hV 5 (by decide)
            obtain ⟨A6, c6, e6, h6⟩ := hV 6 (by decide)
            have q2 := hS.1; obtain ⟨q0, q1⟩ := hS.2.1.two
            go_simp
            exact hK.out _ _ _ rfl rfl ⟨_, _, rfl, h6⟩ (Below.refl _ _)
          simp only [List.setIfInBounds_toArray, List.set_cons_zero, List.set_cons_succ]
          refine obs_step (Eq.trans (by simp only [List.getElem?_toArray, List.getElem?_cons_succ, List.getElem?_cons_zero]; exact rfl) rfl) rfl (fun w' hS hV K hK => ?_) ?_
          · have e0 : x 0 = (.agg #[.int .i64 P, .slice A n c]) := hV 0 (by decide)
            have e1 : x 1 = (.slice (some ⟨gl, ol, none⟩) m cl) := hV 1 (by decide)
            have e2 : x 2 = (.int .i64 (j)) := hV 2 (by decide)
            have e3 : x 3 = (.pointer (some ⟨gl, ol + j, none⟩)) := hV 3 (by decide)
            have e4 : x 4 = (.slice Ar n cr) := hV 4 (by decide)
            have e5 : x 5 = (.slice An n cn) := hV 5 (by decide)
            obtain ⟨A6, c6, e6, h6⟩ := hV 6 (by decide)
            obtain ⟨A7, c7, e7, h7⟩ := hV 7 (by decide)
            have q2 := hS.1; obtain ⟨q0, q1⟩ := hS.2.1.two
            go_simp
            exact hK.out _ _ _ rfl rfl ⟨_, _, rfl, h7⟩ (Below.refl _ _)
          simp only [List.setIfInBounds_toArray, List.set_cons_zero, List.set_cons_succ]
          refine obs_step (Eq.trans (by simp only [List.getElem?_toArray, List.getElem?_cons_succ, List.getElem?_cons_zero]; exact rfl) rfl) rfl (fun w' hS hV K hK => ?_) ?_
          · have e0 : x 0 = (.agg #[.int .i64 P, .slice A n c]) := hV 0 (by decide)
            have e1 : x 1 = (.slice (some ⟨gl, ol, none⟩) m cl) := hV 1 (by decide)
            have e2 : x 2 = (.int .i64 (j)) := hV 2 (by decide)
            have e3 : x 3 = (.pointer (some ⟨gl, ol + j, none⟩)) := hV 3 (by decide)
            have e4 : x 4 = (.slice Ar n cr) := hV 4 (by decide)
            have e5 : x 5 = (.slice An n cn) := hV 5 (by decide)
            obtain ⟨A6, c6, e6, h6⟩ := hV 6 (by decide)
            obtain ⟨A7, c7, e7, h7⟩ := hV 7 (by decide)
            have q2 := hS.1; obtain ⟨q0, q1⟩ := hS.2.1.two
            go_simp
            exact hK.out _ _ _ rfl rfl rfl (Below.refl _ _)
          simp only [List.setIfInBounds_toArray, List.set_cons_zero, List.set_cons_succ]
          refine obs_step (Eq.trans (by simp only [List.getElem?_toArray, List.getElem?_cons_succ, List.getElem?_cons_zero]; exact rfl) rfl) rfl (fun w' hS hV K hK => ?_) ?_
          · have e0 : x 0 = (.agg #[.int .i64 P, .slice A n c]) := hV 0 (by decide)
            have e1 : x 1 = (.slice (some ⟨gl, ol, none⟩) m cl) := hV 1 (by decide)
            have e2 : x 2 = (.int .i64 (j)) := hV 2 (by decide)
            have e3 : x 3 = (.pointer (some ⟨gl, ol + j, none⟩)) := hV 3 (by decide)
            have e4 : x 4 = (.slice Ar n cr) := hV 4 (by decide)
            have e5 : x 5 = (.slice An n cn) := hV 5 (by decide)
            obtain ⟨A6, c6, e6, h6⟩ := hV 6 (by decide)
            obtain ⟨A7, c7, e7, h7⟩ := hV 7 (by decide)
            obtain ⟨A8, c8, e8, h8⟩ := hV 8 (by decide)
            have q2 := hS.1; obtain ⟨q0, q1⟩ := hS.2.1.two
            go_simp
            exact hK.out _ _ _ rfl rfl ⟨_, _, rfl, h8⟩ (Below.refl _ _)
          simp only [List.setIfInBounds_toArray, List.set_cons_zero, List.set_cons_succ]
          refine obs_step (Eq.trans (by simp only [List.getElem?_toArray, List.getElem?_cons_succ, List.getElem?_cons_zero]; exact rfl) rfl) rfl (fun w' hS hV K hK => ?_) ?_
          · have e0 : x 0 = (.agg #[.int .i64 P, .slice A n c]) := hV 0 (by decide)
            have e1 : x 1 = (.slice (some ⟨gl, ol, none⟩) m cl) := hV 1 (by decide)
            have e2 : x 2 = (.int .i64 (j)) := hV 2 (by decide)
            have e3 : x 3 = (.pointer (some ⟨gl, ol + j, none⟩)) := hV 3 (by decide)
            have e4 : x 4 = (.slice Ar n cr) := hV 4 (by decide)
            have e5 : x 5 = (.slice An n cn) := hV 5 (by decide)
            obtain ⟨A6, c6, e6, h6⟩ := hV 6 (by decide)
            obtain ⟨A7, c7, e7, h7⟩ := hV 7 (by decide)
            have e9 : x 9 = (.int .i64 (0)) := hV 9 (by decide)
            have q2 := hS.1; obtain ⟨q0, q1⟩ := hS.2.1.two
            go_simp
            exact hK.out _ _ _ rfl rfl rfl (Below.refl _ _)
          simp only [List.setIfInBounds_toArray, List.set_cons_zero, List.set_cons_succ]
          refine fun w' hS hV => ?_
          have e0 : x 0 = (.agg #[.int .i64 P, .slice A n c]) := hV 0 (by decide)
          have e1 : x 1 = (.slice (some ⟨gl, ol, none⟩) m cl) := hV 1 (by decide)
          have e2 : x 2 = (.int .i64 (j)) := hV 2 (by decide)
          have e3 : x 3 = (.pointer (some ⟨gl, ol + j, none⟩)) := hV 3 (by decide)
          have e4 : x 4 = (.slice Ar n cr) := hV 4 (by decide)
          have e5 : x 5 = (.slice An n cn) := hV 5 (by decide)
          obtain ⟨A6, c6, e6, h6⟩ := hV 6 (by decide)
          obtain ⟨A7, c7, e7, h7⟩ := hV 7 (by decide)
          obtain ⟨A8, c8, e8, h8⟩ := hV 8 (by decide)
          have e9 : x 9 = (.int .i64 (0)) := hV 9 (by decide)
          obtain ⟨A10, c10, e10, h10⟩ := hV 10 (by decide)
          have e11 : x 11 = (.int .i64 (0)) := hV 11 (by decide)
          simp only [e0, e1, e2, e3, e4, e5, e6, e7, e8, e9, e10, e11]
          clear e0 e1 e2 e3 e4 e5 e6 e7 e8 e9 e10 e11
          refine wpAny_done (by kernel_rfl) ?_ _
          obtain ⟨w19, rfl⟩ : ∃ W, W = w' := ⟨_, rfl⟩
          replace kk := hS.2.1
          have hb19 := hb18.trans (hS.2.2.mono hb18.size)
          clear hS HRF q0 q1 hcell hb18
          obtain ⟨q0, q1⟩ := kk.two
          have hmd := mod5_any P (N0 * a) w19 (by omega) hp2
          go_wp2_with fail
          refine hmd.mono ?_
          rintro e w20 ⟨rfl, rfl⟩
          clear hmd
          have W5 : wrap64 ((j : Int) - 1) = (j : Int) - 1 := by unfold wrap64; omega
          go_wp2
          go_roundw
          case rel => exact ⟨j, (j : Int) - 1, A10, c10, by omega, rfl, by first | rfl | go_num, by rw [HNX.out], rfl, by rw [HRX.out]; exact h10.rd, h10.2.cap, hbr.trans (hb19.mono hbr.size)⟩
          case measure => first | (simp [intOf]; done) | (simp [intOf]; omega)
        · obtain rfl : k = 0 := by omega
          obtain rfl : iv = -1 := by omega
          clear hiv
          have t1 : decide ((0 : Int) ≤ -1) = false := by decide
          rw [List.drop_zero] at hnow
          rw [List.drop_zero]
          replace hW := hW.trans (hbr.mono hW.size)
          replace r_x := r_x.below hbr
          replace r_b := r_b.below hbr
          replace r_im := r_im.below hbr
          clear hbr r_l r_v
          have r_nw := hnow
          clear hnow
          have kk := k3.below hW k3.lt
          obtain ⟨q0, q1⟩ := kk.two
          clear kk
          have hcall := size5_any P A n c wr (by omega)
          go_wp2_with fail
          refine hcall.mono ?_
          rintro e w21 ⟨rfl, hb7⟩
          replace r_x := r_x.below hb7
          replace r_b := r_b.below hb7
          replace r_im := r_im.below hb7
          replace r_nw := r_nw.below hb7
          replace hW := hW.trans (hb7.mono hW.size)
          clear hcall q0 q1
          have hmk := make_i (P := Tryz.prog) 24 2 Tryz.underlying24 info_i (pw n) (by omega)
          have hM := Mk.made (E := 2) (n := pw n) (z := .int .i64 0) (Below.refl w21.heap.size w21) (by simp only [maxLen]; omega)
          rw [ints_replicate] at hM
          have hset := (hM.set 0 (.int .i64 1)).1
          rw [ints_set, show (List.replicate (pw n) (0 : Int)).set 0 1 = bladeL n 0 from rfl] at hset
          obtain ⟨hoc, hof⟩ := mkI_at hM (pw_pos n)
          rw [World.setCell_alloc_new] at hset
          have HU := Lib.hid hset
          have i1 : (0 : Int) < ((pw n : Nat) : Int) := by have := pw_pos n; omega
          have i2 : 0 < pw n := pw_pos n
          have HWB := Lib.hid (And.intro hW (And.intro r_x (And.intro r_b (And.intro r_im r_nw))))
          clear hset hM hW r_x r_b r_im r_nw
          go_wp2_with fail
          obtain ⟨w24, hw24, HU2⟩ : ∃ W, W = _ ∧ MkI w21 W _ _ _ _ := ⟨_, rfl, HU.out⟩
          rw [← hw24]
          clear hw24 HU
          have hb8 := HU2.b
          obtain ⟨hW, r_x, r_b, r_im, r_nw⟩ := HWB.out
          replace r_x := r_x.below hb8
          replace r_b := r_b.below hb8
          replace r_im := r_im.below hb8
          replace r_nw := r_nw.below hb8
          replace hW := hW.trans (hb8.mono hW.size)
          have r_un := HU2.rd
          clear hoc hof hmk hb8 HWB HU2
          have hcall := likeInts_any An A12 n n cn c12 _ _ w24 (by omega) (by omega) r_nw r_im
          rw [decide_eq_true rfl] at hcall
          refine hcall.mono ?_
          rintro e w25 ⟨rfl, j2, hw9⟩
          have hb7 := below_drewN (Below.refl w24.heap.size w24) j2
          rw [← hw9] at hb7
          replace r_x := r_x.below hb7
          replace r_b := r_b.below hb7
          replace r_im := r_im.below hb7
          replace r_nw := r_nw.below hb7
          replace r_un := r_un.below hb7
          replace hW := hW.trans (hb7.mono hW.size)
          clear hcall hb7 hw9
          clear r_nw r_im
          have kk := k3.below hW k3.lt
          obtain ⟨q0, q1⟩ := kk.two
          clear kk
          have hcall := times5_ok P A n c sq A4 (pw n) c4 X A9 (pw n) c9 Y w25 (by omega) (by omega) (by omega) (o3.below hW) r_x i_x r_b i_b HCM.out
          rw [HYN.out.2.2] at hcall
          go_wp2_with fail
          refine hcall.mono ?_
          rintro e w26 ⟨A26, c26, rfl, hM⟩
          replace r_x := r_x.below hM.b
          replace r_b := r_b.below hM.b
          replace r_un := r_un.below hM.b
          have r_pr := hM.rd
          replace hW := hW.trans (hM.b.mono hW.size)
          clear hM
          clear hcall q0 q1
          have kk := k3.below hW k3.lt
          obtain ⟨q0, q1⟩ := kk.two
          clear kk
          have hcall := likeInts_any A26 (some ⟨w21.heap.size, 0, none⟩) (pw n) (pw n) c26 (pw n) (bladeL n 0) (bladeL n 0) w26 (by omega) (by omega) r_pr r_un
          rw [decide_eq_true rfl] at hcall
          go_wp2_with fail
          refine hcall.mono ?_
          rintro e w27 ⟨rfl, j3, hw9⟩
          have hb7 := below_drewN (Below.refl w26.heap.size w26) j3
          rw [← hw9] at hb7
          replace r_x := r_x.below hb7
          replace r_b := r_b.below hb7
          replace r_un := r_un.below hb7
          replace r_pr := r_pr.below hb7
          replace hW := hW.trans (hb7.mono hW.size)
          clear hcall q0 q1 hb7 hw9
          clear r_pr r_un
          go_wp2
          go_ret
          exact ⟨rfl, hB3.trans (hW.mono hB3.size)⟩
    · have e1 : ((voR P sq L).2 != 0) = true := by rw [voR_bad hc]; simp [hc]
      go_wp2
      go_ret
      exact ⟨rfl, hB6⟩
end Go.Proofs.YtggigolkncckoaaGreat
