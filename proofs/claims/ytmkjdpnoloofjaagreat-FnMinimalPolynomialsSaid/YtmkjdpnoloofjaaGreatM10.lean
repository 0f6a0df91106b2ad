/-
  LawFnMinimalPolynomials: part 10 of the texts that the proof needs. No condition.
-/
import Derived.Test.YtmkjdpnoloofjaaGreatM9
namespace Go.Proofs.YtmkjdpnoloofjaaGreat
open Go.RowKit
set_option maxHeartbeats 1600000 in
set_option maxRecDepth 8000 in
theorem CharacteristicPolynomial_ok (p : Int) (A : Option Addr) (n c : Nat) (M : List (List Int)) (w : World) (HP : isP p = true) (h0 : 0 < n) (hn : n ≤ 16) (ha : RdII w A n M) (hT : Tab p n M) :
    Calls Tryz.prog 65 #[.int .i64 p, .slice A n c] w fun e w' => ∃ (A' : Option Addr) (c' : Nat), e = .returned (.tuple #[.slice A' (n + 1) c', .int .i64 0]) ∧ MkI w w' A' (n + 1) c' (charL p M) := by
 have hck := checkSquare_ok p A n c M w HP h0 hn ha hT
 go_enter Tryz.func65, Tryz.ntmps65
 go_wp2_with fail
 refine hck.mono ?_
 rintro e w1 ⟨rfl, hb⟩
 have hch := characteristic_any p A n c M w1 HP h0 hn (ha.below hb) hT
 clear hck
 go_wp2_with fail
 refine hch.mono ?_
 rintro e w2 ⟨A2, c2, rfl, hM⟩
 have HM := Lib.hid (hM.after hb)
 clear hch hM
 go_wp2
 go_ret2
 exact ⟨_, _, rfl, HM.out⟩
/-- A space and a list, drawn. -/
def Drew1 (w : World) (e : Ending) (w' : World) : Prop := ∃ (P : Int) (A : Option Addr) (n c : Nat) (sq : List Int) (A1 : Option Addr) (m1 c1 : Nat) (xs : List Int), e = .returned (.tuple #[.agg #[.int .i64 P, .slice A n c], .slice A1 m1 c1]) ∧ P ≤ 17 ∧ n ≤ 7 ∧ m1 ≤ 100 ∧ Own w' w.heap.size 2 A n c (ints sq) ∧ Own w' w.heap.size 2 A1 m1 c1 (ints xs) ∧ Below w.heap.size w w'
theorem vidL_ok {P : Int} (hp : 2 ≤ P) (sq : List Int) (n : Nat) (vs : List Int) : (vidL P sq n vs).length = pw n ∧ NumsL P (vidL P sq n vs) := by
 unfold vidL
 exact ⟨by rw [plusL_len, scaleL_len, bladeL_len], plusL_nums (by omega) _ _ _⟩
theorem vidR_zero {P : Int} {sq vs : List Int} (h : (vidR P sq vs).2 = 0) : (vidR P sq vs).1 = vidL P sq sq.length vs := by
 unfold vidR at h ⊢
 by_cases h1 : codeA P sq [vs] = 0
 · rw [if_pos h1] at h ⊢
   cases h2 : (decide (vs = partG vs 1) && decide (0 < vrtL P sq sq.length vs))
   · rw [h2] at h; simp at h
   · rfl
 · rw [if_neg h1] at h; exact absurd h h1
/-- The value is a tuple of a list, made since the heap had B blocks, and a code; where the code is 0 the list is a multivector. -/
def VTc (B : Nat) (P : Int) (n : Nat) : VP := ⟨fun v w => ∃ (A : Option Addr) (k c : Nat) (xs : List Int) (z : Int), v = .tuple #[.slice A k c, .int .i64 z] ∧ Own w B 2 A k c (ints xs) ∧ (z = 0 → xs.length = pw n ∧ NumsL P xs), fun _ _ _ ⟨A, k, c, xs, z, e, h, hz⟩ hb => ⟨A, k, c, xs, z, e, h.below hb, hz⟩⟩
/-- The parts of a tuple. -/
def tupA : Value → Value
 | .tuple vs => vs.getD 0 undef
 | v => v
def tupB : Value → Value
 | .tuple vs => vs.getD 1 undef
 | v => v
set_option maxHeartbeats 12800000 in
set_option maxRecDepth 8000 in
theorem l09Draw_any (B : Option Addr) (nb cb : Nat) (bs : List Int) (w : World) (hnb : nb ≤ 4096) (r : Rd w B nb (bs.map (Value.int .u8))) (hbs : ∀ b ∈ bs, 0 ≤ b ∧ b < 256) (hbg : ∀ a, B = some a → a.block < w.heap.size) :
    Calls Tryz.prog 148 #[.slice B nb cb] w (Drew1 w) := by
 have hB0 : Below w.heap.size w (w.alloc (.cells #[.int .i64 0, .slice none 0 0] 26)) := zG.alloc (Nat.le_refl _) _
 have k0 : Blk (w.alloc (.cells #[.int .i64 0, .slice none 0 0] 26)) w.heap.size 26 #[.int .i64 0, .slice none 0 0] := Blk.new _ _ _
 have hfr := from__any B nb cb bs (w.alloc (.cells #[.int .i64 0, .slice none 0 0] 26)) hnb (r.below hB0) hbs (fun a e => by have := hbg a e; simp; omega)
 go_enter Tryz.func148, Tryz.ntmps148
 go_wp2_with fail
 refine hfr.mono ?_
 rintro e w2 ⟨g, rfl, hg, hs2, hb2⟩
 have k2 := k0.below hb2 k0.lt
 have hB2 := hB0.trans (hb2.mono hB0.size)
 have hw := hB2.size
 have hgw : w.heap.size ≤ g := Nat.le_trans hB0.size hg
 clear hfr hb2 k0 hB0 hg
 have d1 := (Dr.refl hs2).alloc (.cells #[.int .i64 2, .int .i64 3, .int .i64 3, .int .i64 4] 2)
 have hpk := pick_any g w2.heap.size [2, 3, 3, 4] _ d1.s' (Blk.new w2 2 _) (by decide) (by decide)
 replace k2 := k2.alloc (.cells #[.int .i64 2, .int .i64 3, .int .i64 3, .int .i64 4] 2)
 go_wp2_with fail
 refine hpk.mono ?_
 rintro e w3 ⟨r0, hr0, rfl, hd3⟩
 have hr1 : 2 ≤ r0 ∧ r0 ≤ 4 := by simp at hr0; omega
 obtain ⟨mn, rfl⟩ : ∃ mn : Nat, r0 = mn := ⟨r0.toNat, by omega⟩
 replace d1 := d1.trans hd3
 replace k2 := k2.dr hd3 (by decide)
 have han := l03Any_any g mn w3 d1.s' (by omega) (by omega)
 clear hpk hd3 hr0
 go_wp2_with fail
 refine han.mono ?_
 rintro e w4 ⟨P, A, n, c, sq, rfl, hP3, hP13, hn1, hn2, hO, hd4⟩
 have oq := (hO.base (Nat.le_trans hw d1.size)).below (zG.alloc (Nat.le_refl _) (.cells #[.int .i64 P, .slice A n c] 26))
 have k5 := Blk.new w4 26 #[.int .i64 P, .slice A n c]
 have kr := (k2.dr hd4 (by decide)).alloc (.cells #[.int .i64 P, .slice A n c] 26)
 have d := (d1.trans hd4).alloc (.cells #[.int .i64 P, .slice A n c] 26)
 have hb5 : w2.heap.size ≤ w4.heap.size := (d1.trans hd4).size
 have hb6 : w.heap.size < w4.heap.size := Nat.lt_of_lt_of_le (show w.heap.size < w3.heap.size from k2.lt) hd4.size
 have hnx := next_any g 16 _ d.s' (by omega)
 clear han hO hd4 d1 k2
 go_wp2_with fail
 refine hnx.mono ?_
 rintro e w5 ⟨r16, rfl, _, _, hd5⟩
 replace k5 := k5.dr hd5 (by decide)
 replace kr := kr.dr hd5 (by decide)
 replace oq := oq.dr hd5 (by decide)
 replace d := d.trans hd5
 obtain ⟨b5, hb5e⟩ : ∃ b, b = w4.heap.size := ⟨_, rfl⟩
 rw [← hb5e] at k5 hb5 hb6 ⊢
 clear hnx hd5 hb5e
 have hP : P ≤ 17 := by omega
 have hn : n ≤ 7 := by omega
 clear hP3 hP13 hn1 hn2 hr1
 by_cases h16 : r16 = 0
 · have e16 : (r16 == 0) = true := by simp [h16]
   have hsp := l03Spoil_any g w5 d.s'
   go_wp2_with fail
   refine hsp.mono ?_
   clear oq
   rintro e w6 ⟨P, A, n, c, sq, rfl, hP, hn, hO', hd6⟩
   replace k5 := k5.dr hd6 (by decide)
   replace kr := kr.dr hd6 (by decide)
   have oq := hO'.base (Nat.le_trans hw d.size)
   replace d := d.trans hd6
   obtain ⟨q0, q1⟩ := k5.two
   have f0 := k5.frozen 0
   have f1 := k5.frozen 1
   clear hsp hO' hd6
   have kr9 := (kr.far (p := ⟨b5, 0, none⟩) (show w.heap.size ≠ b5 by omega) (.int .i64 P)).far (p := ⟨b5, 1, none⟩) (show w.heap.size ≠ b5 by omega) (.slice A n c)
   have oq9 := (oq.far k5 (by decide) 0 (.int .i64 P)).far (k5.set_ 0 (.int .i64 P)) (by decide) 1 (.slice A n c)
   have d9 := (d.setNew hb5 0 (.int .i64 P)).setNew hb5 1 (.slice A n c)
   have k9 := k5.stored (p' := P) (A' := A) (n' := n) (c' := c)
   go_wp2_with fail
   obtain ⟨wz, hwz⟩ : ∃ W, W = (w6.setCell ⟨b5, 0, none⟩ (.int .i64 P)).setCell ⟨b5, 1, none⟩ (.slice A n c) := ⟨_, rfl⟩
   rw [← hwz] at k9 kr9 oq9 d9 ⊢
   clear k5 kr oq d q0 q1 f0 f1 hwz
   have k5 := k9
   have kr := kr9
   have oq := oq9
   have d := d9
   clear k9 kr9 oq9 d9 e16 h16
   have hsp := l04Spoil_any g P A n c sq wz d.s' (by omega) (oq.base (Nat.zero_le _))
   refine hsp.mono ?_
   rintro e w9 ⟨X, m, cx, rfl, hm, ⟨xs, ho9⟩, hd9⟩
   have ox := ho9.base (Nat.le_trans hw d.size)
   replace k5 := k5.dr hd9 (by decide)
   replace kr := kr.dr hd9 (by decide)
   replace oq := oq.dr hd9 (by decide)
   replace d := d.trans hd9
   clear hsp ho9 hd9
   obtain ⟨q0, q1⟩ := k5.two
   cases hmu : (isSp P sq && isMu P sq xs)
   · have hi := l04Is_b P A X n c m cx sq xs w9 (by omega) (by omega) oq.rd ox.rd hmu
     clear hmu
     go_wp2_with fail
     refine hi.mono ?_
     rintro e w10 ⟨rfl, hb⟩
     replace k5 := k5.below hb k5.lt
     replace kr := kr.below hb kr.lt
     replace oq := oq.below hb
     replace ox := ox.below hb
     replace d := d.then hb
     clear hi hb q0 q1
     obtain ⟨q0, q1⟩ := k5.two
     obtain ⟨p0, p1⟩ := kr.two
     have f0 := kr.frozen 0
     have f1 := kr.frozen 1
     go_wp2
     exact bodyPost_ret (v := .tuple #[.agg #[.int .i64 P, .slice A n c], .slice X m cx]) (by simp [results, Tryz.results148, go_sem, p0, p1]) rfl ⟨P, A, n, c, sq, X, m, cx, xs, rfl, hP, hn, by omega, (oq.far kr (by decide) 0 _).far (kr.set_ 0 (.int .i64 P)) (by decide) 1 _, (ox.far kr (by decide) 0 _).far (kr.set_ 0 (.int .i64 P)) (by decide) 1 _, hB2.trans (((d.b.mono hgw).setCell (p := ⟨w.heap.size, 0, none⟩) (Nat.le_refl _) _).setCell (p := ⟨w.heap.size, 1, none⟩) (Nat.le_refl _) _)⟩
   · have hi := l04Is_b P A X n c m cx sq xs w9 (by omega) (by omega) oq.rd ox.rd hmu
     have HM : Hid (isP P = true ∧ n ≤ 6 ∧ NumsL P sq ∧ xs.length = pw n ∧ NumsL P xs) := Lib.hid (by
      rw [Bool.and_eq_true] at hmu
      obtain ⟨g1, g2, g3, g4⟩ := isSp_dim hmu.1
      have g5 := hmu.2
      unfold isMu at g5
      rw [Bool.and_eq_true, beq_iff_eq] at g5
      rw [oq.rd.lenI] at g3
      exact ⟨g1, g3, nums_numsL g4, by have := g5.1; rw [oq.rd.lenI] at this; omega, nums_numsL g5.2⟩)
     clear hmu
     go_wp2_with fail
     refine hi.mono ?_
     rintro e w10 ⟨rfl, hb⟩
     replace k5 := k5.below hb k5.lt
     replace kr := kr.below hb kr.lt
     replace oq := oq.below hb
     replace ox := ox.below hb
     replace d := d.then hb
     clear hi hb q0 q1
     obtain ⟨hp3, hp2⟩ := isP_ge HM.out.1
     have HP2 : Hid (2 ≤ P) := Lib.hid (by omega)
     have HSL : Hid (sq.length = n) := Lib.hid oq.rd.lenI
     obtain ⟨q0, q1⟩ := k5.two
     by_cases h4 : n ≤ 4
     · have d4 : decide ((n : Int) ≤ 4) = true := by simp; omega
       have hnx := next_any g 3 w10 d.s' (by omega)
       go_wp2_with fail
       refine hnx.mono ?_
       rintro e w11 ⟨r3, rfl, _, _, hd3⟩
       replace k5 := k5.dr hd3 (by decide)
       replace kr := kr.dr hd3 (by decide)
       replace oq := oq.dr hd3 (by decide)
       replace ox := ox.dr hd3 (by decide)
       replace d := d.trans hd3
       clear hnx hd3 q0 q1
       by_cases h3 : r3 = 0
       · have e3 : (r3 == 0) = true := by simp [h3]
         have hpw : pw n ≤ 16 := pw_le h4
         obtain ⟨q0, q1⟩ := k5.two
         go_wp2
         refine wp_obsR 16 (Dr g 144) [[], [], [], [], [3], [], [5], [5, 6], [2, 3, 4, 5, 6, 7], [1, 2, 3, 4, 5, 6, 7, 8], [0, 1, 2, 3, 4, 5, 6, 7, 8, 9], [0, 1, 2, 3, 4, 5, 6, 7, 8, 9, 10], [0, 1, 2, 3, 4, 5, 6, 7, 8, 9, 10, 11], [0, 1, 2, 3, 4, 5, 6, 7, 8, 9, 10, 11], [0, 1, 2, 3, 4, 5, 6, 7, 8, 9, 10, 11, 12], [0, 1, 2, 3, 4, 5, 6, 7, 8, 9, 10, 11, 13]] [[], [], [], [], [], [], [], [], [99], [], [], [], [], [], [], []] (fun x => [VIs (.agg #[.int .i64 P, .slice A n c]), VIs (.agg #[.int .i64 P, .slice A n c]), VIs (.pointer (some ⟨g, 0, none⟩)), VIs (.pointer (some ⟨b5, 0, none⟩)), VIs (.int .i64 (P)), VIs (.pointer (some ⟨b5, 1, none⟩)), VIs (.slice A n c), VIs (.int .i64 (n)), VLs w.heap.size n P, VLs w.heap.size (pw n) P, VTc w.heap.size P n, VTc w.heap.size P n, VIs (tupA (x 11)), VIs (tupB (x 11)), VIs (tupA (x 11)), VIs (tupB (x 11))]) (fun w' => Blk w' b5 26 #[.int .i64 P, .slice A n c] ∧ Blk w' w.heap.size 26 #[.int .i64 0, .slice none 0 0] ∧ Own w' w.heap.size 2 A n c (ints sq) ∧ Own w' w.heap.size 2 X m cx (ints xs) ∧ Dr g 144 w2 w') (by kernel_rfl) (by kernel_rfl) (fun x x' j hx => by
             rcases j with _ | _ | _ | _ | _ | _ | _ | _ | _ | _ | _ | _ | _ | _ | _ | _ | j
             · rfl
             · rfl
             · rfl
             · rfl
             · rfl
             · rfl
             · rfl
             · rfl
             · rfl
             · rfl
             · rfl
             · rfl
             · rw [hx 11 (by decide)]
             · rw [hx 11 (by decide)]
             · rw [hx 11 (by decide)]
             · rw [hx 11 (by decide)]
             · rfl)
          (weak_ofR [0, 1, 2, 3, 4, 5, 6, 7, 8, 12, 13, 14, 15] (by decide) (fun k hk x v w w' hp hr => by
           simp only [List.mem_cons, zJ, or_false] at hk
           rcases hk with rfl | rfl | rfl | rfl | rfl | rfl | rfl | rfl | rfl | rfl | rfl | rfl | rfl
           · exact hp
           · exact hp
           · exact hp
           · exact hp
           · exact hp
           · exact hp
           · exact hp
           · exact hp
           · exact VLs.dr hp hr (by decide)
           · exact hp
           · exact hp
           · exact hp
           · exact hp)) (fun j _ _ h hb => hb.either (fun hb => ⟨h.1.below hb h.1.lt, h.2.1.below hb h.2.1.lt, h.2.2.1.below hb, h.2.2.2.1.below hb, h.2.2.2.2.then hb⟩) (fun hr => ⟨h.1.dr hr (by decide), h.2.1.dr hr (by decide), h.2.2.1.dr hr (by decide), h.2.2.2.1.dr hr (by decide), h.2.2.2.2.trans hr⟩)) (⟨k5.drew, kr.drew, oq.below zG.drew, ox.below zG.drew, d.then zG.drew⟩) (fun x => ?_)
         refine zSR (fun w' hS hV K hK => ?_) ?_
         · obtain ⟨q0, q1⟩ := hS.1.two; go_simp; exact hK.out _ _ _ rfl rfl rfl zG
         refine zSR (fun w' hS hV K hK => ?_) ?_
         · obtain ⟨q0, q1⟩ := hS.1.two; go_simp; exact hK.out _ _ _ rfl rfl rfl zG
         refine zSR (fun w' hS hV K hK => ?_) ?_
         · obtain ⟨q0, q1⟩ := hS.1.two; go_simp; exact hK.out _ _ _ rfl rfl rfl zG
         refine zSR (fun w' hS hV K hK => ?_) ?_
         · obtain ⟨q0, q1⟩ := hS.1.two; go_simp; exact hK.out _ _ _ rfl rfl rfl zG
         refine zSR (fun w' hS hV K hK => ?_) ?_
         · have e3 := zQ hV 3; obtain ⟨q0, q1⟩ := hS.1.two; go_simp; exact hK.out _ _ _ rfl rfl rfl zG
         refine zSR (fun w' hS hV K hK => ?_) ?_
         · obtain ⟨q0, q1⟩ := hS.1.two; go_simp; exact hK.out _ _ _ rfl rfl rfl zG
         refine zSR (fun w' hS hV K hK => ?_) ?_
         · have e5 := zQ hV 5; obtain ⟨q0, q1⟩ := hS.1.two; go_simp; exact hK.out _ _ _ rfl rfl rfl zG
         refine zSR (fun w' hS hV K hK => ?_) ?_
         · have e6 := zQ hV 6; obtain ⟨q0, q1⟩ := hS.1.two; go_simp; exact hK.out _ _ _ rfl rfl rfl zG
         refine zSR (fun w' hS hV K hK => ?_) ?_
         · have e2 := zQ hV 2; have e4 := zQ hV 4; have e7 := zQ hV 7; obtain ⟨q0, q1⟩ := hS.1.two; go_simp; refine (nextList_any g P n w' hS.2.2.2.2.s' (by omega) (by omega)).mono ?_; rintro e v1 ⟨A9, c9, xs9, rfl, hl9, hx9, ho9, hd9⟩; exact hK.out _ _ _ rfl rfl ⟨_, _, xs9, rfl, hl9, nums_of (by omega) hx9, ho9.base (Nat.le_trans hw hS.2.2.2.2.size)⟩ (StepR.rel rfl hd9)
         refine zSR (fun w' hS hV K hK => ?_) ?_
         · have e1 := zQ hV 1; obtain ⟨A8, c8, X8, e8, l8, u8, h8⟩ := hV 8 (by decide); obtain ⟨q0, q1⟩ := hS.1.two; go_simp; refine (l04Vector_any P A n c A8 c8 X8 w' (by omega) h8.rd).mono ?_; rintro e v1 ⟨A9, c9, rfl, hM⟩; exact hK.out _ _ _ rfl rfl ⟨_, _, _, rfl, vecTo_len _ _ _, vecTo_nums (by omega) n X8 u8 n, hM.2.base (Nat.le_trans hw hS.2.2.2.2.size)⟩ hM.b
         refine zSR (fun w' hS hV K hK => ?_) ?_
         · have e0 := zQ hV 0; obtain ⟨A8, c8, X8, e8, l8, u8, h8⟩ := hV 8 (by decide); obtain ⟨A9, c9, X9, e9, l9, u9, h9⟩ := hV 9 (by decide); obtain ⟨q0, q1⟩ := hS.1.two; go_simp; refine (specVectorIdempotent_any P A n c sq A9 (pw n) c9 X9 w' (by omega) (by omega) hS.2.2.1.rd h9.rd h9.cap).mono ?_; rintro e v1 ⟨A9, k9, c9, rfl, hM⟩; exact hK.out _ _ _ rfl rfl ⟨_, _, _, _, _, rfl, hM.2.base (Nat.le_trans hw hS.2.2.2.2.size), fun hz => by rw [vidR_zero hz, HSL.out]; exact vidL_ok HP2.out sq n _⟩ hM.b
         refine zSR (fun w' hS hV K hK => ?_) ?_
         · obtain ⟨A8, c8, X8, e8, l8, u8, h8⟩ := hV 8 (by decide); obtain ⟨A9, c9, X9, e9, l9, u9, h9⟩ := hV 9 (by decide); obtain ⟨A10, k10, c10, X10, z10, e10, h10, y10⟩ := hV 10 (by decide); obtain ⟨q0, q1⟩ := hS.1.two; go_simp; exact hK.out _ _ _ rfl rfl ⟨_, _, _, _, _, rfl, h10, y10⟩ zG
         refine zSR (fun w' hS hV K hK => ?_) ?_
         · obtain ⟨A8, c8, X8, e8, l8, u8, h8⟩ := hV 8 (by decide); obtain ⟨A9, c9, X9, e9, l9, u9, h9⟩ := hV 9 (by decide); obtain ⟨A10, k10, c10, X10, z10, e10, h10, y10⟩ := hV 10 (by decide); obtain ⟨A11, k11, c11, X11, z11, e11, h11, y11⟩ := hV 11 (by decide); obtain ⟨q0, q1⟩ := hS.1.two; go_simp; exact hK.out _ _ _ rfl rfl (by rw [e11]; rfl) zG
         refine zSR (fun w' hS hV K hK => ?_) ?_
         · obtain ⟨A8, c8, X8, e8, l8, u8, h8⟩ := hV 8 (by decide); obtain ⟨A9, c9, X9, e9, l9, u9, h9⟩ := hV 9 (by decide); obtain ⟨A10, k10, c10, X10, z10, e10, h10, y10⟩ := hV 10 (by decide); obtain ⟨A11, k11, c11, X11, z11, e11, h11, y11⟩ := hV 11 (by decide); obtain ⟨q0, q1⟩ := hS.1.two; go_simp; exact hK.out _ _ _ rfl rfl (by rw [e11]; rfl) zG
         refine zSR (fun w' hS hV K hK => ?_) ?_
         · obtain ⟨A8, c8, X8, e8, l8, u8, h8⟩ := hV 8 (by decide); obtain ⟨A9, c9, X9, e9, l9, u9, h9⟩ := hV 9 (by decide); obtain ⟨A10, k10, c10, X10, z10, e10, h10, y10⟩ := hV 10 (by decide); obtain ⟨A11, k11, c11, X11, z11, e11, h11, y11⟩ := hV 11 (by decide); have e12 : x 12 = .slice A11 k11 c11 := (hV 12 (by decide)).trans (by rw [e11]; rfl); obtain ⟨q0, q1⟩ := hS.1.two; go_simp; exact hK.out _ _ _ rfl rfl (by rw [e11]; rfl) zG
         refine zSR (fun w' hS hV K hK => ?_) ?_
         · obtain ⟨A8, c8, X8, e8, l8, u8, h8⟩ := hV 8 (by decide); obtain ⟨A9, c9, X9, e9, l9, u9, h9⟩ := hV 9 (by decide); obtain ⟨A10, k10, c10, X10, z10, e10, h10, y10⟩ := hV 10 (by decide); obtain ⟨A11, k11, c11, X11, z11, e11, h11, y11⟩ := hV 11 (by decide); have e13 : x 13 = .int .i64 z11 := (hV 13 (by decide)).trans (by rw [e11]; rfl); obtain ⟨q0, q1⟩ := hS.1.two; go_simp; exact hK.out _ _ _ rfl rfl (by rw [e11]; rfl) zG
         refine fun w' hS hV => ?_
         have e0 := zQ hV 0
         have e1 := zQ hV 1
         have e2 := zQ hV 2
         have e3 := zQ hV 3
         have e4 := zQ hV 4
         have e5 := zQ hV 5
         have e6 := zQ hV 6
         have e7 := zQ hV 7
         obtain ⟨A8, c8, X8, e8, l8, u8, h8⟩ := hV 8 (by decide)
         obtain ⟨A9, c9, X9, e9, l9, u9, h9⟩ := hV 9 (by decide)
         obtain ⟨A10, k10, c10, X10, z10, e10, h10, y10⟩ := hV 10 (by decide)
         obtain ⟨A11, k11, c11, X11, z11, e11, h11, y11⟩ := hV 11 (by decide)
         have e12 : x 12 = .slice A11 k11 c11 := (hV 12 (by decide)).trans (by rw [e11]; rfl)
         have e13 : x 13 = .int .i64 z11 := (hV 13 (by decide)).trans (by rw [e11]; rfl)
         have e14 : x 14 = .slice A11 k11 c11 := (hV 14 (by decide)).trans (by rw [e11]; rfl)
         have e15 : x 15 = .int .i64 z11 := (hV 15 (by decide)).trans (by rw [e11]; rfl)
         simp only [e0, e1, e2, e3, e4, e5, e6, e7, e8, e9, e10, e11, e12, e13, e14, e15]
         clear e0 e1 e2 e3 e4 e5 e6 e7 e8 e9 e10 e11 e12 e13 e14 e15
         refine wpAny_done (by kernel_rfl) ?_ _
         obtain ⟨wv, hwv⟩ : ∃ W, W = w' := ⟨_, rfl⟩
         replace k5 := hS.1
         replace kr := hS.2.1
         replace oq := hS.2.2.1
         replace ox := hS.2.2.2.1
         replace d := hS.2.2.2.2
         obtain ⟨E, hEe⟩ : ∃ E, E = A11 := ⟨_, rfl⟩
         obtain ⟨ke, hke⟩ : ∃ E, E = k11 := ⟨_, rfl⟩
         obtain ⟨ce, hce⟩ : ∃ E, E = c11 := ⟨_, rfl⟩
         obtain ⟨es, hes⟩ : ∃ E, E = X11 := ⟨_, rfl⟩
         obtain ⟨z, hze⟩ : ∃ E, E = z11 := ⟨_, rfl⟩
         have oe := h11
         have HZ := Lib.hid y11
         rw [← hEe, ← hke, ← hce, ← hes] at oe
         rw [← hes, ← hze] at HZ
         rw [← hEe, ← hke, ← hce, ← hze]
         rw [← hwv] at k5 kr oq ox d oe ⊢
         clear hwv hS hEe hke hce hes hze q0 q1
         by_cases hz : z = 0
         · have ez : (z == 0) = true := by simp [hz]
           have hEN := HZ.out hz
           obtain rfl : m = pw n := by rw [← ox.rd.lenI]; exact HM.out.2.2.2.1
           obtain rfl : ke = pw n := by rw [← oe.rd.lenI]; exact hEN.1
           have HEN := Lib.hid hEN
           clear hEN hz
           obtain ⟨q0, q1⟩ := k5.two
           have HOE := Lib.hid oe
           have HD0 := Lib.hid d
           go_wp2
           refine wp_obsR 5 (Dr g 144) [[], [], [], [], [1, 2, 3], [0, 1, 2, 3, 4], [0, 1, 2, 3, 4]] [[], [], [], [], []] (fun x => [VIs (.agg #[.int .i64 P, .slice A n c]), VIs (.agg #[.int .i64 P, .slice A n c]), VIs (.slice X (pw n) cx), VIs (.slice E (pw n) ce), VLs w.heap.size (pw n) P]) (fun w' => Blk w' b5 26 #[.int .i64 P, .slice A n c] ∧ Blk w' w.heap.size 26 #[.int .i64 0, .slice none 0 0] ∧ (Own w' w.heap.size 2 A n c (ints sq) ∧ Own w' w.heap.size 2 E (pw n) ce (ints es)) ∧ Own w' w.heap.size 2 X (pw n) cx (ints xs) ∧ Dr g 144 w2 w') (by kernel_rfl) (by kernel_rfl) (fun x x' j hx => by
               rcases j with _ | _ | _ | _ | _ | j
               · rfl
               · rfl
               · rfl
               · rfl
               · rfl
               · rfl)
            (weak_ofR [0, 1, 2, 3] (by decide) (fun k hk x v w w' hp hr => by
             simp only [List.mem_cons, zJ, or_false] at hk
             rcases hk with rfl | rfl | rfl | rfl
             · exact hp
             · exact hp
             · exact hp
             · exact hp)) (fun j _ _ h hb => hb.either (fun hb => ⟨h.1.below hb h.1.lt, h.2.1.below hb h.2.1.lt, ⟨h.2.2.1.1.below hb, h.2.2.1.2.below hb⟩, h.2.2.2.1.below hb, h.2.2.2.2.then hb⟩) (fun hr => ⟨h.1.dr hr (by decide), h.2.1.dr hr (by decide), ⟨h.2.2.1.1.dr hr (by decide), h.2.2.1.2.dr hr (by decide)⟩, h.2.2.2.1.dr hr (by decide), h.2.2.2.2.trans hr⟩)) (⟨k5.drew, kr.drew, ⟨oq.below zG.drew, oe.below zG.drew⟩, ox.below zG.drew, d.then zG.drew⟩) (fun x => ?_)
           refine zSR (fun w' hS hV K hK => ?_) ?_
           · obtain ⟨q0, q1⟩ := hS.1.two; go_simp; exact hK.out _ _ _ rfl rfl rfl zG
           refine zSR (fun w' hS hV K hK => ?_) ?_
           · obtain ⟨q0, q1⟩ := hS.1.two; go_simp; exact hK.out _ _ _ rfl rfl rfl zG
           refine zSR (fun w' hS hV K hK => ?_) ?_
           · obtain ⟨q0, q1⟩ := hS.1.two; go_simp; exact hK.out _ _ _ rfl rfl rfl zG
           refine zSR (fun w' hS hV K hK => ?_) ?_
           · obtain ⟨q0, q1⟩ := hS.1.two; go_simp; exact hK.out _ _ _ rfl rfl rfl zG
           refine zSR (fun w' hS hV K hK => ?_) ?_
           · have e1 := zQ hV 1; have e2 := zQ hV 2; have e3 := zQ hV 3; obtain ⟨q0, q1⟩ := hS.1.two; go_simp; have ht := l04Times_any P A n c sq X cx xs E ce es w' HP2.out (by omega) (by omega) hS.2.2.1.1.rd HM.out.2.2.1 hS.2.2.2.1.rd HM.out.2.2.2.2 hS.2.2.1.2.rd HEN.out.2; refine ht.mono ?_; rintro e v1 ⟨A9, c9, rfl, hM⟩; exact hK.out _ _ _ rfl rfl ⟨_, _, _, rfl, by rw [prodL_len]; exact HM.out.2.2.2.1, prodL_nums _ _ _ _ (by omega), hM.2.base (Nat.le_trans hw hS.2.2.2.2.size)⟩ hM.b
           refine fun w' hS hV => ?_
           have e0 := zQ hV 0
           have e1 := zQ hV 1
           have e2 := zQ hV 2
           have e3 := zQ hV 3
           obtain ⟨A4, c4, X4, e4, l4, u4, h4⟩ := hV 4 (by decide)
           simp only [e0, e1, e2, e3, e4]
           clear e0 e1 e2 e3 e4
           replace k5 := hS.1
           replace kr := hS.2.1
           replace oq := hS.2.2.1.1
           replace d := hS.2.2.2.2
           clear q0 q1
           have ox := h4
           obtain ⟨p0, p1⟩ := kr.two
           have f0 := kr.frozen 0
           have f1 := kr.frozen 1
           refine any_one (j := 5) (by kernel_rfl) (Eq.trans (by simp only [zA, zB, zC]; exact rfl) rfl) (fun K hK => ?_)
           go_simp
           refine hK.out _ _ (any_one (j := 6) (by kernel_rfl) (Eq.trans (by simp only [zA, zB, zC]; exact rfl) rfl) (fun K hK => ?_))
           go_simp
           refine hK.out _ _ (wpAny_done (by kernel_rfl) ?_ _)
           go_wp2
           exact bodyPost_ret (v := .tuple #[.agg #[.int .i64 P, .slice A n c], .slice A4 (pw n) c4]) (by simp [results, Tryz.results148, go_sem, p0, p1]) rfl ⟨P, A, n, c, sq, A4, (pw n), c4, X4, rfl, hP, hn, by omega, (oq.far kr (by decide) 0 _).far (kr.set_ 0 (.int .i64 P)) (by decide) 1 _, (ox.far kr (by decide) 0 _).far (kr.set_ 0 (.int .i64 P)) (by decide) 1 _, hB2.trans (((d.b.mono hgw).setCell (p := ⟨w.heap.size, 0, none⟩) (Nat.le_refl _) _).setCell (p := ⟨w.heap.size, 1, none⟩) (Nat.le_refl _) _)⟩
         · have ez : (z == 0) = false := by simp [hz]
           obtain ⟨q0, q1⟩ := k5.two
           obtain ⟨p0, p1⟩ := kr.two
           have f0 := kr.frozen 0
           have f1 := kr.frozen 1
           go_wp2
           exact bodyPost_ret (v := .tuple #[.agg #[.int .i64 P, .slice A n c], .slice X m cx]) (by simp [results, Tryz.results148, go_sem, p0, p1]) rfl ⟨P, A, n, c, sq, X, m, cx, xs, rfl, hP, hn, by omega, (oq.far kr (by decide) 0 _).far (kr.set_ 0 (.int .i64 P)) (by decide) 1 _, (ox.far kr (by decide) 0 _).far (kr.set_ 0 (.int .i64 P)) (by decide) 1 _, hB2.trans (((d.b.mono hgw).setCell (p := ⟨w.heap.size, 0, none⟩) (Nat.le_refl _) _).setCell (p := ⟨w.heap.size, 1, none⟩) (Nat.le_refl _) _)⟩
       · have e3 : (r3 == 0) = false := by simp [h3]
         obtain ⟨q0, q1⟩ := k5.two
         obtain ⟨p0, p1⟩ := kr.two
         have f0 := kr.frozen 0
         have f1 := kr.frozen 1
         go_wp2
         exact bodyPost_ret (v := .tuple #[.agg #[.int .i64 P, .slice A n c], .slice X m cx]) (by simp [results, Tryz.results148, go_sem, p0, p1]) rfl ⟨P, A, n, c, sq, X, m, cx, xs, rfl, hP, hn, by omega, (oq.far kr (by decide) 0 _).far (kr.set_ 0 (.int .i64 P)) (by decide) 1 _, (ox.far kr (by decide) 0 _).far (kr.set_ 0 (.int .i64 P)) (by decide) 1 _, hB2.trans (((d.b.mono hgw).setCell (p := ⟨w.heap.size, 0, none⟩) (Nat.le_refl _) _).setCell (p := ⟨w.heap.size, 1, none⟩) (Nat.le_refl _) _)⟩
     · have d4 : decide ((n : Int) ≤ 4) = false := by simp; omega
       obtain ⟨q0, q1⟩ := k5.two
       obtain ⟨p0, p1⟩ := kr.two
       have f0 := kr.frozen 0
       have f1 := kr.frozen 1
       go_wp2
       exact bodyPost_ret (v := .tuple #[.agg #[.int .i64 P, .slice A n c], .slice X m cx]) (by simp [results, Tryz.results148, go_sem, p0, p1]) rfl ⟨P, A, n, c, sq, X, m, cx, xs, rfl, hP, hn, by omega, (oq.far kr (by decide) 0 _).far (kr.set_ 0 (.int .i64 P)) (by decide) 1 _, (ox.far kr (by decide) 0 _).far (kr.set_ 0 (.int .i64 P)) (by decide) 1 _, hB2.trans (((d.b.mono hgw).setCell (p := ⟨w.heap.size, 0, none⟩) (Nat.le_refl _) _).setCell (p := ⟨w.heap.size, 1, none⟩) (Nat.le_refl _) _)⟩
 · have e16 : (r16 == 0) = false := by simp [h16]
   obtain ⟨wz, hwz⟩ : ∃ W, W = w5 := ⟨_, rfl⟩
   rw [← hwz] at k5 kr oq d ⊢
   clear hwz h16
   have hsp := l04Spoil_any g P A n c sq wz d.s' (by omega) (oq.base (Nat.zero_le _))
   obtain ⟨q0, q1⟩ := k5.two
   go_wp2_with fail
   refine hsp.mono ?_
   rintro e w9 ⟨X, m, cx, rfl, hm, ⟨xs, ho9⟩, hd9⟩
   have ox := ho9.base (Nat.le_trans hw d.size)
   replace k5 := k5.dr hd9 (by decide)
   replace kr := kr.dr hd9 (by decide)
   replace oq := oq.dr hd9 (by decide)
   replace d := d.trans hd9
   clear hsp ho9 hd9 q0 q1
   obtain ⟨q0, q1⟩ := k5.two
   cases hmu : (isSp P sq && isMu P sq xs)
   · have hi := l04Is_b P A X n c m cx sq xs w9 (by omega) (by omega) oq.rd ox.rd hmu
     clear hmu
     go_wp2_with fail
     refine hi.mono ?_
     rintro e w10 ⟨rfl, hb⟩
     replace k5 := k5.below hb k5.lt
     replace kr := kr.below hb kr.lt
     replace oq := oq.below hb
     replace ox := ox.below hb
     replace d := d.then hb
     clear hi hb q0 q1
     obtain ⟨q0, q1⟩ := k5.two
     obtain ⟨p0, p1⟩ := kr.two
     have f0 := kr.frozen 0
     have f1 := kr.frozen 1
     go_wp2
     exact bodyPost_ret (v := .tuple #[.agg #[.int .i64 P, .slice A n c], .slice X m cx]) (by simp [results, Tryz.results148, go_sem, p0, p1]) rfl ⟨P, A, n, c, sq, X, m, cx, xs, rfl, hP, hn, by omega, (oq.far kr (by decide) 0 _).far (kr.set_ 0 (.int .i64 P)) (by decide) 1 _, (ox.far kr (by decide) 0 _).far (kr.set_ 0 (.int .i64 P)) (by decide) 1 _, hB2.trans (((d.b.mono hgw).setCell (p := ⟨w.heap.size, 0, none⟩) (Nat.le_refl _) _).setCell (p := ⟨w.heap.size, 1, none⟩) (Nat.le_refl _) _)⟩
   · have hi := l04Is_b P A X n c m cx sq xs w9 (by omega) (by omega) oq.rd ox.rd hmu
     have HM : Hid (isP P = true ∧ n ≤ 6 ∧ NumsL P sq ∧ xs.length = pw n ∧ NumsL P xs) := Lib.hid (by
      rw [Bool.and_eq_true] at hmu
      obtain ⟨g1, g2, g3, g4⟩ := isSp_dim hmu.1
      have g5 := hmu.2
      unfold isMu at g5
      rw [Bool.and_eq_true, beq_iff_eq] at g5
      rw [oq.rd.lenI] at g3
      exact ⟨g1, g3, nums_numsL g4, by have := g5.1; rw [oq.rd.lenI] at this; omega, nums_numsL g5.2⟩)
     clear hmu
     go_wp2_with fail
     refine hi.mono ?_
     rintro e w10 ⟨rfl, hb⟩
     replace k5 := k5.below hb k5.lt
     replace kr := kr.below hb kr.lt
     replace oq := oq.below hb
     replace ox := ox.below hb
     replace d := d.then hb
     clear hi hb q0 q1
     obtain ⟨hp3, hp2⟩ := isP_ge HM.out.1
     have HP2 : Hid (2 ≤ P) := Lib.hid (by omega)
     have HSL : Hid (sq.length = n) := Lib.hid oq.rd.lenI
     obtain ⟨q0, q1⟩ := k5.two
     by_cases h4 : n ≤ 4
     · have d4 : decide ((n : Int) ≤ 4) = true := by simp; omega
       have hnx := next_any g 3 w10 d.s' (by omega)
       go_wp2_with fail
       refine hnx.mono ?_
       rintro e w11 ⟨r3, rfl, _, _, hd3⟩
       replace k5 := k5.dr hd3 (by decide)
       replace kr := kr.dr hd3 (by decide)
       replace oq := oq.dr hd3 (by decide)
       replace ox := ox.dr hd3 (by decide)
       replace d := d.trans hd3
       clear hnx hd3 q0 q1
       by_cases h3 : r3 = 0
       · have e3 : (r3 == 0) = true := by simp [h3]
         have hpw : pw n ≤ 16 := pw_le h4
         obtain ⟨q0, q1⟩ := k5.two
         go_wp2
         refine wp_obsR 16 (Dr g 144) [[], [], [], [], [3], [], [5], [5, 6], [2, 3, 4, 5, 6, 7], [1, 2, 3, 4, 5, 6, 7, 8], [0, 1, 2, 3, 4, 5, 6, 7, 8, 9], [0, 1, 2, 3, 4, 5, 6, 7, 8, 9, 10], [0, 1, 2, 3, 4, 5, 6, 7, 8, 9, 10, 11], [0, 1, 2, 3, 4, 5, 6, 7, 8, 9, 10, 11], [0, 1, 2, 3, 4, 5, 6, 7, 8, 9, 10, 11, 12], [0, 1, 2, 3, 4, 5, 6, 7, 8, 9, 10, 11, 13]] [[], [], [], [], [], [], [], [], [99], [], [], [], [], [], [], []] (fun x => [VIs (.agg #[.int .i64 P, .slice A n c]), VIs (.agg #[.int .i64 P, .slice A n c]), VIs (.pointer (some ⟨g, 0, none⟩)), VIs (.pointer (some ⟨b5, 0, none⟩)), VIs (.int .i64 (P)), VIs (.pointer (some ⟨b5, 1, none⟩)), VIs (.slice A n c), VIs (.int .i64 (n)), VLs w.heap.size n P, VLs w.heap.size (pw n) P, VTc w.heap.size P n, VTc w.heap.size P n, VIs (tupA (x 11)), VIs (tupB (x 11)), VIs (tupA (x 11)), VIs (tupB (x 11))]) (fun w' => Blk w' b5 26 #[.int .i64 P, .slice A n c] ∧ Blk w' w.heap.size 26 #[.int .i64 0, .slice none 0 0] ∧ Own w' w.heap.size 2 A n c (ints sq) ∧ Own w' w.heap.size 2 X m cx (ints xs) ∧ Dr g 144 w2 w') (by kernel_rfl) (by kernel_rfl) (fun x x' j hx => by
             rcases j with _ | _ | _ | _ | _ | _ | _ | _ | _ | _ | _ | _ | _ | _ | _ | _ | j
             · rfl
             · rfl
             · rfl
             · rfl
             · rfl
             · rfl
             · rfl
             · rfl
             · rfl
             · rfl
             · rfl
             · rfl
             · rw [hx 11 (by decide)]
             · rw [hx 11 (by decide)]
             · rw [hx 11 (by decide)]
             · rw [hx 11 (by decide)]
             · rfl)
          (weak_ofR [0, 1, 2, 3, 4, 5, 6, 7, 8, 12, 13, 14, 15] (by decide) (fun k hk x v w w' hp hr => by
           simp only [List.mem_cons, zJ, or_false] at hk
           rcases hk with rfl | rfl | rfl | rfl | rfl | rfl | rfl | rfl | rfl | rfl | rfl | rfl | rfl
           · exact hp
           · exact hp
           · exact hp
           · exact hp
           · exact hp
           · exact hp
           · exact hp
           · exact hp
           · exact VLs.dr hp hr (by decide)
           · exact hp
           · exact hp
           · exact hp
           · exact hp)) (fun j _ _ h hb => hb.either (fun hb => ⟨h.1.below hb h.1.lt, h.2.1.below hb h.2.1.lt, h.2.2.1.below hb, h.2.2.2.1.below hb, h.2.2.2.2.then hb⟩) (fun hr => ⟨h.1.dr hr (by decide), h.2.1.dr hr (by decide), h.2.2.1.dr hr (by decide), h.2.2.2.1.dr hr (by decide), h.2.2.2.2.trans hr⟩)) (⟨k5.drew, kr.drew, oq.below zG.drew, ox.below zG.drew, d.then zG.drew⟩) (fun x => ?_)
         refine zSR (fun w' hS hV K hK => ?_) ?_
         · obtain ⟨q0, q1⟩ := hS.1.two; go_simp; exact hK.out _ _ _ rfl rfl rfl zG
         refine zSR (fun w' hS hV K hK => ?_) ?_
         · obtain ⟨q0, q1⟩ := hS.1.two; go_simp; exact hK.out _ _ _ rfl rfl rfl zG
         refine zSR (fun w' hS hV K hK => ?_) ?_
         · obtain ⟨q0, q1⟩ := hS.1.two; go_simp; exact hK.out _ _ _ rfl rfl rfl zG
         refine zSR (fun w' hS hV K hK => ?_) ?_
         · obtain ⟨q0, q1⟩ := hS.1.two; go_simp; exact hK.out _ _ _ rfl rfl rfl zG
         refine zSR (fun w' hS hV K hK => ?_) ?_
         · have e3 := zQ hV 3; obtain ⟨q0, q1⟩ := hS.1.two; go_simp; exact hK.out _ _ _ rfl rfl rfl zG
         refine zSR (fun w' hS hV K hK => ?_) ?_
         · obtain ⟨q0, q1⟩ := hS.1.two; go_simp; exact hK.out _ _ _ rfl rfl rfl zG
         refine zSR (fun w' hS hV K hK => ?_) ?_
         · have e5 := zQ hV 5; obtain ⟨q0, q1⟩ := hS.1.two; go_simp; exact hK.out _ _ _ rfl rfl rfl zG
         refine zSR (fun w' hS hV K hK => ?_) ?_
         · have e6 := zQ hV 6; obtain ⟨q0, q1⟩ := hS.1.two; go_simp; exact hK.out _ _ _ rfl rfl rfl zG
         refine zSR (fun w' hS hV K hK => ?_) ?_
         · have e2 := zQ hV 2; have e4 := zQ hV 4; have e7 := zQ hV 7; obtain ⟨q0, q1⟩ := hS.1.two; go_simp; refine (nextList_any g P n w' hS.2.2.2.2.s' (by omega) (by omega)).mono ?_; rintro e v1 ⟨A9, c9, xs9, rfl, hl9, hx9, ho9, hd9⟩; exact hK.out _ _ _ rfl rfl ⟨_, _, xs9, rfl, hl9, nums_of (by omega) hx9, ho9.base (Nat.le_trans hw hS.2.2.2.2.size)⟩ (StepR.rel rfl hd9)
         refine zSR (fun w' hS hV K hK => ?_) ?_
         · have e1 := zQ hV 1; obtain ⟨A8, c8, X8, e8, l8, u8, h8⟩ := hV 8 (by decide); obtain ⟨q0, q1⟩ := hS.1.two; go_simp; refine (l04Vector_any P A n c A8 c8 X8 w' (by omega) h8.rd).mono ?_; rintro e v1 ⟨A9, c9, rfl, hM⟩; exact hK.out _ _ _ rfl rfl ⟨_, _, _, rfl, vecTo_len _ _ _, vecTo_nums (by omega) n X8 u8 n, hM.2.base (Nat.le_trans hw hS.2.2.2.2.size)⟩ hM.b
         refine zSR (fun w' hS hV K hK => ?_) ?_
         · have e0 := zQ hV 0; obtain ⟨A8, c8, X8, e8, l8, u8, h8⟩ := hV 8 (by decide); obtain ⟨A9, c9, X9, e9, l9, u9, h9⟩ := hV 9 (by decide); obtain ⟨q0, q1⟩ := hS.1.two; go_simp; refine (specVectorIdempotent_any P A n c sq A9 (pw n) c9 X9 w' (by omega) (by omega) hS.2.2.1.rd h9.rd h9.cap).mono ?_; rintro e v1 ⟨A9, k9, c9, rfl, hM⟩; exact hK.out _ _ _ rfl rfl ⟨_, _, _, _, _, rfl, hM.2.base (Nat.le_trans hw hS.2.2.2.2.size), fun hz => by rw [vidR_zero hz, HSL.out]; exact vidL_ok HP2.out sq n _⟩ hM.b
         refine zSR (fun w' hS hV K hK => ?_) ?_
         · obtain ⟨A8, c8, X8, e8, l8, u8, h8⟩ := hV 8 (by decide); obtain ⟨A9, c9, X9, e9, l9, u9, h9⟩ := hV 9 (by decide); obtain ⟨A10, k10, c10, X10, z10, e10, h10, y10⟩ := hV 10 (by decide); obtain ⟨q0, q1⟩ := hS.1.two; go_simp; exact hK.out _ _ _ rfl rfl ⟨_, _, _, _, _, rfl, h10, y10⟩ zG
         refine zSR (fun w' hS hV K hK => ?_) ?_
         · obtain ⟨A8, c8, X8, e8, l8, u8, h8⟩ := hV 8 (by decide); obtain ⟨A9, c9, X9, e9, l9, u9, h9⟩ := hV 9 (by decide); obtain ⟨A10, k10, c10, X10, z10, e10, h10, y10⟩ := hV 10 (by decide); obtain ⟨A11, k11, c11, X11, z11, e11, h11, y11⟩ := hV 11 (by decide); obtain ⟨q0, q1⟩ := hS.1.two; go_simp; exact hK.out _ _ _ rfl rfl (by rw [e11]; rfl) zG
         refine zSR (fun w' hS hV K hK => ?_) ?_
         · obtain ⟨A8, c8, X8, e8, l8, u8, h8⟩ := hV 8 (by decide); obtain ⟨A9, c9, X9, e9, l9, u9, h9⟩ := hV 9 (by decide); obtain ⟨A10, k10, c10, X10, z10, e10, h10, y10⟩ := hV 10 (by decide); obtain ⟨A11, k11, c11, X11, z11, e11, h11, y11⟩ := hV 11 (by decide); obtain ⟨q0, q1⟩ := hS.1.two; go_simp; exact hK.out _ _ _ rfl rfl (by rw [e11]; rfl) zG
         refine zSR (fun w' hS hV K hK => ?_) ?_
         · obtain ⟨A8, c8, X8, e8, l8, u8, h8⟩ := hV 8 (by decide); obtain ⟨A9, c9, X9, e9, l9, u9, h9⟩ := hV 9 (by decide); obtain ⟨A10, k10, c10, X10, z10, e10, h10, y10⟩ := hV 10 (by decide); obtain ⟨A11, k11, c11, X11, z11, e11, h11, y11⟩ := hV 11 (by decide); have e12 : x 12 = .slice A11 k11 c11 := (hV 12 (by decide)).trans (by rw [e11]; rfl); obtain ⟨q0, q1⟩ := hS.1.two; go_simp; exact hK.out _ _ _ rfl rfl (by rw [e11]; rfl) zG
         refine zSR (fun w' hS hV K hK => ?_) ?_
         · obtain ⟨A8, c8, X8, e8, l8, u8, h8⟩ := hV 8 (by decide); obtain ⟨A9, c9, X9, e9, l9, u9, h9⟩ := hV 9 (by decide); obtain ⟨A10, k10, c10, X10, z10, e10, h10, y10⟩ := hV 10 (by decide); obtain ⟨A11, k11, c11, X11, z11, e11, h11, y11⟩ := hV 11 (by decide); have e13 : x 13 = .int .i64 z11 := (hV 13 (by decide)).trans (by rw [e11]; rfl); obtain ⟨q0, q1⟩ := hS.1.two; go_simp; exact hK.out _ _ _ rfl rfl (by rw [e11]; rfl) zG
         refine fun w' hS hV => ?_
         have e0 := zQ hV 0
         have e1 := zQ hV 1
         have e2 := zQ hV 2
         have e3 := zQ hV 3
         have e4 := zQ hV 4
         have e5 := zQ hV 5
         have e6 := zQ hV 6
         have e7 := zQ hV 7
         obtain ⟨A8, c8, X8, e8, l8, u8, h8⟩ := hV 8 (by decide)
         obtain ⟨A9, c9, X9, e9, l9, u9, h9⟩ := hV 9 (by decide)
         obtain ⟨A10, k10, c10, X10, z10, e10, h10, y10⟩ := hV 10 (by decide)
         obtain ⟨A11, k11, c11, X11, z11, e11, h11, y11⟩ := hV 11 (by decide)
         have e12 : x 12 = .slice A11 k11 c11 := (hV 12 (by decide)).trans (by rw [e11]; rfl)
         have e13 : x 13 = .int .i64 z11 := (hV 13 (by decide)).trans (by rw [e11]; rfl)
         have e14 : x 14 = .slice A11 k11 c11 := (hV 14 (by decide)).trans (by rw [e11]; rfl)
         have e15 : x 15 = .int .i64 z11 := (hV 15 (by decide)).trans (by rw [e11]; rfl)
         simp only [e0, e1, e2, e3, e4, e5, e6, e7, e8, e9, e10, e11, e12, e13, e14, e15]
         clear e0 e1 e2 e3 e4 e5 e6 e7 e8 e9 e10 e11 e12 e13 e14 e15
         refine wpAny_done (by kernel_rfl) ?_ _
         obtain ⟨wv, hwv⟩ : ∃ W, W = w' := ⟨_, rfl⟩
         replace k5 := hS.1
         replace kr := hS.2.1
         replace oq := hS.2.2.1
         replace ox := hS.2.2.2.1
         replace d := hS.2.2.2.2
         obtain ⟨E, hEe⟩ : ∃ E, E = A11 := ⟨_, rfl⟩
         obtain ⟨ke, hke⟩ : ∃ E, E = k11 := ⟨_, rfl⟩
         obtain ⟨ce, hce⟩ : ∃ E, E = c11 := ⟨_, rfl⟩
         obtain ⟨es, hes⟩ : ∃ E, E = X11 := ⟨_, rfl⟩
         obtain ⟨z, hze⟩ : ∃ E, E = z11 := ⟨_, rfl⟩
         have oe := h11
         have HZ := Lib.hid y11
         rw [← hEe, ← hke, ← hce, ← hes] at oe
         rw [← hes, ← hze] at HZ
         rw [← hEe, ← hke, ← hce, ← hze]
         rw [← hwv] at k5 kr oq ox d oe ⊢
         clear hwv hS hEe hke hce hes hze q0 q1
         by_cases hz : z = 0
         · have ez : (z == 0) = true := by simp [hz]
           have hEN := HZ.out hz
           obtain rfl : m = pw n := by rw [← ox.rd.lenI]; exact HM.out.2.2.2.1
           obtain rfl : ke = pw n := by rw [← oe.rd.lenI]; exact hEN.1
           have HEN := Lib.hid hEN
           clear hEN hz
           obtain ⟨q0, q1⟩ := k5.two
           have HOE := Lib.hid oe
           have HD0 := Lib.hid d
           go_wp2
           refine wp_obsR 5 (Dr g 144) [[], [], [], [], [1, 2, 3], [0, 1, 2, 3, 4], [0, 1, 2, 3, 4]] [[], [], [], [], []] (fun x => [VIs (.agg #[.int .i64 P, .slice A n c]), VIs (.agg #[.int .i64 P, .slice A n c]), VIs (.slice X (pw n) cx), VIs (.slice E (pw n) ce), VLs w.heap.size (pw n) P]) (fun w' => Blk w' b5 26 #[.int .i64 P, .slice A n c] ∧ Blk w' w.heap.size 26 #[.int .i64 0, .slice none 0 0] ∧ (Own w' w.heap.size 2 A n c (ints sq) ∧ Own w' w.heap.size 2 E (pw n) ce (ints es)) ∧ Own w' w.heap.size 2 X (pw n) cx (ints xs) ∧ Dr g 144 w2 w') (by kernel_rfl) (by kernel_rfl) (fun x x' j hx => by
               rcases j with _ | _ | _ | _ | _ | j
               · rfl
               · rfl
               · rfl
               · rfl
               · rfl
               · rfl)
            (weak_ofR [0, 1, 2, 3] (by decide) (fun k hk x v w w' hp hr => by
             simp only [List.mem_cons, zJ, or_false] at hk
             rcases hk with rfl | rfl | rfl | rfl
             · exact hp
             · exact hp
             · exact hp
             · exact hp)) (fun j _ _ h hb => hb.either (fun hb => ⟨h.1.below hb h.1.lt, h.2.1.below hb h.2.1.lt, ⟨h.2.2.1.1.below hb, h.2.2.1.2.below hb⟩, h.2.2.2.1.below hb, h.2.2.2.2.then hb⟩) (fun hr => ⟨h.1.dr hr (by decide), h.2.1.dr hr (by decide), ⟨h.2.2.1.1.dr hr (by decide), h.2.2.1.2.dr hr (by decide)⟩, h.2.2.2.1.dr hr (by decide), h.2.2.2.2.trans hr⟩)) (⟨k5.drew, kr.drew, ⟨oq.below zG.drew, oe.below zG.drew⟩, ox.below zG.drew, d.then zG.drew⟩) (fun x => ?_)
           refine zSR (fun w' hS hV K hK => ?_) ?_
           · obtain ⟨q0, q1⟩ := hS.1.two; go_simp; exact hK.out _ _ _ rfl rfl rfl zG
           refine zSR (fun w' hS hV K hK => ?_) ?_
           · obtain ⟨q0, q1⟩ := hS.1.two; go_simp; exact hK.out _ _ _ rfl rfl rfl zG
           refine zSR (fun w' hS hV K hK => ?_) ?_
           · obtain ⟨q0, q1⟩ := hS.1.two; go_simp; exact hK.out _ _ _ rfl rfl rfl zG
           refine zSR (fun w' hS hV K hK => ?_) ?_
           · obtain ⟨q0, q1⟩ := hS.1.two; go_simp; exact hK.out _ _ _ rfl rfl rfl zG
           refine zSR (fun w' hS hV K hK => ?_) ?_
           · have e1 := zQ hV 1; have e2 := zQ hV 2; have e3 := zQ hV 3; obtain ⟨q0, q1⟩ := hS.1.two; go_simp; have ht := l04Times_any P A n c sq X cx xs E ce es w' HP2.out (by omega) (by omega) hS.2.2.1.1.rd HM.out.2.2.1 hS.2.2.2.1.rd HM.out.2.2.2.2 hS.2.2.1.2.rd HEN.out.2; refine ht.mono ?_; rintro e v1 ⟨A9, c9, rfl, hM⟩; exact hK.out _ _ _ rfl rfl ⟨_, _, _, rfl, by rw [prodL_len]; exact HM.out.2.2.2.1, prodL_nums _ _ _ _ (by omega), hM.2.base (Nat.le_trans hw hS.2.2.2.2.size)⟩ hM.b
           refine fun w' hS hV => ?_
           have e0 := zQ hV 0
           have e1 := zQ hV 1
           have e2 := zQ hV 2
           have e3 := zQ hV 3
           obtain ⟨A4, c4, X4, e4, l4, u4, h4⟩ := hV 4 (by decide)
           simp only [e0, e1, e2, e3, e4]
           clear e0 e1 e2 e3 e4
           replace k5 := hS.1
           replace kr := hS.2.1
           replace oq := hS.2.2.1.1
           replace d := hS.2.2.2.2
           clear q0 q1
           have ox := h4
           obtain ⟨p0, p1⟩ := kr.two
           have f0 := kr.frozen 0
           have f1 := kr.frozen 1
           refine any_one (j := 5) (by kernel_rfl) (Eq.trans (by simp only [zA, zB, zC]; exact rfl) rfl) (fun K hK => ?_)
           go_simp
           refine hK.out _ _ (any_one (j := 6) (by kernel_rfl) (Eq.trans (by simp only [zA, zB, zC]; exact rfl) rfl) (fun K hK => ?_))
           go_simp
           refine hK.out _ _ (wpAny_done (by kernel_rfl) ?_ _)
           go_wp2
           exact bodyPost_ret (v := .tuple #[.agg #[.int .i64 P, .slice A n c], .slice A4 (pw n) c4]) (by simp [results, Tryz.results148, go_sem, p0, p1]) rfl ⟨P, A, n, c, sq, A4, (pw n), c4, X4, rfl, hP, hn, by omega, (oq.far kr (by decide) 0 _).far (kr.set_ 0 (.int .i64 P)) (by decide) 1 _, (ox.far kr (by decide) 0 _).far (kr.set_ 0 (.int .i64 P)) (by decide) 1 _, hB2.trans (((d.b.mono hgw).setCell (p := ⟨w.heap.size, 0, none⟩) (Nat.le_refl _) _).setCell (p := ⟨w.heap.size, 1, none⟩) (Nat.le_refl _) _)⟩
         · have ez : (z == 0) = false := by simp [hz]
           obtain ⟨q0, q1⟩ := k5.two
           obtain ⟨p0, p1⟩ := kr.two
           have f0 := kr.frozen 0
           have f1 := kr.frozen 1
           go_wp2
           exact bodyPost_ret (v := .tuple #[.agg #[.int .i64 P, .slice A n c], .slice X m cx]) (by simp [results, Tryz.results148, go_sem, p0, p1]) rfl ⟨P, A, n, c, sq, X, m, cx, xs, rfl, hP, hn, by omega, (oq.far kr (by decide) 0 _).far (kr.set_ 0 (.int .i64 P)) (by decide) 1 _, (ox.far kr (by decide) 0 _).far (kr.set_ 0 (.int .i64 P)) (by decide) 1 _, hB2.trans (((d.b.mono hgw).setCell (p := ⟨w.heap.size, 0, none⟩) (Nat.le_refl _) _).setCell (p := ⟨w.heap.size, 1, none⟩) (Nat.le_refl _) _)⟩
       · have e3 : (r3 == 0) = false := by simp [h3]
         obtain ⟨q0, q1⟩ := k5.two
         obtain ⟨p0, p1⟩ := kr.two
         have f0 := kr.frozen 0
         have f1 := kr.frozen 1
         go_wp2
         exact bodyPost_ret (v := .tuple #[.agg #[.int .i64 P, .slice A n c], .slice X m cx]) (by simp [results, Tryz.results148, go_sem, p0, p1]) rfl ⟨P, A, n, c, sq, X, m, cx, xs, rfl, hP, hn, by omega, (oq.far kr (by decide) 0 _).far (kr.set_ 0 (.int .i64 P)) (by decide) 1 _, (ox.far kr (by decide) 0 _).far (kr.set_ 0 (.int .i64 P)) (by decide) 1 _, hB2.trans (((d.b.mono hgw).setCell (p := ⟨w.heap.size, 0, none⟩) (Nat.le_refl _) _).setCell (p := ⟨w.heap.size, 1, none⟩) (Nat.le_refl _) _)⟩
     · have d4 : decide ((n : Int) ≤ 4) = false := by simp; omega
       obtain ⟨q0, q1⟩ := k5.two
       obtain ⟨p0, p1⟩ := kr.two
       have f0 := kr.frozen 0
       have f1 := kr.frozen 1
       go_wp2
       exact bodyPost_ret (v := .tuple #[.agg #[.int .i64 P, .slice A n c], .slice X m cx]) (by simp [results, Tryz.results148, go_sem, p0, p1]) rfl ⟨P, A, n, c, sq, X, m, cx, xs, rfl, hP, hn, by omega, (oq.far kr (by decide) 0 _).far (kr.set_ 0 (.int .i64 P)) (by decide) 1 _, (ox.far kr (by decide) 0 _).far (kr.set_ 0 (.int .i64 P)) (by decide) 1 _, hB2.trans (((d.b.mono hgw).setCell (p := ⟨w.heap.size, 0, none⟩) (Nat.le_refl _) _).setCell (p := ⟨w.heap.size, 1, none⟩) (Nat.le_refl _) _)⟩
set_option maxHeartbeats 3200000 in
set_option maxRecDepth 8000 in
theorem DrawMinimalPolynomial_any (B : Option Addr) (nb cb : Nat) (bs : List Int) (w : World) (hnb : nb ≤ 4096) (r : Rd w B nb (bs.map (Value.int .u8))) (hbs : ∀ b ∈ bs, 0 ≤ b ∧ b < 256) (hbg : ∀ a, B = some a → a.block < w.heap.size) :
    Calls Tryz.prog 61 #[.slice B nb cb] w (Drew1 w) := by
 have hB0 : Below w.heap.size w (w.alloc (.cells #[.int .i64 0, .slice none 0 0] 26)) := zG.alloc (Nat.le_refl _) _
 have kr : Blk (w.alloc (.cells #[.int .i64 0, .slice none 0 0] 26)) w.heap.size 26 #[.int .i64 0, .slice none 0 0] := Blk.new _ _ _
 have hdr := l09Draw_any B nb cb bs (w.alloc (.cells #[.int .i64 0, .slice none 0 0] 26)) hnb (r.below hB0) hbs (fun a e => by have := hbg a e; simp; omega)
 go_enter Tryz.func61, Tryz.ntmps61
 go_wp2_with fail
 refine hdr.mono ?_
 rintro e w3 ⟨P, A, n, c, sq, X, m, cx, xs, rfl, hP, hn, hm, hO, hX, hb3⟩
 replace kr := kr.below hb3 kr.lt
 have hB3 := hB0.trans (hb3.mono hB0.size)
 have oq := hO.base (B' := w.heap.size) hB0.size
 have ox := hX.base (B' := w.heap.size) hB0.size
 obtain ⟨p0, p1⟩ := kr.two
 have f0 := kr.frozen 0
 have f1 := kr.frozen 1
 have k5 := Blk.new w3 26 #[.int .i64 P, .slice A n c]
 have kr2 := kr.alloc (.cells #[.int .i64 P, .slice A n c] 26)
 have oq2 := oq.below (zG.alloc (Nat.le_refl _) (.cells #[.int .i64 P, .slice A n c] 26))
 have ox2 := ox.below (zG.alloc (Nat.le_refl _) (.cells #[.int .i64 P, .slice A n c] 26))
 have hB4 := hB3.alloc hB3.size (.cells #[.int .i64 P, .slice A n c] 26)
 obtain ⟨q0, q1⟩ := k5.two
 obtain ⟨z0, z1⟩ := kr2.two
 have f2 := kr2.frozen 0
 have f3 := kr2.frozen 1
 obtain ⟨y0, y1⟩ := (kr2.stored (p' := P) (A' := A) (n' := n) (c' := c)).two
 clear hdr hO hX hb3
 go_wp2
 exact bodyPost_ret (v := .tuple #[.agg #[.int .i64 P, .slice A n c], .slice X m cx]) (by simp [results, Tryz.results61, go_sem, y0, y1, z0, z1]) rfl ⟨P, A, n, c, sq, X, m, cx, xs, rfl, hP, hn, hm, (oq2.far kr2 (by decide) 0 _).far (kr2.set_ 0 (.int .i64 P)) (by decide) 1 _, (ox2.far kr2 (by decide) 0 _).far (kr2.set_ 0 (.int .i64 P)) (by decide) 1 _, (hB4.setCell (p := ⟨w.heap.size, 0, none⟩) (Nat.le_refl _) _).setCell (p := ⟨w.heap.size, 1, none⟩) (Nat.le_refl _) _⟩
/-- A space, drawn. -/
def DrewSp (w : World) (e : Ending) (w' : World) : Prop := ∃ (P : Int) (A : Option Addr) (n c : Nat) (sq : List Int), e = .returned (.agg #[.int .i64 P, .slice A n c]) ∧ P ≤ 17 ∧ n ≤ 7 ∧ Own w' w.heap.size 2 A n c (ints sq) ∧ Below w.heap.size w w'
set_option maxHeartbeats 3200000 in
set_option maxRecDepth 8000 in
theorem l09Space_any (B : Option Addr) (nb cb : Nat) (bs : List Int) (w : World) (hnb : nb ≤ 4096) (r : Rd w B nb (bs.map (Value.int .u8))) (hbs : ∀ b ∈ bs, 0 ≤ b ∧ b < 256) (hbg : ∀ a, B = some a → a.block < w.heap.size) :
    Calls Tryz.prog 132 #[.slice B nb cb] w (DrewSp w) := by
 have hB0 : Below w.heap.size w (w.alloc (.cells #[.int .i64 0, .slice none 0 0] 26)) := zG.alloc (Nat.le_refl _) _
 have kr : Blk (w.alloc (.cells #[.int .i64 0, .slice none 0 0] 26)) w.heap.size 26 #[.int .i64 0, .slice none 0 0] := Blk.new _ _ _
 have hdr := l09Draw_any B nb cb bs (w.alloc (.cells #[.int .i64 0, .slice none 0 0] 26)) hnb (r.below hB0) hbs (fun a e => by have := hbg a e; simp; omega)
 go_enter Tryz.func132, Tryz.ntmps132
 go_wp2_with fail
 refine hdr.mono ?_
 rintro e w3 ⟨P, A, n, c, sq, X, m, cx, xs, rfl, hP, hn, hm, hO, -, hb3⟩
 replace kr := kr.below hb3 kr.lt
 have hB3 := hB0.trans (hb3.mono hB0.size)
 have oq := hO.base (B' := w.heap.size) hB0.size
 obtain ⟨p0, p1⟩ := kr.two
 have f0 := kr.frozen 0
 have f1 := kr.frozen 1
 have k5 := Blk.new w3 26 #[.int .i64 P, .slice A n c]
 have kr2 := kr.alloc (.cells #[.int .i64 P, .slice A n c] 26)
 have oq2 := oq.below (zG.alloc (Nat.le_refl _) (.cells #[.int .i64 P, .slice A n c] 26))
 have hB4 := hB3.alloc hB3.size (.cells #[.int .i64 P, .slice A n c] 26)
 obtain ⟨q0, q1⟩ := k5.two
 obtain ⟨z0, z1⟩ := kr2.two
 have f2 := kr2.frozen 0
 have f3 := kr2.frozen 1
 obtain ⟨y0, y1⟩ := (kr2.stored (p' := P) (A' := A) (n' := n) (c' := c)).two
 clear hdr hO hb3
 go_wp2
 exact bodyPost_ret (v := .agg #[.int .i64 P, .slice A n c]) (by simp [results, Tryz.results132, go_sem, y0, y1, z0, z1]) rfl ⟨P, A, n, c, sq, rfl, hP, hn, (oq2.far kr2 (by decide) 0 _).far (kr2.set_ 0 (.int .i64 P)) (by decide) 1 _, (hB4.setCell (p := ⟨w.heap.size, 0, none⟩) (Nat.le_refl _) _).setCell (p := ⟨w.heap.size, 1, none⟩) (Nat.le_refl _) _⟩
set_option maxHeartbeats 12800000 in
set_option maxRecDepth 8000 in
theorem DrawVectorIdempotent_any (B : Option Addr) (nb cb : Nat) (bs : List Int) (w : World) (hnb : nb ≤ 4096) (r : Rd w B nb (bs.map (Value.int .u8))) (hbs : ∀ b ∈ bs, 0 ≤ b ∧ b < 256) (hbg : ∀ a, B = some a → a.block < w.heap.size) :
    Calls Tryz.prog 68 #[.slice B nb cb] w (Drew1 w) := by
 have hB0 : Below w.heap.size w (w.alloc (.cells #[.int .i64 0, .slice none 0 0] 26)) := zG.alloc (Nat.le_refl _) _
 have k0 : Blk (w.alloc (.cells #[.int .i64 0, .slice none 0 0] 26)) w.heap.size 26 #[.int .i64 0, .slice none 0 0] := Blk.new _ _ _
 have hfr := from__any B nb cb bs (w.alloc (.cells #[.int .i64 0, .slice none 0 0] 26)) hnb (r.below hB0) hbs (fun a e => by have := hbg a e; simp; omega)
 go_enter Tryz.func68, Tryz.ntmps68
 go_wp2_with fail
 refine hfr.mono ?_
 rintro e w2 ⟨g, rfl, hg, hs2, hb2⟩
 have kr := k0.below hb2 k0.lt
 have hB2 := hB0.trans (hb2.mono hB0.size)
 have hw := hB2.size
 have hgw : w.heap.size ≤ g := Nat.le_trans hB0.size hg
 have hdr := l09Space_any B nb cb bs w2 hnb (r.below hB2) hbs (fun a e => Nat.lt_of_lt_of_le (hbg a e) hw)
 clear hfr hb2 k0 hB0 hg
 go_wp2_with fail
 refine hdr.mono ?_
 rintro e w4 ⟨P, A, n, c, sq, rfl, hP, hn, hO, hb4⟩
 have oq := (hO.base hw).below (zG.alloc (Nat.le_refl _) (.cells #[.int .i64 P, .slice A n c] 26))
 have k5 := Blk.new w4 26 #[.int .i64 P, .slice A n c]
 have hb6 : w.heap.size < w4.heap.size := Nat.lt_of_lt_of_le kr.lt hb4.size
 replace kr := (kr.below hb4 kr.lt).alloc (.cells #[.int .i64 P, .slice A n c] 26)
 have d := (Dr.of_below hs2 hb4).alloc (.cells #[.int .i64 P, .slice A n c] 26)
 clear hdr hO hb4
 obtain ⟨q0, q1⟩ := k5.two
 cases hmu : isSp P sq
 · have hi := l03Is_b P A n c sq _ (by omega) oq.rd hmu
   clear hmu
   go_wp2_with fail
   refine hi.mono ?_
   rintro e w10 ⟨rfl, hb⟩
   replace k5 := k5.below hb k5.lt
   replace kr := kr.below hb kr.lt
   replace oq := oq.below hb
   replace d := d.then hb
   obtain ⟨b5, hb5e⟩ : ∃ b, b = w4.heap.size := ⟨_, rfl⟩
   rw [← hb5e] at k5 hb6 ⊢
   clear hi hb q0 q1 hb5e
   obtain ⟨q0, q1⟩ := k5.two
   go_wp2
   refine wp_obsR 4 (Dr g 144) [[], [], [], [1, 2], [0, 1, 2, 3], [0, 1, 2, 3]] [[], [], [], [99]] (fun x => [VIs (.agg #[.int .i64 P, .slice A n c]), VIs (.pointer (some ⟨g, 0, none⟩)), VIs (.agg #[.int .i64 P, .slice A n c]), VLx w.heap.size]) (fun w' => Blk w' b5 26 #[.int .i64 P, .slice A n c] ∧ Blk w' w.heap.size 26 #[.int .i64 0, .slice none 0 0] ∧ Own w' w.heap.size 2 A n c (ints sq) ∧ Dr g 144 w2 w') (by kernel_rfl) (by kernel_rfl) (fun x x' j hx => by
       rcases j with _ | _ | _ | _ | j
       · rfl
       · rfl
       · rfl
       · rfl
       · rfl)
    (weak_ofR [0, 1, 2] (by decide) (fun k hk x v w w' hp hr => by
     simp only [List.mem_cons, zJ, or_false] at hk
     rcases hk with rfl | rfl | rfl
     · exact hp
     · exact hp
     · exact hp)) (fun j _ _ h hb => hb.either (fun hb => ⟨h.1.below hb h.1.lt, h.2.1.below hb h.2.1.lt, h.2.2.1.below hb, h.2.2.2.then hb⟩) (fun hr => ⟨h.1.dr hr (by decide), h.2.1.dr hr (by decide), h.2.2.1.dr hr (by decide), h.2.2.2.trans hr⟩)) (⟨k5.drew, kr.drew, oq.below zG.drew, d.then zG.drew⟩) (fun x => ?_)
   refine zSR (fun w' hS hV K hK => ?_) ?_
   · obtain ⟨q0, q1⟩ := hS.1.two; go_simp; exact hK.out _ _ _ rfl rfl rfl zG
   refine zSR (fun w' hS hV K hK => ?_) ?_
   · obtain ⟨q0, q1⟩ := hS.1.two; go_simp; exact hK.out _ _ _ rfl rfl rfl zG
   refine zSR (fun w' hS hV K hK => ?_) ?_
   · obtain ⟨q0, q1⟩ := hS.1.two; go_simp; exact hK.out _ _ _ rfl rfl rfl zG
   refine zSR (fun w' hS hV K hK => ?_) ?_
   · have e1 := zQ hV 1; have e2 := zQ hV 2; obtain ⟨q0, q1⟩ := hS.1.two; go_simp; refine (l04Spoil_any g P A n c sq w' hS.2.2.2.s' (by omega) (hS.2.2.1.base (Nat.zero_le _))).mono ?_; rintro e v1 ⟨A9, m9, c9, rfl, hm9, ⟨xs9, ho9⟩, hd9⟩; exact hK.out _ _ _ rfl rfl ⟨_, _, _, xs9, rfl, hm9, ho9.base (Nat.le_trans hw hS.2.2.2.size)⟩ (StepR.rel rfl hd9)
   refine fun w' hS hV => ?_
   have e0 := zQ hV 0
   have e1 := zQ hV 1
   have e2 := zQ hV 2
   obtain ⟨A3, m3, c3, X3, e3, l3, h3⟩ := hV 3 (by decide)
   simp only [e0, e1, e2, e3]
   clear e0 e1 e2 e3
   replace k5 := hS.1
   replace kr := hS.2.1
   replace oq := hS.2.2.1
   replace d := hS.2.2.2
   clear q0 q1
   have ox := h3
   obtain ⟨p0, p1⟩ := kr.two
   have f0 := kr.frozen 0
   have f1 := kr.frozen 1
   refine any_one (j := 4) (by kernel_rfl) (Eq.trans (by simp only [zA, zB, zC]; exact rfl) rfl) (fun K hK => ?_)
   go_simp
   refine hK.out _ _ (any_one (j := 5) (by kernel_rfl) (Eq.trans (by simp only [zA, zB, zC]; exact rfl) rfl) (fun K hK => ?_))
   go_simp
   refine hK.out _ _ (wpAny_done (by kernel_rfl) ?_ _)
   go_wp2
   exact bodyPost_ret (v := .tuple #[.agg #[.int .i64 P, .slice A n c], .slice A3 m3 c3]) (by simp [results, Tryz.results68, go_sem, p0, p1]) rfl ⟨P, A, n, c, sq, A3, m3, c3, X3, rfl, hP, hn, l3, (oq.far kr (by decide) 0 _).far (kr.set_ 0 (.int .i64 P)) (by decide) 1 _, (ox.far kr (by decide) 0 _).far (kr.set_ 0 (.int .i64 P)) (by decide) 1 _, hB2.trans (((d.b.mono hgw).setCell (p := ⟨w.heap.size, 0, none⟩) (Nat.le_refl _) _).setCell (p := ⟨w.heap.size, 1, none⟩) (Nat.le_refl _) _)⟩
 · have hi := l03Is_b P A n c sq _ (by omega) oq.rd hmu
   have HM : Hid (isP P = true ∧ n ≤ 6) := Lib.hid (by
    obtain ⟨g1, g2, g3, g4⟩ := isSp_dim hmu
    rw [oq.rd.lenI] at g3
    exact ⟨g1, g3⟩)
   clear hmu
   go_wp2_with fail
   refine hi.mono ?_
   rintro e w10 ⟨rfl, hb⟩
   replace k5 := k5.below hb k5.lt
   replace kr := kr.below hb kr.lt
   replace oq := oq.below hb
   replace d := d.then hb
   obtain ⟨b5, hb5e⟩ : ∃ b, b = w4.heap.size := ⟨_, rfl⟩
   rw [← hb5e] at k5 hb6 ⊢
   clear hi hb q0 q1 hb5e
   obtain ⟨hp3, hp2⟩ := isP_ge HM.out.1
   have hpw : pw n ≤ 100 := Nat.le_trans (pw_le HM.out.2) (by decide)
   obtain ⟨q0, q1⟩ := k5.two
   have hnx := next_any g 6 w10 d.s' (by omega)
   go_wp2_with fail
   refine hnx.mono ?_
   rintro e w11 ⟨r3, rfl, _, _, hd3⟩
   replace k5 := k5.dr hd3 (by decide)
   replace kr := kr.dr hd3 (by decide)
   replace oq := oq.dr hd3 (by decide)
   replace d := d.trans hd3
   clear hnx hd3 q0 q1
   by_cases h3 : r3 = 0
   · have e3 : (r3 == 0) = true := by simp [h3]
     obtain ⟨q0, q1⟩ := k5.two
     go_wp2
     refine wp_obsR 4 (Dr g 144) [[], [], [], [1, 2], [0, 1, 2, 3], [0, 1, 2, 3]] [[], [], [], [99]] (fun x => [VIs (.agg #[.int .i64 P, .slice A n c]), VIs (.pointer (some ⟨g, 0, none⟩)), VIs (.agg #[.int .i64 P, .slice A n c]), VLx w.heap.size]) (fun w' => Blk w' b5 26 #[.int .i64 P, .slice A n c] ∧ Blk w' w.heap.size 26 #[.int .i64 0, .slice none 0 0] ∧ Own w' w.heap.size 2 A n c (ints sq) ∧ Dr g 144 w2 w') (by kernel_rfl) (by kernel_rfl) (fun x x' j hx => by
         rcases j with _ | _ | _ | _ | j
         · rfl
         · rfl
         · rfl
         · rfl
         · rfl)
      (weak_ofR [0, 1, 2] (by decide) (fun k hk x v w w' hp hr => by
       simp only [List.mem_cons, zJ, or_false] at hk
       rcases hk with rfl | rfl | rfl
       · exact hp
       · exact hp
       · exact hp)) (fun j _ _ h hb => hb.either (fun hb => ⟨h.1.below hb h.1.lt, h.2.1.below hb h.2.1.lt, h.2.2.1.below hb, h.2.2.2.then hb⟩) (fun hr => ⟨h.1.dr hr (by decide), h.2.1.dr hr (by decide), h.2.2.1.dr hr (by decide), h.2.2.2.trans hr⟩)) (⟨k5.drew, kr.drew, oq.below zG.drew, d.then zG.drew⟩) (fun x => ?_)
     refine zSR (fun w' hS hV K hK => ?_) ?_
     · obtain ⟨q0, q1⟩ := hS.1.two; go_simp; exact hK.out _ _ _ rfl rfl rfl zG
     refine zSR (fun w' hS hV K hK => ?_) ?_
     · obtain ⟨q0, q1⟩ := hS.1.two; go_simp; exact hK.out _ _ _ rfl rfl rfl zG
     refine zSR (fun w' hS hV K hK => ?_) ?_
     · obtain ⟨q0, q1⟩ := hS.1.two; go_simp; exact hK.out _ _ _ rfl rfl rfl zG
     refine zSR (fun w' hS hV K hK => ?_) ?_
     · have e1 := zQ hV 1; have e2 := zQ hV 2; obtain ⟨q0, q1⟩ := hS.1.two; go_simp; refine (l04Spoil_any g P A n c sq w' hS.2.2.2.s' (by omega) (hS.2.2.1.base (Nat.zero_le _))).mono ?_; rintro e v1 ⟨A9, m9, c9, rfl, hm9, ⟨xs9, ho9⟩, hd9⟩; exact hK.out _ _ _ rfl rfl ⟨_, _, _, xs9, rfl, hm9, ho9.base (Nat.le_trans hw hS.2.2.2.size)⟩ (StepR.rel rfl hd9)
     refine fun w' hS hV => ?_
     have e0 := zQ hV 0
     have e1 := zQ hV 1
     have e2 := zQ hV 2
     obtain ⟨A3, m3, c3, X3, e3, l3, h3⟩ := hV 3 (by decide)
     simp only [e0, e1, e2, e3]
     clear e0 e1 e2 e3
     replace k5 := hS.1
     replace kr := hS.2.1
     replace oq := hS.2.2.1
     replace d := hS.2.2.2
     clear q0 q1
     have ox := h3
     obtain ⟨p0, p1⟩ := kr.two
     have f0 := kr.frozen 0
     have f1 := kr.frozen 1
     refine any_one (j := 4) (by kernel_rfl) (Eq.trans (by simp only [zA, zB, zC]; exact rfl) rfl) (fun K hK => ?_)
     go_simp
     refine hK.out _ _ (any_one (j := 5) (by kernel_rfl) (Eq.trans (by simp only [zA, zB, zC]; exact rfl) rfl) (fun K hK => ?_))
     go_simp
     refine hK.out _ _ (wpAny_done (by kernel_rfl) ?_ _)
     go_wp2
     exact bodyPost_ret (v := .tuple #[.agg #[.int .i64 P, .slice A n c], .slice A3 m3 c3]) (by simp [results, Tryz.results68, go_sem, p0, p1]) rfl ⟨P, A, n, c, sq, A3, m3, c3, X3, rfl, hP, hn, l3, (oq.far kr (by decide) 0 _).far (kr.set_ 0 (.int .i64 P)) (by decide) 1 _, (ox.far kr (by decide) 0 _).far (kr.set_ 0 (.int .i64 P)) (by decide) 1 _, hB2.trans (((d.b.mono hgw).setCell (p := ⟨w.heap.size, 0, none⟩) (Nat.le_refl _) _).setCell (p := ⟨w.heap.size, 1, none⟩) (Nat.le_refl _) _)⟩
   · have e3 : (r3 == 0) = false := by simp [h3]
     obtain ⟨q0, q1⟩ := k5.two
     go_wp2
     refine wp_obsR 10 (Dr g 144) [[], [], [], [], [3], [], [5], [5, 6], [2, 3, 4, 5, 6, 7], [1, 2, 3, 4, 5, 6, 7, 8], [0, 1, 2, 3, 4, 5, 6, 7, 8, 9], [0, 1, 2, 3, 4, 5, 6, 7, 8, 9]] [[], [], [], [], [], [], [], [], [99], []] (fun x => [VIs (.agg #[.int .i64 P, .slice A n c]), VIs (.agg #[.int .i64 P, .slice A n c]), VIs (.pointer (some ⟨g, 0, none⟩)), VIs (.pointer (some ⟨b5, 0, none⟩)), VIs (.int .i64 (P)), VIs (.pointer (some ⟨b5, 1, none⟩)), VIs (.slice A n c), VIs (.int .i64 (n)), VLs w.heap.size n P, VLs w.heap.size (pw n) P]) (fun w' => Blk w' b5 26 #[.int .i64 P, .slice A n c] ∧ Blk w' w.heap.size 26 #[.int .i64 0, .slice none 0 0] ∧ Own w' w.heap.size 2 A n c (ints sq) ∧ Dr g 144 w2 w') (by kernel_rfl) (by kernel_rfl) (fun x x' j hx => by
         rcases j with _ | _ | _ | _ | _ | _ | _ | _ | _ | _ | j
         · rfl
         · rfl
         · rfl
         · rfl
         · rfl
         · rfl
         · rfl
         · rfl
         · rfl
         · rfl
         · rfl)
      (weak_ofR [0, 1, 2, 3, 4, 5, 6, 7] (by decide) (fun k hk x v w w' hp hr => by
       simp only [List.mem_cons, zJ, or_false] at hk
       rcases hk with rfl | rfl | rfl | rfl | rfl | rfl | rfl | rfl
       · exact hp
       · exact hp
       · exact hp
       · exact hp
       · exact hp
       · exact hp
       · exact hp
       · exact hp)) (fun j _ _ h hb => hb.either (fun hb => ⟨h.1.below hb h.1.lt, h.2.1.below hb h.2.1.lt, h.2.2.1.below hb, h.2.2.2.then hb⟩) (fun hr => ⟨h.1.dr hr (by decide), h.2.1.dr hr (by decide), h.2.2.1.dr hr (by decide), h.2.2.2.trans hr⟩)) (⟨k5.drew, kr.drew, oq.below zG.drew, d.then zG.drew⟩) (fun x => ?_)
     refine zSR (fun w' hS hV K hK => ?_) ?_
     · obtain ⟨q0, q1⟩ := hS.1.two; go_simp; exact hK.out _ _ _ rfl rfl rfl zG
     refine zSR (fun w' hS hV K hK => ?_) ?_
     · obtain ⟨q0, q1⟩ := hS.1.two; go_simp; exact hK.out _ _ _ rfl rfl rfl zG
     refine zSR (fun w' hS hV K hK => ?_) ?_
     · obtain ⟨q0, q1⟩ := hS.1.two; go_simp; exact hK.out _ _ _ rfl rfl rfl zG
     refine zSR (fun w' hS hV K hK => ?_) ?_
     · obtain ⟨q0, q1⟩ := hS.1.two; go_simp; exact hK.out _ _ _ rfl rfl rfl zG
     refine zSR (fun w' hS hV K hK => ?_) ?_
     · have e3 := zQ hV 3; obtain ⟨q0, q1⟩ := hS.1.two; go_simp; exact hK.out _ _ _ rfl rfl rfl zG
     refine zSR (fun w' hS hV K hK => ?_) ?_
     · obtain ⟨q0, q1⟩ := hS.1.two; go_simp; exact hK.out _ _ _ rfl rfl rfl zG
     refine zSR (fun w' hS hV K hK => ?_) ?_
     · have e5 := zQ hV 5; obtain ⟨q0, q1⟩ := hS.1.two; go_simp; exact hK.out _ _ _ rfl rfl rfl zG
     refine zSR (fun w' hS hV K hK => ?_) ?_
     · have e6 := zQ hV 6; obtain ⟨q0, q1⟩ := hS.1.two; go_simp; exact hK.out _ _ _ rfl rfl rfl zG
     refine zSR (fun w' hS hV K hK => ?_) ?_
     · have e2 := zQ hV 2; have e4 := zQ hV 4; have e7 := zQ hV 7; obtain ⟨q0, q1⟩ := hS.1.two; go_simp; refine (nextList_any g P n w' hS.2.2.2.s' (by omega) (by omega)).mono ?_; rintro e v1 ⟨A9, c9, xs9, rfl, hl9, hx9, ho9, hd9⟩; exact hK.out _ _ _ rfl rfl ⟨_, _, xs9, rfl, hl9, nums_of (by omega) hx9, ho9.base (Nat.le_trans hw hS.2.2.2.size)⟩ (StepR.rel rfl hd9)
     refine zSR (fun w' hS hV K hK => ?_) ?_
     · have e1 := zQ hV 1; obtain ⟨A8, c8, X8, e8, l8, u8, h8⟩ := hV 8 (by decide); obtain ⟨q0, q1⟩ := hS.1.two; go_simp; refine (l04Vector_any P A n c A8 c8 X8 w' (by omega) h8.rd).mono ?_; rintro e v1 ⟨A9, c9, rfl, hM⟩; exact hK.out _ _ _ rfl rfl ⟨_, _, _, rfl, vecTo_len _ _ _, vecTo_nums (by omega) n X8 u8 n, hM.2.base (Nat.le_trans hw hS.2.2.2.size)⟩ hM.b
     refine fun w' hS hV => ?_
     have e0 := zQ hV 0
     have e1 := zQ hV 1
     have e2 := zQ hV 2
     have e3 := zQ hV 3
     have e4 := zQ hV 4
     have e5 := zQ hV 5
     have e6 := zQ hV 6
     have e7 := zQ hV 7
     obtain ⟨A8, c8, X8, e8, l8, u8, h8⟩ := hV 8 (by decide)
     obtain ⟨A9, c9, X9, e9, l9, u9, h9⟩ := hV 9 (by decide)
     simp only [e0, e1, e2, e3, e4, e5, e6, e7, e8, e9]
     clear e0 e1 e2 e3 e4 e5 e6 e7 e8 e9
     replace k5 := hS.1
     replace kr := hS.2.1
     replace oq := hS.2.2.1
     replace d := hS.2.2.2
     clear q0 q1
     have ox := h9
     obtain ⟨p0, p1⟩ := kr.two
     have f0 := kr.frozen 0
     have f1 := kr.frozen 1
     refine any_one (j := 10) (by kernel_rfl) (Eq.trans (by simp only [zA, zB, zC]; exact rfl) rfl) (fun K hK => ?_)
     go_simp
     refine hK.out _ _ (any_one (j := 11) (by kernel_rfl) (Eq.trans (by simp only [zA, zB, zC]; exact rfl) rfl) (fun K hK => ?_))
     go_simp
     refine hK.out _ _ (wpAny_done (by kernel_rfl) ?_ _)
     go_wp2
     exact bodyPost_ret (v := .tuple #[.agg #[.int .i64 P, .slice A n c], .slice A9 (pw n) c9]) (by simp [results, Tryz.results68, go_sem, p0, p1]) rfl ⟨P, A, n, c, sq, A9, (pw n), c9, X9, rfl, hP, hn, hpw, (oq.far kr (by decide) 0 _).far (kr.set_ 0 (.int .i64 P)) (by decide) 1 _, (ox.far kr (by decide) 0 _).far (kr.set_ 0 (.int .i64 P)) (by decide) 1 _, hB2.trans (((d.b.mono hgw).setCell (p := ⟨w.heap.size, 0, none⟩) (Nat.le_refl _) _).setCell (p := ⟨w.heap.size, 1, none⟩) (Nat.le_refl _) _)⟩
theorem mod5_any (p n : Int) (w : World) (hp : 0 < p) (hp2 : p ≤ 13) :
    Calls Tryz.prog 33 #[.int .i64 p, .int .i64 n] w fun e w' => e = .returned (.int .i64 (n % p)) ∧ w = w' := by
 go_enter Tryz.func33, Tryz.ntmps33
 go_wp2
 go_ret
 exact ⟨ret_int (num_math p n hp hp2), rfl⟩
theorem big_any (A : Option Addr) (n c : Nat) (w : World) :
    Calls Tryz.prog 8 #[.slice A n c] w fun e w' => e = .returned (.bool (decide (4096 < n))) ∧ w = w' := by
 go_enter Tryz.func8, Tryz.ntmps8
 by_cases h : 4096 < n
 · have d1 : decide ((4096 : Int) < (n : Int)) = true := by rw [decide_eq_true_eq]; omega
   go_wp2
   go_ret
   exact ⟨ret_bool (by rw [eq_comm, decide_eq_true_eq]; exact h), rfl⟩
 · have d1 : decide ((4096 : Int) < (n : Int)) = false := by rw [decide_eq_false_iff_not]; omega
   go_wp2
   go_ret
   exact ⟨ret_bool (by rw [eq_comm, decide_eq_false_iff_not]; exact h), rfl⟩
theorem size5_any (P : Int) (A : Option Addr) (n c : Nat) (w : World) (hn : n ≤ 30) :
    Calls Tryz.prog 40 #[.agg #[.int .i64 P, .slice A n c]] w fun e w' => e = .returned (.int .i64 (pw n)) ∧ Below w.heap.size w w' := by
 go_enter Tryz.func40, Tryz.ntmps40
 go_wp2
 go_ret
 exact ⟨ret_int (wrap_pw n hn), zG.alloc (Nat.le_refl _) _⟩
theorem mul_small5 {k y : Int} (h1 : -1000 ≤ k) (h2 : k ≤ 1000) (y1 : 0 ≤ y) (y2 : y ≤ 13) : -13000 ≤ k * y ∧ k * y ≤ 13000 := by
 rcases Int.le_total 0 k with h | h
 · have a := Int.mul_nonneg h y1
   have b := Int.le_trans (Int.mul_le_mul_of_nonneg_right h2 y1) (show 1000 * y ≤ 13000 by omega)
   omega
 · have a := Int.mul_nonneg (show 0 ≤ -k by omega) y1
   have b := Int.le_trans (Int.mul_le_mul_of_nonneg_right (show -k ≤ 1000 by omega) y1) (show 1000 * y ≤ 13000 by omega)
   rw [Int.neg_mul] at a b
   omega
set_option maxHeartbeats 1600000 in
set_option maxRecDepth 8000 in
theorem plus5_any (p : Int) (A : Option Addr) (n c : Nat) (B : Option Addr) (d : Nat) (k : Int) (xs ys : List Int) (w : World) (hp : 2 ≤ p) (hp2 : p ≤ 13) (hn : n ≤ 65536) (ha : Rd w A n (ints xs)) (hx : NumsL p xs) (hb : Rd w B n (ints ys)) (hy : NumsL p ys) (hk1 : -1000 ≤ k) (hk2 : k ≤ 1000) :
    Calls Tryz.prog 67 #[.int .i64 p, .slice A n c, .slice B n d, .int .i64 k] w fun e w' => ∃ A' c', e = .returned (.slice A' n c') ∧ MkI w w' A' n c' (plusL p xs ys k) := by
 have hxl : xs.length = n := by have := ha.1; rwa [ints_length] at this
 have Hx := Lib.hid hxl; clear hxl
 have hM0 := Mk.lit (E := 2) (Below.refl w.heap.size w) #[] (by simp)
 have hnn : ((n : Int) != (n : Int)) = false := by simp
 go_enter Tryz.func67, Tryz.ntmps67
 go_wp2
 go_loopw [9, 10] (fun out i wr => ∃ (j : Nat) (A' : Option Addr) (c' : Nat), j ≤ n ∧ i = .int .i64 j ∧ out = .slice A' j c' ∧ MkI w wr A' j c' (tab j fun i => (xs.getD i 0 + k * ys.getD i 0) % p)) (fun _ i _ => n - (intOf i).toNat)
 case atStart => exact ⟨0, _, _, by omega, rfl, rfl, by simpa [MkI, ints, tab] using hM0⟩
 case round =>
  obtain ⟨j, A', c', hj, rfl, rfl, hM⟩ := hrel
  clear hM0
  by_cases hlt : j < n
  · obtain ⟨g, o, rfl, hxj, hcx⟩ := (ha.below hM.b).int hlt
    obtain ⟨g2, o2, rfl, hyj, hcy⟩ := (hb.below hM.b).int hlt
    obtain ⟨x1, x2⟩ := hx _ (List.getElem_mem hxj)
    obtain ⟨y1, y2⟩ := hy _ (List.getElem_mem hyj)
    obtain ⟨m1, m2⟩ := mul_small5 hk1 hk2 y1 (show ys[j] ≤ 13 by omega)
    have HV : Hid ((tab (j + 1) fun i => (xs.getD i 0 + k * ys.getD i 0) % p) = (tab j fun i => (xs.getD i 0 + k * ys.getD i 0) % p) ++ [(xs[j] + k * ys[j]) % p]) := Lib.hid (by rw [tab_succ, getD_of_lt 0 hxj, getD_of_lt 0 hyj])
    have W1 := i64_fit (k * ys[j]) (by omega) (by omega)
    have W2 := i64_fit (xs[j] + k * ys[j]) (by omega) (by omega)
    have i1 : (0 : Int) ≤ (j : Int) := by omega
    have i2 : (j : Int) < (n : Int) := by omega
    go_wp2
    refine wp_obs 15 [[],[],[],[],[2,3],[2,3,4],[],[],[],[7,8],[7,8,9],[6,7,8,9,10],[2,3,4,5,6,7,8,9,10,11],[1,2,3,4,5,6,7,8,9,10,11,12],[1,2,3,4,5,6,7,8,9,10,11,12,13],[0,1,2,3,4,5,6,7,8,9,10,11,12,13,14],[0,1,2,3,4,5,6,7,8,9,10,11,12,13,14,15]] [VIs (.slice A' j c'), VIs (.int .i64 p), VIs (.slice (some ⟨g, o, none⟩) n c), VIs (.int .i64 j), VIs (.pointer (some ⟨g, o + j, none⟩)), VIs (.int .i64 xs[j]), VIs (.int .i64 k), VIs (.slice (some ⟨g2, o2, none⟩) n d), VIs (.int .i64 j), VIs (.pointer (some ⟨g2, o2 + j, none⟩)), VIs (.int .i64 ys[j]), VIs (.int .i64 (k * ys[j])), VIs (.int .i64 (xs[j] + k * ys[j])), VIs (.int .i64 ((xs[j] + k * ys[j]) % p)), VBs 2 #[.int .i64 ((xs[j] + k * ys[j]) % p)]] (fun w' => MkI w w' A' j c' (tab j fun i => (xs.getD i 0 + k * ys.getD i 0) % p) ∧ w'.cell? ⟨g, o + j, none⟩ = some (.int .i64 xs[j]) ∧ w'.cell? ⟨g2, o2 + j, none⟩ = some (.int .i64 ys[j])) (by kernel_rfl) (by kernel_rfl) (fun _ _ h hb => ⟨h.1.below hb, (hb.cell (World.block_lt_of_cell? _ _ h.2.1)).trans h.2.1, (hb.cell (World.block_lt_of_cell? _ _ h.2.2)).trans h.2.2⟩) (⟨hM.drew, hcx, hcy⟩) (fun x => ?_)
    refine zS (fun w' hS hV K hK => ?_) ?_
    · obtain ⟨_, q1, q2⟩ := hS; go_simp; exact zO hK
    refine zS (fun w' hS hV K hK => ?_) ?_
    · obtain ⟨_, q1, q2⟩ := hS; go_simp; exact zO hK
    refine zS (fun w' hS hV K hK => ?_) ?_
    · obtain ⟨_, q1, q2⟩ := hS; go_simp; exact zO hK
    refine zS (fun w' hS hV K hK => ?_) ?_
    · obtain ⟨_, q1, q2⟩ := hS; go_simp; exact zO hK
    refine zS (fun w' hS hV K hK => ?_) ?_
    · have e2 := zQ hV 2; have e3 := zQ hV 3; obtain ⟨_, q1, q2⟩ := hS; go_simp; exact zO hK
    refine zS (fun w' hS hV K hK => ?_) ?_
    · have e4 := zQ hV 4; obtain ⟨_, q1, q2⟩ := hS; go_simp; exact zO hK
    refine zS (fun w' hS hV K hK => ?_) ?_
    · obtain ⟨_, q1, q2⟩ := hS; go_simp; exact zO hK
    refine zS (fun w' hS hV K hK => ?_) ?_
    · obtain ⟨_, q1, q2⟩ := hS; go_simp; exact zO hK
    refine zS (fun w' hS hV K hK => ?_) ?_
    · obtain ⟨_, q1, q2⟩ := hS; go_simp; exact zO hK
    refine zS (fun w' hS hV K hK => ?_) ?_
    · have e7 := zQ hV 7; have e8 := zQ hV 8; obtain ⟨_, q1, q2⟩ := hS; go_simp; exact zO hK
    refine zS (fun w' hS hV K hK => ?_) ?_
    · have e9 := zQ hV 9; obtain ⟨_, q1, q2⟩ := hS; go_simp; exact zO hK
    refine zS (fun w' hS hV K hK => ?_) ?_
    · have e6 := zQ hV 6; have e10 := zQ hV 10; obtain ⟨_, q1, q2⟩ := hS; go_simp; exact zO hK
    refine zS (fun w' hS hV K hK => ?_) ?_
    · have e5 := zQ hV 5; have e11 := zQ hV 11; obtain ⟨_, q1, q2⟩ := hS; go_simp; exact zO hK
    refine zS (fun w' hS hV K hK => ?_) ?_
    · have e1 := zQ hV 1; have e12 := zQ hV 12; obtain ⟨_, q1, q2⟩ := hS; go_simp; refine (mod5_any p (xs[j] + k * ys[j]) w' (by omega) hp2).mono ?_; rintro e w1 ⟨rfl, rfl⟩; exact zO hK
    refine zS (fun w' hS hV K hK => ?_) ?_
    · have e13 := zQ hV 13; obtain ⟨_, q1, q2⟩ := hS; go_simp; exact hK.out _ _ _ rfl rfl ⟨_, rfl, Blk.new _ _ _⟩ (zG.alloc (Nat.le_refl _) _)
    refine fun w' hS hV => ?_
    have e0 := zT hV 0
    have e1 := zT hV 1
    have e2 := zT hV 2
    have e3 := zT hV 3
    have e4 := zT hV 4
    have e5 := zT hV 5
    have e6 := zT hV 6
    have e7 := zT hV 7
    have e8 := zT hV 8
    have e9 := zT hV 9
    have e10 := zT hV 10
    have e11 := zT hV 11
    have e12 := zT hV 12
    have e13 := zT hV 13
    obtain ⟨b14, e14, h14⟩ := hV 14 (by decide)
    simp only [e0, e1, e2, e3, e4, e5, e6, e7, e8, e9, e10, e11, e12, e13, e14]
    clear e0 e1 e2 e3 e4 e5 e6 e7 e8 e9 e10 e11 e12 e13 e14
    obtain ⟨s1, s2, s3⟩ := hS
    refine any_plain (j := 15) (by kernel_rfl) (Eq.trans (by simp only [zA, zB, zC]; exact rfl) rfl) rfl (fun K hK => ?_)
    refine wp_app1 w w' 24 2 _ _ Tryz.underlying24 info_i rfl (by omega) _ _ rfl A' j c' _ _ s1 (by omega) rfl _ h14 (by rfl) (by rfl) ?_
    intro A2 c2 w2 hM2 hgr
    refine hK.out _ _ ?_
    simp only [Act.put, zD, zE, zF]
    refine any_one (j := 16) (by kernel_rfl) (Eq.trans (by simp only [zA, zB, zC]; exact rfl) rfl) (fun K hK => ?_)
    go_simp
    refine hK.out _ _ (wpAny_done (by kernel_rfl) ?_ _)
    clear W1 W2 s2 s3 hM
    go_wp2
    go_roundw
    case rel => exact ⟨j + 1, A2, c2, by omega, by go_num, rfl, by rw [HV.out]; simpa [MkI, ints] using hM2⟩
    case measure => simp [intOf]; omega
  · go_wp2
    go_ret
    obtain rfl : j = n := by omega
    exact ⟨_, _, rfl, by unfold plusL; rw [Hx.out]; exact hM⟩
set_option maxHeartbeats 3200000 in
set_option maxRecDepth 8000 in
theorem GeometricProduct_ok (P : Int) (A : Option Addr) (n c : Nat) (sq : List Int) (X : Option Addr) (m cx : Nat) (xs : List Int) (Y : Option Addr) (l cy : Nat) (ys : List Int) (w : World) (hn : n ≤ 1048576) (hm : m ≤ 1048576) (hl : l ≤ 1048576) (ha : Rd w A n (ints sq)) (hx : Rd w X m (ints xs)) (hcx : m ≤ cx) (hy : Rd w Y l (ints ys)) (hcy : l ≤ cy) (h0 : codeM P sq [xs, ys] = 0) :
    Calls Tryz.prog 28 #[.agg #[.int .i64 P, .slice A n c], .slice X m cx, .slice Y l cy] w fun e w' => ∃ (A' : Option Addr) (c' : Nat), e = .returned (.tuple #[.slice A' (pw n) c', .int .i64 0]) ∧ MkI w w' A' (pw n) c' (mulL P sq xs ys) := by
 have hB0 : Below w.heap.size w (w.alloc (.cells #[.int .i64 P, .slice A n c] 26)) := zG.alloc (Nat.le_refl _) _
 have k0 : Blk (w.alloc (.cells #[.int .i64 P, .slice A n c] 26)) w.heap.size 26 #[.int .i64 P, .slice A n c] := Blk.new _ _ _
 have hB1 : Below w.heap.size w ((w.alloc (.cells #[.int .i64 P, .slice A n c] 26)).alloc (.cells #[.slice X m cx, .slice Y l cy] 24)) := hB0.alloc (by simp) _
 have k1 : Blk ((w.alloc (.cells #[.int .i64 P, .slice A n c] 26)).alloc (.cells #[.slice X m cx, .slice Y l cy] 24)) w.heap.size 26 #[.int .i64 P, .slice A n c] := k0.alloc _
 have hreg := checkMultis_any P A (some ⟨w.heap.size + 1, 0, none⟩) n c 2 2 sq [xs, ys] ((w.alloc (.cells #[.int .i64 P, .slice A n c] 26)).alloc (.cells #[.slice X m cx, .slice Y l cy] 24)) hn (by omega) (ha.below hB1) (rdII_two (Blk.newAt (by simp)) (hx.below hB1) (hy.below hB1) hcx hcy) (all_two (by rw [hx.lenI]; exact hm) (by rw [hy.lenI]; exact hl))
 rw [h0] at hreg
 obtain ⟨HP, hp, hp2, hd1, hd2, hs0, hms⟩ := codeM_spec2 h0
 obtain ⟨hx1, hxs0⟩ := hms xs (by simp)
 obtain ⟨hy1, hys0⟩ := hms ys (by simp)
 have hsl := ha.lenI
 have hmx : m = pw n := by rw [← hx.lenI, hx1, hsl]
 have hly : l = pw n := by rw [← hy.lenI, hy1, hsl]
 subst hmx
 subst hly
 rw [hsl] at hd2
 have HXS := Lib.hid hxs0
 have HYS := Lib.hid hys0
 have HS := Lib.hid hs0
 have HX1 := Lib.hid hx.lenI
 have HY1 := Lib.hid hy.lenI
 have htm := timesL_two P sq n xs ys HX1.out HXS.out
 clear hms hx1 hs0 hxs0 hy1 hys0 h0 hsl
 go_enter Tryz.func28, Tryz.ntmps28
 go_wp2_with fail
 refine hreg.mono ?_
 rintro e w2 ⟨rfl, hb2⟩
 have hB2 := hB1.trans (hb2.mono hB1.size)
 have k2 := k1.below hb2 k1.lt
 obtain ⟨q0, q1⟩ := k2.two
 clear k0 hB0 k1 hB1 hb2 hreg
 have hB3 : Below w.heap.size w (w2.alloc (.cells #[.slice X (pw n) cx, .slice Y (pw n) cy] 24)) := hB2.alloc hB2.size _
 have hcall := times_any P A n c sq (some ⟨w2.heap.size, 0, none⟩) 2 2 [xs, ys] (w2.alloc (.cells #[.slice X (pw n) cx, .slice Y (pw n) cy] 24)) (by omega) hp2 hd2 (by omega) (ha.below hB3) HS.out (rdII_two (Blk.new w2 24 _) (hx.below hB3) (hy.below hB3) hcx hcy) (all_two ⟨HXS.out, HX1.out⟩ ⟨HYS.out, HY1.out⟩)
 rw [htm] at hcall
 go_wp2_with fail
 refine hcall.mono ?_
 rintro e w3 ⟨A', c', rfl, hM⟩
 have hM3 := hM.after hB3
 go_wp2
 go_ret2
 exact ⟨A', c', rfl, hM3⟩
set_option maxHeartbeats 3200000 in
set_option maxRecDepth 8000 in
theorem times5_ok (P : Int) (A : Option Addr) (n c : Nat) (sq : List Int) (X : Option Addr) (m cx : Nat) (xs : List Int) (Y : Option Addr) (l cy : Nat) (ys : List Int) (w : World) (hn : n ≤ 1048576) (hm : m ≤ 1048576) (hl : l ≤ 1048576) (ha : Rd w A n (ints sq)) (hx : Rd w X m (ints xs)) (hcx : m ≤ cx) (hy : Rd w Y l (ints ys)) (hcy : l ≤ cy) (h0 : codeM P sq [xs, ys] = 0) :
    Calls Tryz.prog 23 #[.agg #[.int .i64 P, .slice A n c], .slice X m cx, .slice Y l cy] w fun e w' => ∃ (A' : Option Addr) (c' : Nat), e = .returned (.slice A' (pw n) c') ∧ MkI w w' A' (pw n) c' (mulL P sq xs ys) := by
 have hB0 : Below w.heap.size w (w.alloc (.cells #[.int .i64 P, .slice A n c] 26)) := zG.alloc (Nat.le_refl _) _
 have k0 : Blk (w.alloc (.cells #[.int .i64 P, .slice A n c] 26)) w.heap.size 26 #[.int .i64 P, .slice A n c] := Blk.new _ _ _
 have hgp := GeometricProduct_ok P A n c sq X m cx xs Y l cy ys (w.alloc (.cells #[.int .i64 P, .slice A n c] 26)) hn hm hl (ha.below hB0) (hx.below hB0) hcx (hy.below hB0) hcy h0
 clear h0
 go_enter Tryz.func23, Tryz.ntmps23
 go_wp2_with fail
 refine hgp.mono ?_
 rintro e w2 ⟨A', c', rfl, hM⟩
 have hM3 := hM.after hB0
 go_wp2
 go_ret
 exact ⟨A', c', rfl, hM3⟩
/-- The sum of the first multiples of powers. -/
def totP (P : Int) (sq : List Int) (n : Nat) (xs poly : List Int) : Nat → List Int
 | 0 => List.replicate (pw n) 0
 | k + 1 => plusL P (totP P sq n xs poly k) (pwrL P sq n xs k) (poly.getD k 0)
theorem zero_rep {p : Int} {sq : List Int} (hp : 0 < p) : (Cl.zero hp : Cl p sq).l = List.replicate (pw sq.length) 0 := by
 refine list_ext_getD 0 (by rw [Cl.len, List.length_replicate]) fun i hi => ?_
 have h1 := Cl.zero_all hp (p := p) (sq := sq) _ (List.getElem_mem hi)
 rw [getD_of_lt 0 hi, h1, List.getD_eq_getElem?_getD, List.getElem?_replicate]
 split <;> rfl
theorem tot_sum {P : Int} {sq : List Int} (hp : 0 < P) (h2 : 2 ≤ P) (X : Cl P sq) (poly : List Int) : ∀ k, totP P sq sq.length X.l poly k = (Cl.sum hp k fun i => poly.getD i 0 * Cl.pwr hp X i).l
 | 0 => (zero_rep hp).symm
 | k + 1 => by
  show plusL P (totP P sq sq.length X.l poly k) (pwrL P sq sq.length X.l k) (poly.getD k 0) = (Cl.sum hp k (fun i => poly.getD i 0 * Cl.pwr hp X i) + poly.getD k 0 * Cl.pwr hp X k).l
  rw [Cl.add_l, tot_sum hp h2 X poly k, pwr_l hp h2 X k]
/-- What is right of a polynomial. -/
def GoodP (P : Int) (sq : List Int) (n : Nat) (xs poly : List Int) (kp : Nat) : Prop := poly.length = kp ∧ NumsL P poly ∧ (∀ k, (totP P sq n xs poly k).length = pw n ∧ NumsL P (totP P sq n xs poly k)) ∧ ∀ y ∈ totP P sq n xs poly kp, y = 0
theorem good_of {P : Int} {sq : List Int} (hp : 0 < P) (h2 : 2 ≤ P) (X : Cl P sq) {poly : List Int} {kp : Nat} (hl : poly.length = kp) (hn : NumsL P poly) (h : Cl.sum hp kp (fun i => poly.getD i 0 * Cl.pwr hp X i) = Cl.zero hp) : GoodP P sq sq.length X.l poly kp := by
 refine ⟨hl, hn, fun k => ?_, fun y hy => ?_⟩
 · rw [tot_sum hp h2]; exact ⟨Cl.len _, Cl.nums _⟩
 · rw [tot_sum hp h2, h] at hy
   exact Cl.zero_all hp y hy
/-- All facts on the two polynomials. -/
theorem min_char {P : Int} {sq xs : List Int} (hP : isP P = true) (hx : xs.length = pw sq.length) (hxn : NumsL P xs) :
    (minL P sq sq.length xs).length ≤ pw sq.length + 1 ∧ 0 < (minL P sq sq.length xs).length ∧ GoodP P sq sq.length xs (minL P sq sq.length xs) (minL P sq sq.length xs).length ∧ Tab P (pw sq.length) (lmL P sq sq.length xs) ∧
    GoodP P sq sq.length xs (charL P (lmL P sq sq.length xs)) (pw sq.length + 1) ∧ ∀ k, NumsL P (pwrL P sq sq.length xs k) := by
 have h3 := isP_ge hP
 have hp : 0 < P := by omega
 have h2 : 2 ≤ P := by omega
 obtain ⟨X, rfl⟩ : ∃ X : Cl P sq, X.l = xs := ⟨⟨xs, hx, hxn, hp⟩, rfl⟩
 obtain ⟨m1, m2, m3⟩ := min_zero hP hp X
 obtain ⟨k1, k2, -, -⟩ := minK_spec hP hp X
 obtain ⟨c1, c2, c3⟩ := char_zero hP hp X
 have hf := lm_fit hp h2 X
 have hml : (lmL P sq sq.length X.l).length = pw sq.length := transL_len (lcol_tab h2 X) (by rw [lcol_len]; exact pw_pos _)
 refine ⟨by rw [m1]; omega, by rw [m1]; omega, ?_, by have := hf.tab; rwa [hml] at this, ?_, fun k => (pwr_nums hp h2 X k).2⟩
 · refine good_of hp h2 X rfl m2 ?_
   rw [m1]; exact m3
 · refine good_of hp h2 X c2 c3 ?_
   unfold Cl.ev at c1
   rw [c2] at c1
   exact c1
theorem mnpR_sz (P : Int) (sq xs : List Int) : (mnpR P sq xs).1.length ≤ 100 := by
 by_cases hc : codeA P sq [xs] = 0
 · rw [mnpR_ok hc]
   obtain ⟨h1, h4⟩ := codeA_zero hc
   obtain ⟨HP, hp, _, h1, h6, _, hms⟩ := codeM_spec3 h1
   obtain ⟨hx, hxn⟩ := hms xs (by simp)
   have hpw : pw sq.length ≤ 16 := pw_le h4
   have := (min_char HP hx hxn).1
   show (minL P sq sq.length xs).length ≤ 100
   omega
 · rw [mnpR_bad hc]; simp
theorem vidR_sz (P : Int) (sq xs : List Int) : (vidR P sq xs).1.length ≤ 100 := by
 by_cases hc : codeA P sq [xs] = 0
 · obtain ⟨h1, h4⟩ := codeA_zero hc
   have hpw : pw sq.length ≤ 16 := pw_le h4
   by_cases h : (decide (xs = partG xs 1) && decide (0 < vrtL P sq sq.length xs)) = true
   · rw [Bool.and_eq_true, decide_eq_true_eq (p := 0 < _)] at h
     rw [vidR_ok hc h.1 h.2]
     show (vidL P sq sq.length xs).length ≤ 100
     unfold vidL
     rw [plusL_len, scaleL_len, bladeL_len]; omega
   · rw [vidR_no hc (by simpa using h)]; simp
 · rw [vidR_bad hc]; simp
/-- What is right of an idempotent of a vector. -/
theorem vid_facts {P : Int} {sq xs : List Int} (h0 : (vidR P sq xs).2 = 0) : ∃ E, (vidR P sq xs).1 = E ∧ E.length = pw sq.length ∧ NumsL P E ∧ mulL P sq E E = E ∧ codeA P sq [E] = 0 ∧ codeM P sq [E, E] = 0 ∧ zeroL (plusL P (mulL P sq E E) E (-1)) = true := by
 by_cases hc : codeA P sq [xs] = 0
 · obtain ⟨h1, h4⟩ := codeA_zero hc
   obtain ⟨hsp, -⟩ := codeM_sp h1
   obtain ⟨HP, hp, _, hd1, h6, _, hms⟩ := codeM_spec3 h1
   obtain ⟨hx, hxn⟩ := hms xs (by simp)
   by_cases h : (decide (xs = partG xs 1) && decide (0 < vrtL P sq sq.length xs)) = true
   · rw [Bool.and_eq_true, decide_eq_true_eq (p := 0 < _)] at h
     obtain ⟨e1, e2, e3⟩ := vid_idem HP (by omega) hx hxn h.1 h.2
     rw [vidR_ok hc h.1 h.2]
     refine ⟨_, rfl, e2, e3, e1, codeA_mk (codeM_mk hsp (all_one ⟨e2, e3⟩)) h4, codeM_mk hsp (all_two ⟨e2, e3⟩ ⟨e2, e3⟩), ?_⟩
     rw [e1]
     have hp0 : 0 < P := by omega
     obtain ⟨X, hX⟩ : ∃ X : Cl P sq, X.l = vidL P sq sq.length xs := ⟨⟨_, e2, e3, hp0⟩, rfl⟩
     rw [← hX, ← Cl.add_l, Cl.add_comm, Cl.gone]
     exact (Cl.zero_iff _).2 rfl
   · rw [vidR_no hc (by simpa using h)] at h0
     exact absurd h0 (by show ¬ (5 : Int) = 0; omega)
 · rw [vidR_bad hc] at h0
   exact absurd h0 hc
set_option maxHeartbeats 25600000 in
set_option maxRecDepth 40000 in
theorem FnMinimalPolynomials_any (B : Option Addr) (nb cb : Nat) (bs : List Int) (w : World) (r : Rd w B nb (bs.map (Value.int .u8))) (hbs : ∀ b ∈ bs, 0 ≤ b ∧ b < 256) (hbg : ∀ a, B = some a → a.block < w.heap.size) :
    Calls Tryz.prog 7 #[.slice B nb cb] w fun e w' => e = .returned (.bool true) ∧ Below w.heap.size w w' := by
 have hbig := big_any B nb cb w
 by_cases hbb : 4096 < nb
 · rw [decide_eq_true hbb] at hbig
   go_enter Tryz.func7, Tryz.ntmps7
   go_wp2_with fail
   refine hbig.mono ?_
   rintro e w1 ⟨rfl, rfl⟩
   go_wp2
   go_ret
   exact ⟨rfl, Below.refl _ _⟩
 · rw [decide_eq_false hbb] at hbig
   have hdr := DrawMinimalPolynomial_any B nb cb bs w (by omega) r hbs hbg
   go_enter Tryz.func7, Tryz.ntmps7
   go_wp2_with fail
   refine hbig.mono ?_
   rintro e w1 ⟨rfl, rfl⟩
   clear hbig
   go_wp2_with fail
   refine hdr.mono ?_
   rintro e w2 ⟨P, A, n, c, sq, X, m, cx, xs, rfl, hP, hn, hm, ho, hx, hb2⟩
   have hcx := hx.cap
   have hA : Below w2.heap.size w2 (w2.alloc (.cells #[.int .i64 P, .slice A n c] 26)) := zG.alloc (Nat.le_refl _) _
   have k3 : Blk (w2.alloc (.cells #[.int .i64 P, .slice A n c] 26)) w2.heap.size 26 #[.int .i64 P, .slice A n c] := Blk.new _ _ _
   have hB3 := hb2.alloc (o := .cells #[.int .i64 P, .slice A n c] 26) hb2.size
   have o3 := (ho.below hA).rd
   have x3 := (hx.below hA).rd
   have r3 := r.below hB3
   obtain ⟨w3, hw3⟩ : ∃ W, W = w2.alloc (.cells #[.int .i64 P, .slice A n c] 26) := ⟨_, rfl⟩
   have hb1 := MinimalPolynomial_any P A n c sq X m cx xs w3 (by omega) (by omega) (hw3 ▸ o3) (hw3 ▸ x3) hcx
   obtain ⟨⟨G, z⟩, hGz⟩ : ∃ R, R = mnpR P sq xs := ⟨_, rfl⟩
   have hsz := mnpR_sz P sq xs
   rw [← hGz] at hb1 hsz
   have HSZ : Hid (G.length ≤ 100) := Lib.hid hsz
   obtain ⟨q0, q1⟩ := k3.two
   clear hdr ho hx hb2 hA hsz r
   go_wp2_with fail
   rw [← hw3] at k3 hB3 o3 x3 r3 ⊢
   clear hw3
   have HR9 := Lib.hid r3
   have HBS := Lib.hid hbs
   have HBG := Lib.hid hbg
   clear r3 hbs hbg
   refine hb1.mono ?_
   rintro e w4 ⟨Ag, kg, cg, rfl, hM4⟩
   have hW := hM4.b
   have r_x := x3.below hW
   have r_g : Rd w4 Ag kg (ints G) := hM4.rd
   clear q0 q1 hb1 hM4 x3
   have kk := k3.below hW k3.lt
   obtain ⟨q0, q1⟩ := kk.two
   clear kk
   have hcall := specMinimalPolynomial_any P A n c sq X m cx xs w4 (by omega) (by omega) (o3.below hW) r_x hcx
   rw [← hGz] at hcall
   go_wp2_with fail
   refine hcall.mono ?_
   rintro e w5 ⟨A5, m5, c5, rfl, hM⟩
   replace r_x := r_x.below hM.b
   replace r_g := r_g.below hM.b
   have r_t : Rd w5 A5 m5 (ints G) := hM.rd
   replace hW := hW.trans (hM.b.mono hW.size)
   clear hM
   clear hcall q0 q1
   obtain rfl : kg = m5 := by rw [← r_g.lenI]; exact r_t.lenI
   have e0 : (z != z) = false := by simp
   have hkg : kg ≤ 100 := by rw [← r_g.lenI]; exact HSZ.out
   have kk := k3.below hW k3.lt
   obtain ⟨q0, q1⟩ := kk.two
   clear kk
   have hcall := likeInts_any Ag A5 kg kg cg c5 G G w5 (by omega) (by omega) r_g r_t
   rw [decide_eq_true rfl] at hcall
   go_wp2_with fail
   refine hcall.mono ?_
   rintro e w6 ⟨rfl, j1, hw9⟩
   have hb7 := below_drewN (Below.refl w5.heap.size w5) j1
   rw [← hw9] at hb7
   replace r_x := r_x.below hb7
   replace r_g := r_g.below hb7
   replace r_t := r_t.below hb7
   replace hW := hW.trans (hb7.mono hW.size)
   clear hcall q0 q1 hb7 hw9
   clear r_t
   clear e0
   have hsl := o3.lenI
   by_cases hcd : codeA P sq [xs] = 0
   · rw [mnpR_ok hcd] at hGz
     obtain rfl : z = 0 := (Prod.mk.inj hGz).2
     have hG := (Prod.mk.inj hGz).1
     obtain ⟨hcm, hn4⟩ := codeA_zero hcd
     obtain ⟨HP, hp, hp2, hd1, hd2, hnum, hms⟩ := codeM_spec3 hcm
     obtain ⟨hx1, hxn⟩ := hms xs (by simp)
     have hmn : m = pw n := by rw [← r_x.lenI, hx1, hsl]
     subst hmn
     obtain ⟨f1, f2, f3, f4, f5, f6⟩ := min_char HP hx1 hxn
     rw [hsl] at f1 f2 f3 f4 f5 f6 hn4 hG hd1 hd2
     rw [← hG] at f1 f2 f3
     have hgl : G.length = kg := r_g.lenI
     rw [hgl] at f1 f2 f3
     have HG1 := Lib.hid f3
     have HLT := Lib.hid f4
     have HPW := Lib.hid f6
     have HCA := Lib.hid hcd
     have HCM := Lib.hid hcm
     have HPP := Lib.hid HP
     have hpw : pw n ≤ 16 := pw_le hn4
     have hpn := pw_pos n
     have hG2 := f5
     clear hG hGz hcm HP hnum hms hx1 hxn HSZ hgl f3 f4 f5 f6 hcd
     have kk := k3.below hW k3.lt
     obtain ⟨q0, q1⟩ := kk.two
     clear kk
     have hcall := LeftMatrix_ok P A n c sq X cx xs w6 (by omega) (by omega) (o3.below hW) r_x hcx HCA.out
     go_wp2_with fail
     refine hcall.mono ?_
     rintro e w7 ⟨Am, cm, rfl, hM⟩
     replace r_x := r_x.below hM.b
     replace r_g := r_g.below hM.b
     have r_m : RdII w7 Am (pw n) (lmL P sq n xs) := hM.rd
     replace hW := hW.trans (hM.b.mono hW.size)
     clear hM
     clear hcall q0 q1
     have kk := k3.below hW k3.lt
     obtain ⟨q0, q1⟩ := kk.two
     clear kk
     have hcall := CharacteristicPolynomial_ok P Am (pw n) cm (lmL P sq n xs) w7 HPP.out hpn hpw r_m HLT.out
     go_wp2_with fail
     refine hcall.mono ?_
     rintro e w8 ⟨Af, cf, rfl, hM⟩
     replace r_x := r_x.below hM.b
     replace r_g := r_g.below hM.b
     replace r_m := r_m.below hM.b
     have r_f : Rd w8 Af (pw n + 1) (ints (charL P (lmL P sq n xs))) := hM.rd
     replace hW := hW.trans (hM.b.mono hW.size)
     clear hM
     clear hcall q0 q1
     clear r_m
     obtain ⟨Nf, hNf⟩ : ∃ Nf, Nf = pw n + 1 := ⟨_, rfl⟩
     rw [← hNf] at r_f hG2 f1 ⊢
     have HG2 := Lib.hid hG2
     have hNf2 : Nf ≤ 17 := by omega
     have t3 : ((kg : Int) == 0) = false := by simp; omega
     have t4 : decide ((Nf : Int) < (kg : Int)) = false := by simp; omega
     have t5 : decide (Nf < kg) = false := by simp; omega
     clear hG2 hNf
     go_wp2
     go_loopw [13] (fun iv wr => ∃ rr : Nat, rr ≤ 2 ∧ iv = .int .i64 rr ∧ Below w8.heap.size w8 wr) (fun iv _ => 2 - (intOf iv).toNat)
     case atStart => exact ⟨0, by omega, rfl, Below.refl _ _⟩
     case round =>
      obtain ⟨rr, hrr, rfl, hbr⟩ := hrel
      by_cases hr0 : rr = 0
      · have t0 : decide ((rr : Int) < 2) = true := by simp; omega
        have t1 : ((rr : Int) == 1) = false := by simp; omega
        have hrr2 : rr ≤ 1 := by omega
        clear hr0
        have hkp : kg ≤ 100 := by omega
        have kk9 := k3.below (hW.trans (hbr.mono hW.size)) k3.lt
        have HG9 := HG1
        have rp := r_g.below hbr
        have oo := o3.below (hW.trans (hbr.mono hW.size))
        have rx9 := r_x.below hbr
        have hmk := make_i (P := Tryz.prog) 24 2 Tryz.underlying24 info_i (pw n) (by omega)
        obtain ⟨q0, q1⟩ := kk9.two
        have hcall := size5_any P A n c wr (by omega)
        go_wp2_with fail
        refine hcall.mono ?_
        rintro e w9 ⟨rfl, hb7⟩
        have hM0 : MkI w9 (w9.alloc (.cells (madeCells #[.int .i64 0] (pw n)) 2)) (some ⟨w9.heap.size, 0, none⟩) (pw n) (pw n) (totP P sq n xs G 0) := by
         have := Mk.made (E := 2) (n := pw n) (z := .int .i64 0) (Below.refl w9.heap.size w9) (by simp only [maxLen]; omega)
         rw [ints_replicate] at this
         exact this
        have hbw := hbr.trans (hb7.mono hbr.size)
        replace kk9 := kk9.below hb7 kk9.lt
        replace rp := rp.below hb7
        replace oo := oo.below hb7
        replace rx9 := rx9.below hb7
        clear hcall q0 q1 hb7
        go_wp2
        clear hmk
        go_loopw [15, 16] (fun tv iv wq => ∃ (k : Nat) (At : Option Addr) (ct : Nat), k ≤ kg ∧ iv = .int .i64 k ∧ tv = .slice At (pw n) ct ∧ MkI w9 wq At (pw n) ct (totP P sq n xs G k)) (fun _ iv _ => kg - (intOf iv).toNat)
        case atStart => exact ⟨0, _, _, by omega, rfl, rfl, hM0⟩
        case round =>
         obtain ⟨k, At, ct, hk, rfl, rfl, hMq⟩ := hrel
         clear hM0
         by_cases hlk : k < kg
         · have k8 := kk9.below hMq.b kk9.lt
           obtain ⟨q0, q1⟩ := k8.two
           have hpo := PowerOf_ok P A n c sq X cx xs k wr (by omega) (by omega) (oo.below hMq.b) (rx9.below hMq.b) hcx HCM.out (by omega)
           go_wp2_with fail
           refine hpo.mono ?_
           rintro e wq ⟨Aw, cw, rfl, hMw⟩
           have kk8 := k8.below hMw.b k8.lt
           have hbq := hMq.b.trans (hMw.b.mono hMq.b.size)
           obtain ⟨gp, op_, rfl, hxi, hcell⟩ := (rp.below hbq).int hlk
           have hvb := HG9.out.2.1 _ (List.getElem_mem hxi)
           obtain ⟨v, hv⟩ : ∃ v, v = (G)[k] := ⟨_, rfl⟩
           have hvg : (G).getD k 0 = v := by rw [hv, getD_of_lt 0 hxi]
           rw [← hv] at hcell hvb
           have rt9 := hMq.rd.below hMw.b
           have rw9 := hMw.rd
           obtain ⟨TK, hTK⟩ : ∃ T, T = totP P sq n xs G k := ⟨_, rfl⟩
           obtain ⟨PK, hPK⟩ : ∃ T, T = pwrL P sq n xs k := ⟨_, rfl⟩
           obtain ⟨TN, hTN⟩ : ∃ T, T = totP P sq n xs G (k + 1) := ⟨_, rfl⟩
           have htn : plusL P TK PK v = TN := by rw [hTN, hTK, hPK, ← hvg]; rfl
           have htk := (HG9.out.2.2.1 k).2
           have hpk := HPW.out k
           rw [← hTK] at rt9 htk
           rw [← hPK] at rw9 hpk
           have HT1 := fun (w' : World) (h : Below wq.heap.size wq w') => plus5_any P At (pw n) ct Aw cw v TK PK w' (by omega) hp2 (by omega) (rt9.below h) htk (rw9.below h) hpk (by omega) (by omega)
           rw [htn] at HT1
           replace HT1 := Lib.hid HT1
           have HTN := Lib.hid hTN
           have HBQ := Lib.hid hbq
           have b1 : (0 : Int) ≤ (k : Int) := by omega
           have b2 : (k : Int) < (kg : Int) := by omega
           clear q0 q1 hpo hxi hv hvg hTK hPK hTN htn htk hpk rt9 rw9 hMw hbq k8 hMq
           obtain ⟨q0, q1⟩ := kk8.two
           have kk9' := kk8
           go_wp2
           refine wp_obs 9 [[],[0],[],[],[],[],[4,5],[4,5,6],[0,1,2,3,4,5,6,7],[0,1,2,3,4,5,6,7,8]] [VIs (.pointer (some ⟨w2.heap.size, 0, none⟩)), VIs (.int .i64 (P)), VIs (.slice At (pw n) ct), VIs (.slice Aw (pw n) cw), VIs (.slice (some ⟨gp, op_, none⟩) kg cg), VIs (.int .i64 (k)), VIs (.pointer (some ⟨gp, op_ + k, none⟩)), VIs (.int .i64 (v)), VSl wq (pw n) TN] (fun w' => w'.cell? ⟨gp, op_ + k, none⟩ = some (.int .i64 v) ∧ Blk w' w2.heap.size 26 #[.int .i64 P, .slice A n c] ∧ Below wq.heap.size wq w') (by kernel_rfl) (by kernel_rfl) (fun _ _ h hb => ⟨(hb.cell (World.block_lt_of_cell? _ _ h.1)).trans h.1, h.2.1.below hb h.2.1.lt, h.2.2.trans (hb.mono h.2.2.size)⟩) (⟨hcell, kk8.drew, zG.drew⟩) (fun x => ?_)
           refine zS (fun w' hS hV K hK => ?_) ?_
           · have q2 := hS.1; obtain ⟨q0, q1⟩ := hS.2.1.two; go_simp; exact zO hK
           refine zS (fun w' hS hV K hK => ?_) ?_
           · have e0 := zQ hV 0; have q2 := hS.1; obtain ⟨q0, q1⟩ := hS.2.1.two; go_simp; exact zO hK
           refine zS (fun w' hS hV K hK => ?_) ?_
           · have q2 := hS.1; obtain ⟨q0, q1⟩ := hS.2.1.two; go_simp; exact zO hK
           refine zS (fun w' hS hV K hK => ?_) ?_
           · have q2 := hS.1; obtain ⟨q0, q1⟩ := hS.2.1.two; go_simp; exact zO hK
           refine zS (fun w' hS hV K hK => ?_) ?_
           · have q2 := hS.1; obtain ⟨q0, q1⟩ := hS.2.1.two; go_simp; exact zO hK
           refine zS (fun w' hS hV K hK => ?_) ?_
           · have q2 := hS.1; obtain ⟨q0, q1⟩ := hS.2.1.two; go_simp; exact zO hK
           refine zS (fun w' hS hV K hK => ?_) ?_
           · have e4 := zQ hV 4; have e5 := zQ hV 5; have q2 := hS.1; obtain ⟨q0, q1⟩ := hS.2.1.two; go_simp; exact zO hK
           refine zS (fun w' hS hV K hK => ?_) ?_
           · have e6 := zQ hV 6; have q2 := hS.1; obtain ⟨q0, q1⟩ := hS.2.1.two; go_simp; exact zO hK
           refine zS (fun w' hS hV K hK => ?_) ?_
           · have e1 := zQ hV 1; have e2 := zQ hV 2; have e3 := zQ hV 3; have e7 := zQ hV 7; have q2 := hS.1; obtain ⟨q0, q1⟩ := hS.2.1.two; go_simp; refine (HT1.out _ hS.2.2).mono ?_; rintro e v1 ⟨A2, c2, rfl, hM⟩; exact hK.out _ _ _ rfl rfl ⟨_, _, rfl, hM.after hS.2.2⟩ hM.b
           refine fun w' hS hV => ?_
           have e0 := zT hV 0
           have e1 := zT hV 1
           have e2 := zT hV 2
           have e3 := zT hV 3
           have e4 := zT hV 4
           have e5 := zT hV 5
           have e6 := zT hV 6
           have e7 := zT hV 7
           obtain ⟨A8, c8, e8, h8⟩ := hV 8 (by decide)
           simp only [e0, e1, e2, e3, e4, e5, e6, e7, e8]
           clear e0 e1 e2 e3 e4 e5 e6 e7 e8
           have HMN := Lib.hid (h8.after HBQ.out)
           refine any_one (j := 9) (by kernel_rfl) (Eq.trans (by simp only [zA, zB, zC]; exact rfl) rfl) (fun K hK => ?_)
           go_simp
           refine hK.out _ _ (wpAny_done (by kernel_rfl) ?_ _)
           clear hS hV HT1 q0 q1 hcell h8 kk8 kk9'
           go_wp2
           go_roundw
           case rel => exact ⟨k + 1, _, _, by omega, by go_num, rfl, by rw [← HTN.out]; exact HMN.out⟩
           case measure => simp [intOf]; omega
         · have hkk : k = kg := by omega
           rw [hkk] at hMq ⊢
           clear hkk hlk hk
           have k8 := kk9.below hMq.b kk9.lt
           have hbw2 := hbw.trans (hMq.b.mono hbw.size)
           have rt := hMq.rd
           obtain ⟨TT, hTT⟩ : ∃ T, T = totP P sq n xs G kg := ⟨_, rfl⟩
           have hz := HG9.out.2.2.2
           rw [← hTT] at hz rt
           have HZ := Lib.hid hz
           obtain ⟨q0, q1⟩ := k8.two
           have e9 : (((pw n : Nat) : Int) != ((pw n : Nat) : Int)) = false := by simp
           have hcall := size5_any P A n c wr (by omega)
           clear hMq hTT hz
           go_wp2_with fail
           refine hcall.mono ?_
           rintro e w19 ⟨rfl, hb7⟩
           have hz5 := zero5_any At (pw n) ct TT w19 (by omega) (rt.below hb7)
           rw [decide_eq_true HZ.out] at hz5
           have hb19 := hbw2.trans (hb7.mono hbw2.size)
           clear hcall q0 q1 hb7 k8 rt HZ hbw2
           go_wp2_with fail
           refine hz5.mono ?_
           rintro e w20 ⟨rfl, rfl⟩
           clear hz5 e9
           go_wp2
           go_roundw
           case rel => exact ⟨rr + 1, by omega, by go_num, hb19⟩
           case measure => simp [intOf]; omega
      · by_cases hr1 : rr = 1
        · have t0 : decide ((rr : Int) < 2) = true := by simp; omega
          have t1 : ((rr : Int) == 1) = true := by simp; omega
          have hrr2 : rr ≤ 1 := by omega
          clear hr1 hr0
          have hkp : Nf ≤ 100 := by omega
          have kk9 := k3.below (hW.trans (hbr.mono hW.size)) k3.lt
          have HG9 := HG2
          have rp := r_f.below hbr
          have oo := o3.below (hW.trans (hbr.mono hW.size))
          have rx9 := r_x.below hbr
          have hmk := make_i (P := Tryz.prog) 24 2 Tryz.underlying24 info_i (pw n) (by omega)
          obtain ⟨q0, q1⟩ := kk9.two
          have hcall := size5_any P A n c wr (by omega)
          go_wp2_with fail
          refine hcall.mono ?_
          rintro e w9 ⟨rfl, hb7⟩
          have hM0 : MkI w9 (w9.alloc (.cells (madeCells #[.int .i64 0] (pw n)) 2)) (some ⟨w9.heap.size, 0, none⟩) (pw n) (pw n) (totP P sq n xs (charL P (lmL P sq n xs)) 0) := by
           have := Mk.made (E := 2) (n := pw n) (z := .int .i64 0) (Below.refl w9.heap.size w9) (by simp only [maxLen]; omega)
           rw [ints_replicate] at this
           exact this
          have hbw := hbr.trans (hb7.mono hbr.size)
          replace kk9 := kk9.below hb7 kk9.lt
          replace rp := rp.below hb7
          replace oo := oo.below hb7
          replace rx9 := rx9.below hb7
          clear hcall q0 q1 hb7
          go_wp2
          clear hmk
          go_loopw [15, 16] (fun tv iv wq => ∃ (k : Nat) (At : Option Addr) (ct : Nat), k ≤ Nf ∧ iv = .int .i64 k ∧ tv = .slice At (pw n) ct ∧ MkI w9 wq At (pw n) ct (totP P sq n xs (charL P (lmL P sq n xs)) k)) (fun _ iv _ => Nf - (intOf iv).toNat)
          case atStart => exact ⟨0, _, _, by omega, rfl, rfl, hM0⟩
          case round =>
           obtain ⟨k, At, ct, hk, rfl, rfl, hMq⟩ := hrel
           clear hM0
           by_cases hlk : k < Nf
           · have k8 := kk9.below hMq.b kk9.lt
             obtain ⟨q0, q1⟩ := k8.two
             have hpo := PowerOf_ok P A n c sq X cx xs k wr (by omega) (by omega) (oo.below hMq.b) (rx9.below hMq.b) hcx HCM.out (by omega)
             go_wp2_with fail
             refine hpo.mono ?_
             rintro e wq ⟨Aw, cw, rfl, hMw⟩
             have kk8 := k8.below hMw.b k8.lt
             have hbq := hMq.b.trans (hMw.b.mono hMq.b.size)
             obtain ⟨gp, op_, rfl, hxi, hcell⟩ := (rp.below hbq).int hlk
             have hvb := HG9.out.2.1 _ (List.getElem_mem hxi)
             obtain ⟨v, hv⟩ : ∃ v, v = ((charL P (lmL P sq n xs)))[k] := ⟨_, rfl⟩
             have hvg : ((charL P (lmL P sq n xs))).getD k 0 = v := by rw [hv, getD_of_lt 0 hxi]
             rw [← hv] at hcell hvb
             have rt9 := hMq.rd.below hMw.b
             have rw9 := hMw.rd
             obtain ⟨TK, hTK⟩ : ∃ T, T = totP P sq n xs (charL P (lmL P sq n xs)) k := ⟨_, rfl⟩
             obtain ⟨PK, hPK⟩ : ∃ T, T = pwrL P sq n xs k := ⟨_, rfl⟩
             obtain ⟨TN, hTN⟩ : ∃ T, T = totP P sq n xs (charL P (lmL P sq n xs)) (k + 1) := ⟨_, rfl⟩
             have htn : plusL P TK PK v = TN := by rw [hTN, hTK, hPK, ← hvg]; rfl
             have htk := (HG9.out.2.2.1 k).2
             have hpk := HPW.out k
             rw [← hTK] at rt9 htk
             rw [← hPK] at rw9 hpk
             have HT1 := fun (w' : World) (h : Below wq.heap.size wq w') => plus5_any P At (pw n) ct Aw cw v TK PK w' (by omega) hp2 (by omega) (rt9.below h) htk (rw9.below h) hpk (by omega) (by omega)
             rw [htn] at HT1
             replace HT1 := Lib.hid HT1
             have HTN := Lib.hid hTN
             have HBQ := Lib.hid hbq
             have b1 : (0 : Int) ≤ (k : Int) := by omega
             have b2 : (k : Int) < (Nf : Int) := by omega
             clear q0 q1 hpo hxi hv hvg hTK hPK hTN htn htk hpk rt9 rw9 hMw hbq k8 hMq
             obtain ⟨q0, q1⟩ := kk8.two
             have kk9' := kk8
             go_wp2
             refine wp_obs 9 [[],[0],[],[],[],[],[4,5],[4,5,6],[0,1,2,3,4,5,6,7],[0,1,2,3,4,5,6,7,8]] [VIs (.pointer (some ⟨w2.heap.size, 0, none⟩)), VIs (.int .i64 (P)), VIs (.slice At (pw n) ct), VIs (.slice Aw (pw n) cw), VIs (.slice (some ⟨gp, op_, none⟩) Nf cf), VIs (.int .i64 (k)), VIs (.pointer (some ⟨gp, op_ + k, none⟩)), VIs (.int .i64 (v)), VSl wq (pw n) TN] (fun w' => w'.cell? ⟨gp, op_ + k, none⟩ = some (.int .i64 v) ∧ Blk w' w2.heap.size 26 #[.int .i64 P, .slice A n c] ∧ Below wq.heap.size wq w') (by kernel_rfl) (by kernel_rfl) (fun _ _ h hb => ⟨(hb.cell (World.block_lt_of_cell? _ _ h.1)).trans h.1, h.2.1.below hb h.2.1.lt, h.2.2.trans (hb.mono h.2.2.size)⟩) (⟨hcell, kk8.drew, zG.drew⟩) (fun x => ?_)
             refine zS (fun w' hS hV K hK => ?_) ?_
             · have q2 := hS.1; obtain ⟨q0, q1⟩ := hS.2.1.two; go_simp; exact zO hK
             refine zS (fun w' hS hV K hK => ?_) ?_
             · have e0 := zQ hV 0; have q2 := hS.1; obtain ⟨q0, q1⟩ := hS.2.1.two; go_simp; exact zO hK
             refine zS (fun w' hS hV K hK => ?_) ?_
             · have q2 := hS.1; obtain ⟨q0, q1⟩ := hS.2.1.two; go_simp; exact zO hK
             refine zS (fun w' hS hV K hK => ?_) ?_
             · have q2 := hS.1; obtain ⟨q0, q1⟩ := hS.2.1.two; go_simp; exact zO hK
             refine zS (fun w' hS hV K hK => ?_) ?_
             · have q2 := hS.1; obtain ⟨q0, q1⟩ := hS.2.1.two; go_simp; exact zO hK
             refine zS (fun w' hS hV K hK => ?_) ?_
             · have q2 := hS.1; obtain ⟨q0, q1⟩ := hS.2.1.two; go_simp; exact zO hK
             refine zS (fun w' hS hV K hK => ?_) ?_
             · have e4 := zQ hV 4; have e5 := zQ hV 5; have q2 := hS.1; obtain ⟨q0, q1⟩ := hS.2.1.two; go_simp; exact zO hK
             refine zS (fun w' hS hV K hK => ?_) ?_
             · have e6 := zQ hV 6; have q2 := hS.1; obtain ⟨q0, q1⟩ := hS.2.1.two; go_simp; exact zO hK
             refine zS (fun w' hS hV K hK => ?_) ?_
             · have e1 := zQ hV 1; have e2 := zQ hV 2; have e3 := zQ hV 3; have e7 := zQ hV 7; have q2 := hS.1; obtain ⟨q0, q1⟩ := hS.2.1.two; go_simp; refine (HT1.out _ hS.2.2).mono ?_; rintro e v1 ⟨A2, c2, rfl, hM⟩; exact hK.out _ _ _ rfl rfl ⟨_, _, rfl, hM.after hS.2.2⟩ hM.b
             refine fun w' hS hV => ?_
             have e0 := zT hV 0
             have e1 := zT hV 1
             have e2 := zT hV 2
             have e3 := zT hV 3
             have e4 := zT hV 4
             have e5 := zT hV 5
             have e6 := zT hV 6
             have e7 := zT hV 7
             obtain ⟨A8, c8, e8, h8⟩ := hV 8 (by decide)
             simp only [e0, e1, e2, e3, e4, e5, e6, e7, e8]
             clear e0 e1 e2 e3 e4 e5 e6 e7 e8
             have HMN := Lib.hid (h8.after HBQ.out)
             refine any_one (j := 9) (by kernel_rfl) (Eq.trans (by simp only [zA, zB, zC]; exact rfl) rfl) (fun K hK => ?_)
             go_simp
             refine hK.out _ _ (wpAny_done (by kernel_rfl) ?_ _)
             clear hS hV HT1 q0 q1 hcell h8 kk8 kk9'
             go_wp2
             go_roundw
             case rel => exact ⟨k + 1, _, _, by omega, by go_num, rfl, by rw [← HTN.out]; exact HMN.out⟩
             case measure => simp [intOf]; omega
           · have hkk : k = Nf := by omega
             rw [hkk] at hMq ⊢
             clear hkk hlk hk
             have k8 := kk9.below hMq.b kk9.lt
             have hbw2 := hbw.trans (hMq.b.mono hbw.size)
             have rt := hMq.rd
             obtain ⟨TT, hTT⟩ : ∃ T, T = totP P sq n xs (charL P (lmL P sq n xs)) Nf := ⟨_, rfl⟩
             have hz := HG9.out.2.2.2
             rw [← hTT] at hz rt
             have HZ := Lib.hid hz
             obtain ⟨q0, q1⟩ := k8.two
             have e9 : (((pw n : Nat) : Int) != ((pw n : Nat) : Int)) = false := by simp
             have hcall := size5_any P A n c wr (by omega)
             clear hMq hTT hz
             go_wp2_with fail
             refine hcall.mono ?_
             rintro e w19 ⟨rfl, hb7⟩
             have hz5 := zero5_any At (pw n) ct TT w19 (by omega) (rt.below hb7)
             rw [decide_eq_true HZ.out] at hz5
             have hb19 := hbw2.trans (hb7.mono hbw2.size)
             clear hcall q0 q1 hb7 k8 rt HZ hbw2
             go_wp2_with fail
             refine hz5.mono ?_
             rintro e w20 ⟨rfl, rfl⟩
             clear hz5 e9
             go_wp2
             go_roundw
             case rel => exact ⟨rr + 1, by omega, by go_num, hb19⟩
             case measure => simp [intOf]; omega
        · have t0 : decide ((rr : Int) < 2) = false := by simp; omega
          replace hW := hW.trans (hbr.mono hW.size)
          clear hbr r_x r_g r_f
          have hdr2 := DrawVectorIdempotent_any B nb cb bs wr (by omega) (HR9.out.below hW) HBS.out (fun a e => Nat.lt_of_lt_of_le (HBG.out a e) (Nat.le_trans hB3.size hW.size))
          go_wp2_with fail
          refine hdr2.mono ?_
          rintro e w12 ⟨P4, A4, n4, c4, sq4, X4, m4, cx4, ys, rfl, hP4, hn4, hm4, hO4, hX4, hb12⟩
          have hB12 := (hB3.trans (hW.mono hB3.size)).trans (hb12.mono (Nat.le_trans hB3.size hW.size))
          clear hdr2 k3 o3 hB3 hW hb12 HR9 HBS HBG
          have hcx4 := hX4.cap
          have hA : Below w12.heap.size w12 (w12.alloc (.cells #[.int .i64 P4, .slice A4 n4 c4] 26)) := zG.alloc (Nat.le_refl _) _
          have k9 : Blk (w12.alloc (.cells #[.int .i64 P4, .slice A4 n4 c4] 26)) w12.heap.size 26 #[.int .i64 P4, .slice A4 n4 c4] := Blk.new _ _ _
          have hB9 := hB12.alloc (o := .cells #[.int .i64 P4, .slice A4 n4 c4] 26) hB12.size
          have o9 := (hO4.below hA).rd
          have y9 := (hX4.below hA).rd
          obtain ⟨w13, hw13⟩ : ∃ W, W = w12.alloc (.cells #[.int .i64 P4, .slice A4 n4 c4] 26) := ⟨_, rfl⟩
          have hb1 := VectorIdempotent_any P4 A4 n4 c4 sq4 X4 m4 cx4 ys w13 (by omega) (by omega) (hw13 ▸ o9) (hw13 ▸ y9) hcx4
          obtain ⟨⟨E, z9⟩, hEz⟩ : ∃ R, R = vidR P4 sq4 ys := ⟨_, rfl⟩
          have hsz := vidR_sz P4 sq4 ys
          rw [← hEz] at hb1 hsz
          have HSE : Hid (E.length ≤ 100) := Lib.hid hsz
          obtain ⟨q0, q1⟩ := k9.two
          clear hO4 hX4 hA hB12 hsz
          go_wp2_with fail
          rw [← hw13] at k9 hB9 o9 y9 ⊢
          clear hw13
          refine hb1.mono ?_
          rintro e w24 ⟨Ae, ke, ce, rfl, hM4⟩
          have hW := hM4.b
          have r_y := y9.below hW
          have r_e : Rd w24 Ae ke (ints E) := hM4.rd
          have hce : ke ≤ ce := hM4.2.cap
          clear q0 q1 hb1 hM4 y9
          have kk := k9.below hW k9.lt
          obtain ⟨q0, q1⟩ := kk.two
          clear kk
          have hcall := specVectorIdempotent_any P4 A4 n4 c4 sq4 X4 m4 cx4 ys w24 (by omega) (by omega) (o9.below hW) r_y hcx4
          rw [← hEz] at hcall
          go_wp2_with fail
          refine hcall.mono ?_
          rintro e w25 ⟨A5, m5, c5, rfl, hM⟩
          replace r_y := r_y.below hM.b
          replace r_e := r_e.below hM.b
          have r_t : Rd w25 A5 m5 (ints E) := hM.rd
          replace hW := hW.trans (hM.b.mono hW.size)
          clear hM
          clear hcall q0 q1
          obtain rfl : ke = m5 := by rw [← r_e.lenI]; exact r_t.lenI
          have e0 : (z9 != z9) = false := by simp
          have hke : ke ≤ 100 := by rw [← r_e.lenI]; exact HSE.out
          have kk := k9.below hW k9.lt
          obtain ⟨q0, q1⟩ := kk.two
          clear kk
          have hcall := likeInts_any Ae A5 ke ke ce c5 E E w25 (by omega) (by omega) r_e r_t
          rw [decide_eq_true rfl] at hcall
          go_wp2_with fail
          refine hcall.mono ?_
          rintro e w26 ⟨rfl, j2, hw9⟩
          have hb7 := below_drewN (Below.refl w25.heap.size w25) j2
          rw [← hw9] at hb7
          replace r_y := r_y.below hb7
          replace r_e := r_e.below hb7
          replace r_t := r_t.below hb7
          replace hW := hW.trans (hb7.mono hW.size)
          clear hcall q0 q1 hb7 hw9
          clear r_t
          clear e0
          have hsl4 := o9.lenI
          by_cases hz9 : z9 = 0
          · obtain ⟨E', hE1, hE2, hE3, hE4, hE5, hE6, hE7⟩ := vid_facts (P := P4) (sq := sq4) (xs := ys) (by rw [← hEz]; exact hz9)
            rw [← hEz] at hE1
            obtain rfl : E = E' := hE1
            rw [hsl4] at hE2
            have hke2 : ke = pw n4 := by rw [← r_e.lenI]; exact hE2
            subst hke2
            have HCA := Lib.hid hE5
            have HCM := Lib.hid hE6
            have HEE := Lib.hid hE4
            have HZL := Lib.hid hE7
            have e1 : (z9 != 0) = false := by rw [hz9]; rfl
            clear hE2 hE3 hE4 hE5 hE6 hE7 hz9 hEz hsl4 r_y
            have kk := k9.below hW k9.lt
            obtain ⟨q0, q1⟩ := kk.two
            clear kk
            have hcall := IsIdempotent_ok P4 A4 n4 c4 sq4 Ae ce E w26 (by omega) (by omega) (o9.below hW) r_e hce HCA.out
            rw [HZL.out] at hcall
            go_wp2_with fail
            refine hcall.mono ?_
            rintro e w27 ⟨rfl, hb7⟩
            replace r_e := r_e.below hb7
            replace hW := hW.trans (hb7.mono hW.size)
            clear hcall q0 q1
            have kk := k9.below hW k9.lt
            obtain ⟨q0, q1⟩ := kk.two
            clear kk
            have hcall := times5_ok P4 A4 n4 c4 sq4 Ae (pw n4) ce E Ae (pw n4) ce E w27 (by omega) (by omega) (by omega) (o9.below hW) r_e hce r_e hce HCM.out
            rw [HEE.out] at hcall
            go_wp2_with fail
            refine hcall.mono ?_
            rintro e w28 ⟨A8, c8, rfl, hM⟩
            replace r_e := r_e.below hM.b
            have r_t : Rd w28 A8 (pw n4) (ints E) := hM.rd
            replace hW := hW.trans (hM.b.mono hW.size)
            clear hM
            clear hcall q0 q1
            have kk := k9.below hW k9.lt
            obtain ⟨q0, q1⟩ := kk.two
            clear kk
            have hcall := likeInts_any A8 Ae (pw n4) (pw n4) c8 ce E E w28 (by omega) (by omega) r_t r_e
            rw [decide_eq_true rfl] at hcall
            go_wp2_with fail
            refine hcall.mono ?_
            rintro e w29 ⟨rfl, j3, hw9⟩
            have hb7 := below_drewN (Below.refl w28.heap.size w28) j3
            rw [← hw9] at hb7
            replace r_e := r_e.below hb7
            replace r_t := r_t.below hb7
            replace hW := hW.trans (hb7.mono hW.size)
            clear hcall q0 q1 hb7 hw9
            go_wp2
            go_ret
            exact ⟨rfl, hB9.trans (hW.mono hB9.size)⟩
          · have e1 : (z9 != 0) = true := by simp [hz9]
            clear hz9 hEz hsl4 r_y
            go_wp2
            go_ret
            exact ⟨rfl, hB9.trans (hW.mono hB9.size)⟩
   · rw [mnpR_bad hcd] at hGz
     have hz := (Prod.mk.inj hGz).2
     have e1 : (z == 0) = false := by rw [hz]; simp; exact hcd
     clear hcd hz hGz hsl HSZ r_g r_x
     have hdr2 := DrawVectorIdempotent_any B nb cb bs w6 (by omega) (HR9.out.below hW) HBS.out (fun a e => Nat.lt_of_lt_of_le (HBG.out a e) (Nat.le_trans hB3.size hW.size))
     go_wp2_with fail
     refine hdr2.mono ?_
     rintro e w12 ⟨P4, A4, n4, c4, sq4, X4, m4, cx4, ys, rfl, hP4, hn4, hm4, hO4, hX4, hb12⟩
     have hB12 := (hB3.trans (hW.mono hB3.size)).trans (hb12.mono (Nat.le_trans hB3.size hW.size))
     clear hdr2 k3 o3 hB3 hW hb12 HR9 HBS HBG
     have hcx4 := hX4.cap
     have hA : Below w12.heap.size w12 (w12.alloc (.cells #[.int .i64 P4, .slice A4 n4 c4] 26)) := zG.alloc (Nat.le_refl _) _
     have k9 : Blk (w12.alloc (.cells #[.int .i64 P4, .slice A4 n4 c4] 26)) w12.heap.size 26 #[.int .i64 P4, .slice A4 n4 c4] := Blk.new _ _ _
     have hB9 := hB12.alloc (o := .cells #[.int .i64 P4, .slice A4 n4 c4] 26) hB12.size
     have o9 := (hO4.below hA).rd
     have y9 := (hX4.below hA).rd
     obtain ⟨w13, hw13⟩ : ∃ W, W = w12.alloc (.cells #[.int .i64 P4, .slice A4 n4 c4] 26) := ⟨_, rfl⟩
     have hb1 := VectorIdempotent_any P4 A4 n4 c4 sq4 X4 m4 cx4 ys w13 (by omega) (by omega) (hw13 ▸ o9) (hw13 ▸ y9) hcx4
     obtain ⟨⟨E, z9⟩, hEz⟩ : ∃ R, R = vidR P4 sq4 ys := ⟨_, rfl⟩
     have hsz := vidR_sz P4 sq4 ys
     rw [← hEz] at hb1 hsz
     have HSE : Hid (E.length ≤ 100) := Lib.hid hsz
     obtain ⟨q0, q1⟩ := k9.two
     clear hO4 hX4 hA hB12 hsz
     go_wp2_with fail
     rw [← hw13] at k9 hB9 o9 y9 ⊢
     clear hw13
     refine hb1.mono ?_
     rintro e w24 ⟨Ae, ke, ce, rfl, hM4⟩
     have hW := hM4.b
     have r_y := y9.below hW
     have r_e : Rd w24 Ae ke (ints E) := hM4.rd
     have hce : ke ≤ ce := hM4.2.cap
     clear q0 q1 hb1 hM4 y9
     have kk := k9.below hW k9.lt
     obtain ⟨q0, q1⟩ := kk.two
     clear kk
     have hcall := specVectorIdempotent_any P4 A4 n4 c4 sq4 X4 m4 cx4 ys w24 (by omega) (by omega) (o9.below hW) r_y hcx4
     rw [← hEz] at hcall
     go_wp2_with fail
     refine hcall.mono ?_
     rintro e w25 ⟨A5, m5, c5, rfl, hM⟩
     replace r_y := r_y.below hM.b
     replace r_e := r_e.below hM.b
     have r_t : Rd w25 A5 m5 (ints E) := hM.rd
     replace hW := hW.trans (hM.b.mono hW.size)
     clear hM
     clear hcall q0 q1
     obtain rfl : ke = m5 := by rw [← r_e.lenI]; exact r_t.lenI
     have e0 : (z9 != z9) = false := by simp
     have hke : ke ≤ 100 := by rw [← r_e.lenI]; exact HSE.out
     have kk := k9.below hW k9.lt
     obtain ⟨q0, q1⟩ := kk.two
     clear kk
     have hcall := likeInts_any Ae A5 ke ke ce c5 E E w25 (by omega) (by omega) r_e r_t
     rw [decide_eq_true rfl] at hcall
     go_wp2_with fail
     refine hcall.mono ?_
     rintro e w26 ⟨rfl, j2, hw9⟩
     have hb7 := below_drewN (Below.refl w25.heap.size w25) j2
     rw [← hw9] at hb7
     replace r_y := r_y.below hb7
     replace r_e := r_e.below hb7
     replace r_t := r_t.below hb7
     replace hW := hW.trans (hb7.mono hW.size)
     clear hcall q0 q1 hb7 hw9
     clear r_t
     clear e0
     have hsl4 := o9.lenI
     by_cases hz9 : z9 = 0
     · obtain ⟨E', hE1, hE2, hE3, hE4, hE5, hE6, hE7⟩ := vid_facts (P := P4) (sq := sq4) (xs := ys) (by rw [← hEz]; exact hz9)
       rw [← hEz] at hE1
       obtain rfl : E = E' := hE1
       rw [hsl4] at hE2
       have hke2 : ke = pw n4 := by rw [← r_e.lenI]; exact hE2
       subst hke2
       have HCA := Lib.hid hE5
       have HCM := Lib.hid hE6
       have HEE := Lib.hid hE4
       have HZL := Lib.hid hE7
       have e1 : (z9 != 0) = false := by rw [hz9]; rfl
       clear hE2 hE3 hE4 hE5 hE6 hE7 hz9 hEz hsl4 r_y
       have kk := k9.below hW k9.lt
       obtain ⟨q0, q1⟩ := kk.two
       clear kk
       have hcall := IsIdempotent_ok P4 A4 n4 c4 sq4 Ae ce E w26 (by omega) (by omega) (o9.below hW) r_e hce HCA.out
       rw [HZL.out] at hcall
       go_wp2_with fail
       refine hcall.mono ?_
       rintro e w27 ⟨rfl, hb7⟩
       replace r_e := r_e.below hb7
       replace hW := hW.trans (hb7.mono hW.size)
       clear hcall q0 q1
       have kk := k9.below hW k9.lt
       obtain ⟨q0, q1⟩ := kk.two
       clear kk
       have hcall := times5_ok P4 A4 n4 c4 sq4 Ae (pw n4) ce E Ae (pw n4) ce E w27 (by omega) (by omega) (by omega) (o9.below hW) r_e hce r_e hce HCM.out
       rw [HEE.out] at hcall
       go_wp2_with fail
       refine hcall.mono ?_
       rintro e w28 ⟨A8, c8, rfl, hM⟩
       replace r_e := r_e.below hM.b
       have r_t : Rd w28 A8 (pw n4) (ints E) := hM.rd
       replace hW := hW.trans (hM.b.mono hW.size)
       clear hM
       clear hcall q0 q1
       have kk := k9.below hW k9.lt
       obtain ⟨q0, q1⟩ := kk.two
       clear kk
       have hcall := likeInts_any A8 Ae (pw n4) (pw n4) c8 ce E E w28 (by omega) (by omega) r_t r_e
       rw [decide_eq_true rfl] at hcall
       go_wp2_with fail
       refine hcall.mono ?_
       rintro e w29 ⟨rfl, j3, hw9⟩
       have hb7 := below_drewN (Below.refl w28.heap.size w28) j3
       rw [← hw9] at hb7
       replace r_e := r_e.below hb7
       replace r_t := r_t.below hb7
       replace hW := hW.trans (hb7.mono hW.size)
       clear hcall q0 q1 hb7 hw9
       go_wp2
       go_ret
       exact ⟨rfl, hB9.trans (hW.mono hB9.size)⟩
     · have e1 : (z9 != 0) = true := by simp [hz9]
       clear hz9 hEz hsl4 r_y
       go_wp2
       go_ret
       exact ⟨rfl, hB9.trans (hW.mono hB9.size)⟩
end Go.Proofs.YtmkjdpnoloofjaaGreat
