/-
  LawFnMinimalPolynomials: part 5 of the texts that the proof needs. No condition.
-/
import Derived.Test.YtmkjdpnoloofjaaGreatM4
namespace Go.Proofs.YtmkjdpnoloofjaaGreat
open Go.RowKit
theorem and_small (x : Int) : 0 ≤ bits BinOp.and IntKind.u64 x 16777215 ∧ bits BinOp.and IntKind.u64 x 16777215 ≤ 16777215 := by
 unfold bits
 simp only
 have h : (BitVec.ofInt IntKind.u64.bits x &&& BitVec.ofInt IntKind.u64.bits 16777215).toNat ≤ 16777215 := by
  rw [BitVec.toNat_and]
  exact Nat.le_trans Nat.and_le_right (by decide)
 obtain ⟨r, hr⟩ : ∃ r, r = (BitVec.ofInt IntKind.u64.bits x &&& BitVec.ofInt IntKind.u64.bits 16777215).toNat := ⟨_, rfl⟩
 rw [← hr] at h ⊢
 have e : IntKind.u64.wrap ((r : Nat) : Int) = (r : Int) := by
  have e1 : IntKind.u64.wrap ((r : Nat) : Int) = ((r : Nat) : Int) % 18446744073709551616 := rfl
  rw [e1]; omega
 rw [e]
 omega
/-- A source: a code, a place in it, a number. -/
def Src (w : World) (g : Nat) (T : TypeId) : Prop := ∃ (B : Option Addr) (nb cb : Nat) (bs : List Int) (pl : Nat) (h : Int), Blk w g T #[.slice B nb cb, .int .i64 pl, .int .u64 h] ∧ Rd w B nb (bs.map (Value.int .u8)) ∧ (∀ b ∈ bs, 0 ≤ b ∧ b < 256) ∧ pl ≤ nb ∧ nb ≤ 4096 ∧ ∀ a, B = some a → a.block < g
/-- What drawing leaves as it was: all but the source's own block. -/
structure Dr (g : Nat) (T : TypeId) (w w' : World) : Prop where
 s : Src w g T
 s' : Src w' g T
 b : Below g w w'
 k : ∀ k, k < w.heap.size → k ≠ g → w'.heap[k]? = w.heap[k]?
theorem Blk.three {w : World} {g : Nat} {t : TypeId} {a b c : Value} (h : Blk w g t #[a, b, c]) : w.cell? ⟨g, 0, none⟩ = some a ∧ w.cell? ⟨g, 1, none⟩ = some b ∧ w.cell? ⟨g, 2, none⟩ = some c := ⟨h.cell 0, h.cell 1, h.cell 2⟩
theorem Src.lt {w : World} {g : Nat} {T : TypeId} (h : Src w g T) : g < w.heap.size := by obtain ⟨B, nb, cb, bs, pl, x, k, _⟩ := h; exact k.lt
theorem Src.keep {w w' : World} {g : Nat} {T : TypeId} (h : Src w g T) (hk : w'.heap[g]? = w.heap[g]?) (hb : Below g w w') : Src w' g T := by
 obtain ⟨B, nb, cb, bs, pl, x, k, r, h1, h2, h3, h4⟩ := h
 refine ⟨B, nb, cb, bs, pl, x, hk.trans k, ⟨r.1, fun hn0 => ?_⟩, h1, h2, h3, h4⟩
 obtain ⟨gb, ob, e, hc⟩ := r.2 hn0
 exact ⟨gb, ob, e, fun j u hu => (hb.cell (show gb < g from h4 _ e)).trans (hc j u hu)⟩
theorem Src.below {w w' : World} {g : Nat} {T : TypeId} (h : Src w g T) (hb : Below w.heap.size w w') : Src w' g T := by
 obtain ⟨B, nb, cb, bs, pl, x, k, r, rest⟩ := h
 exact ⟨B, nb, cb, bs, pl, x, k.below hb k.lt, r.below hb, rest⟩
theorem Dr.refl {w : World} {g : Nat} {T : TypeId} (h : Src w g T) : Dr g T w w := ⟨h, h, Below.refl _ _, fun _ _ _ => rfl⟩
theorem Dr.of_below {w w' : World} {g : Nat} {T : TypeId} (h : Src w g T) (hb : Below w.heap.size w w') : Dr g T w w' := ⟨h, h.below hb, hb.mono (Nat.le_of_lt h.lt), fun k hk _ => hb.block k hk⟩
theorem Dr.trans {w w1 w2 : World} {g : Nat} {T : TypeId} (h : Dr g T w w1) (h' : Dr g T w1 w2) : Dr g T w w2 :=
 ⟨h.s, h'.s', h.b.trans h'.b, fun k hk hne => (h'.k k (Nat.lt_of_lt_of_le hk h.b.size) hne).trans (h.k k hk hne)⟩
theorem Dr.size {w w' : World} {g : Nat} {T : TypeId} (h : Dr g T w w') : w.heap.size ≤ w'.heap.size := h.b.size
theorem Blk.dr {w w' : World} {g g' : Nat} {T t : TypeId} {cs : Array Value} (h : Blk w g' t cs) (d : Dr g T w w') (hne : t ≠ T) : Blk w' g' t cs := by
 refine (d.k g' h.lt fun e => ?_).trans h
 subst e
 obtain ⟨B, nb, cb, bs, pl, x, k, _⟩ := d.s
 unfold Blk at h k
 rw [h] at k
 injection k with k
 injection k with _ e
 exact hne e
theorem Own.dr {w w' : World} {g : Nat} {T E : TypeId} {B : Nat} {A : Option Addr} {n c : Nat} {us : List Value} (h : Own w B E A n c us) (d : Dr g T w w') (hne : E ≠ T) : Own w' B E A n c us := by
 obtain ⟨B', nb, cb, bs, pl, x, k, _⟩ := d.s
 have hn := h.ne_blk k hne
 refine ⟨h.1, ?_⟩
 rcases h.2 with hz | ⟨g', cap, cur, he, hB, hg, r⟩
 · exact .inl hz
 · refine .inr ⟨g', cap, cur, he, hB, (d.k g' (Array.getElem?_eq_some_iff.1 hg).1 fun e => hn ?_).trans hg, r⟩
   rw [he, ← e]; rfl
theorem Dr.set {w : World} {g : Nat} {T : TypeId} {B : Option Addr} {nb cb : Nat} {bs : List Int} {pl pl' : Nat} {h h' : Int} (k : Blk w g T #[.slice B nb cb, .int .i64 pl, .int .u64 h]) (r : Rd w B nb (bs.map (Value.int .u8))) (hbs : ∀ b ∈ bs, 0 ≤ b ∧ b < 256) (hpl : pl ≤ nb) (hnb : nb ≤ 4096) (hbg : ∀ a, B = some a → a.block < g)
    (i : Nat) (u : Value) (e : (#[.slice B nb cb, .int .i64 pl, .int .u64 h] : Array Value).setIfInBounds i u = #[.slice B nb cb, .int .i64 pl', .int .u64 h']) (hpl' : pl' ≤ nb) :
    Dr g T w (w.setCell ⟨g, i, none⟩ u) ∧ Blk (w.setCell ⟨g, i, none⟩ u) g T #[.slice B nb cb, .int .i64 pl', .int .u64 h'] ∧ Rd (w.setCell ⟨g, i, none⟩ u) B nb (bs.map (Value.int .u8)) := by
 have k1 := k.set_ i u
 rw [e] at k1
 have hfar : ∀ b, b ≠ g → (w.setCell ⟨g, i, none⟩ u).heap[b]? = w.heap[b]? := fun b hb => Below.heap_setCell w ⟨g, i, none⟩ _ b hb
 have hr : Rd (w.setCell ⟨g, i, none⟩ u) B nb (bs.map (Value.int .u8)) := ⟨r.1, fun hn0 => by
  obtain ⟨gb, ob, e, hc⟩ := r.2 hn0
  refine ⟨gb, ob, e, fun j u hu => ?_⟩
  have hcj := hc j u hu
  have hlt := hbg _ e
  exact (World.cell?_of_block (hfar gb (fun e => by simp at hlt; omega))).trans hcj⟩
 exact ⟨⟨⟨B, nb, cb, bs, pl, h, k, r, hbs, hpl, hnb, hbg⟩, ⟨B, nb, cb, bs, pl', h', k1, hr, hbs, hpl', hnb, hbg⟩, zG.setCell (p := ⟨g, i, none⟩) (Nat.le_refl _) _, fun b _ hb => hfar b hb⟩, k1, hr⟩
theorem Dr.alloc {w w' : World} {g : Nat} {T : TypeId} (h : Dr g T w w') (o : Obj) : Dr g T w (w'.alloc o) := h.trans (Dr.of_below h.s' (zG.alloc (Nat.le_refl _) o))
theorem Dr.then {w w1 w2 : World} {g : Nat} {T : TypeId} (h : Dr g T w w1) (hb : Below w1.heap.size w1 w2) : Dr g T w w2 := h.trans (Dr.of_below h.s' hb)
/-- A row made since then grows. -/
theorem Dr.grown {w wr w' : World} {g : Nat} {T E : TypeId} {A : Option Addr} {n c : Nat} {us : List Value} (d : Dr g T w wr) (o : Own wr w.heap.size E A n c us) (hg : wr.grownBy w' (Value.slice A n c).ownBlock) : Dr g T w w' := by
 have hlt := d.s.lt
 have hrow : ∀ k, (Value.slice A n c).ownBlock = some k → w.heap.size ≤ k := fun k hk => (World.ownsRow.lt o k hk).1
 have hb : Below g wr w' := (Below.refl g wr).grown hg (Nat.le_of_lt (Nat.lt_of_lt_of_le hlt d.size)) fun k hk => Nat.le_trans (Nat.le_of_lt hlt) (hrow k hk)
 exact ⟨d.s, d.s'.keep (hg.block g (Nat.lt_of_lt_of_le hlt d.size) fun e => by have := hrow g e.symm; omega) hb, d.b.trans hb,
  fun k hk hne => (hg.block k (Nat.lt_of_lt_of_le hk d.size) fun e => by have := hrow k e.symm; omega).trans (d.k k hk hne)⟩
set_option maxHeartbeats 1600000 in
set_option maxRecDepth 8000 in
theorem next_any (g : Nat) (n : Int) (w : World) (hs : Src w g 144) (hn : n ≤ 4611686018427387904) :
    Calls Tryz.prog 150 #[.pointer (some ⟨g, 0, none⟩), .int .i64 n] w fun e w' => ∃ r : Int, e = .returned (.int .i64 r) ∧ 0 ≤ r ∧ (1 ≤ n → r < n) ∧ Dr g 144 w w' := by
 by_cases h1 : n < 1
 · have d1 : decide (n < 1) = true := by simpa using h1
   go_enter Tryz.func150, Tryz.ntmps150
   go_wp2
   go_ret
   exact ⟨0, rfl, by omega, fun h => by omega, Dr.refl hs⟩
 · have d1 : decide (n < 1) = false := by simpa using h1
   obtain ⟨B, nb, cb, bs, pl, h, k, r, hbs, hpl, hnb, hbg⟩ := id hs
   have q0 : w.cell? ⟨g, 0, none⟩ = some (.slice B nb cb) := k.cell 0
   have q1 : w.cell? ⟨g, 1, none⟩ = some (.int .i64 pl) := k.cell 1
   have q2 : w.cell? ⟨g, 2, none⟩ = some (.int .u64 h) := k.cell 2
   have f2 := k.frozen 2
   go_enter Tryz.func150, Tryz.ntmps150
   go_wp2
   obtain ⟨H, hH⟩ : ∃ H, H = IntKind.u64.wrap (IntKind.u64.wrap (h * 6364136223846793005) + 1442695040888963407) := ⟨_, rfl⟩
   rw [← hH]
   have hsm := and_small (H / 8589934592)
   obtain ⟨X, hX⟩ : ∃ X, X = bits BinOp.and IntKind.u64 (H / 8589934592) 16777215 := ⟨_, rfl⟩
   rw [← hX] at hsm ⊢
   have W1 : wrap64 X = X := by unfold wrap64; omega
   rw [W1]
   obtain ⟨x1, x2⟩ := hsm
   obtain ⟨hd1, k1, r1⟩ := Dr.set k r hbs hpl hnb hbg 2 (.int .u64 H) (pl' := pl) (h' := H) (by simp) hpl
   clear q0 q1 q2 f2 hX
   obtain ⟨w1, hw1⟩ : ∃ W, W = w.setCell ⟨g, 2, none⟩ (.int .u64 H) := ⟨_, rfl⟩
   rw [← hw1] at k1 r1 hd1 ⊢
   have hN0 : (n == 0) = false := by simp; omega
   have hN1 : (n == -1) = false := by simp; omega
   have hN2 : ¬ n = 0 := by omega
   have HD := Lib.hid hd1
   have HBS := Lib.hid hbs
   have HBG := Lib.hid hbg
   have HR1 := Lib.hid r1
   clear hw1 hH hd1 r k hbg
   by_cases hpn : pl < nb
   · have dl : decide ((pl : Int) < (nb : Int)) = true := by simp; omega
     obtain ⟨gb, ob, rfl, hc⟩ := r1.2 (by omega)
     have hbl : pl < bs.length := by have := r1.1; rw [List.length_map] at this; omega
     have hcb := hc pl (.int .u8 bs[pl]) (by simp [hbl])
     obtain ⟨b1, b2⟩ := hbs _ (List.getElem_mem hbl)
     obtain ⟨bb, hbb⟩ : ∃ x, x = bs[pl] := ⟨_, rfl⟩
     rw [← hbb] at hcb b1 b2
     have i1 : (0 : Int) ≤ (pl : Int) := by omega
     have i2 : (pl : Int) < (nb : Int) := by omega
     have W2 : IntKind.i64.wrap bb = bb := by rw [IntWalk.i64_left]; unfold wrap64; omega
     have W4 : IntKind.i64.wrap (X + bb) = X + bb := by rw [IntWalk.i64_left]; unfold wrap64; omega
     have W5 : wrap64 ((pl : Int) + 1) = ((pl + 1 : Nat) : Int) := by unfold wrap64; omega
     have T1 := Int.tmod_eq_emod_of_nonneg (b := n) (show 0 ≤ X + bb by omega)
     clear hc hbs hbb r1
     go_wp2
     refine wp_obs 10 [[],[0],[0,1],[0,1,2],[],[4],[4,5],[4,5,6],[4,5,6,7],[0,1,2,3,4,5,6,7,8]] [VIs (.pointer (some ⟨g, 0, none⟩)), VIs (.pointer (some ⟨g, 0, none⟩)), VIs (.pointer (some ⟨g, 1, none⟩)), VIs (.int .i64 (pl)), VIs (.pointer (some ⟨g, 0, none⟩)), VIs (.pointer (some ⟨g, 0, none⟩)), VIs (.pointer (some ⟨g, 0, none⟩)), VIs (.slice (some ⟨gb, ob, none⟩) nb cb), VIs (.int .i64 (nb)), VIs (.bool true)] (fun w' => Blk w' g 144 #[.slice (some ⟨gb, ob, none⟩) nb cb, .int .i64 pl, .int .u64 H] ∧ w'.cell? ⟨gb, ob + pl, none⟩ = some (.int .u8 bb) ∧ Below w1.heap.size w1 w') (by kernel_rfl) (by kernel_rfl) (fun _ _ h hb => ⟨h.1.below hb h.1.lt, (hb.cell (World.block_lt_of_cell? _ _ h.2.1)).trans h.2.1, h.2.2.trans (hb.mono h.2.2.size)⟩) (⟨k1.drew, hcb, zG.drew⟩) (fun x => ?_)
     refine zS (fun w' hS hV K hK => ?_) ?_
     · obtain ⟨q0, q1, q2⟩ := hS.1.three; have qb := hS.2.1; go_simp; exact zO hK
     refine zS (fun w' hS hV K hK => ?_) ?_
     · have e0 := zQ hV 0; obtain ⟨q0, q1, q2⟩ := hS.1.three; have qb := hS.2.1; go_simp; exact zO hK
     refine zS (fun w' hS hV K hK => ?_) ?_
     · have e1 := zQ hV 1; obtain ⟨q0, q1, q2⟩ := hS.1.three; have qb := hS.2.1; go_simp; exact zO hK
     refine zS (fun w' hS hV K hK => ?_) ?_
     · have e2 := zQ hV 2; obtain ⟨q0, q1, q2⟩ := hS.1.three; have qb := hS.2.1; go_simp; exact zO hK
     refine zS (fun w' hS hV K hK => ?_) ?_
     · obtain ⟨q0, q1, q2⟩ := hS.1.three; have qb := hS.2.1; go_simp; exact zO hK
     refine zS (fun w' hS hV K hK => ?_) ?_
     · have e4 := zQ hV 4; obtain ⟨q0, q1, q2⟩ := hS.1.three; have qb := hS.2.1; go_simp; exact zO hK
     refine zS (fun w' hS hV K hK => ?_) ?_
     · have e5 := zQ hV 5; obtain ⟨q0, q1, q2⟩ := hS.1.three; have qb := hS.2.1; go_simp; exact zO hK
     refine zS (fun w' hS hV K hK => ?_) ?_
     · have e6 := zQ hV 6; obtain ⟨q0, q1, q2⟩ := hS.1.three; have qb := hS.2.1; go_simp; exact zO hK
     refine zS (fun w' hS hV K hK => ?_) ?_
     · have e7 := zQ hV 7; obtain ⟨q0, q1, q2⟩ := hS.1.three; have qb := hS.2.1; go_simp; exact zO hK
     refine zS (fun w' hS hV K hK => ?_) ?_
     · have e3 := zQ hV 3; have e8 := zQ hV 8; obtain ⟨q0, q1, q2⟩ := hS.1.three; have qb := hS.2.1; go_simp; exact zO hK
     refine fun w' hS hV => ?_
     have e0 := zT hV 0
     have e1 := zT hV 1
     have e2 := zT hV 2
     have e3 := zT hV 3
     have e4 := zT hV 4
     have e5 := zT hV 5
     have e6 := zT hV 6
     have e7 := zT hV 7
     have e8 := zT hV 8
     have e9 := zT hV 9
     simp only [e0, e1, e2, e3, e4, e5, e6, e7, e8, e9]
     clear e0 e1 e2 e3 e4 e5 e6 e7 e8 e9
     refine wpAny_done (by kernel_rfl) ?_ _
     obtain ⟨w2, rfl⟩ : ∃ W, W = w' := ⟨_, rfl⟩
     obtain ⟨k2, hcb2, hb2⟩ := hS
     have HR2 := Lib.hid (HR1.out.below hb2)
     have HD2 := Lib.hid (HD.out.trans (Dr.of_below HD.out.s' hb2))
     clear k1 hcb hb2
     go_wp2
     refine wp_obs 13 [[],[],[1],[1,2],[1,2,3],[],[5],[5,6],[5,6,7],[1,2,3,4,5,6,7,8],[1,2,3,4,5,6,7,8,9],[1,2,3,4,5,6,7,8,9,10],[0,1,2,3,4,5,6,7,8,9,10,11],[0,1,2,3,4,5,6,7,8,9,10,11,12]] [VIs (.int .i64 (X)), VIs (.pointer (some ⟨g, 0, none⟩)), VIs (.pointer (some ⟨g, 0, none⟩)), VIs (.pointer (some ⟨g, 0, none⟩)), VIs (.slice (some ⟨gb, ob, none⟩) nb cb), VIs (.pointer (some ⟨g, 0, none⟩)), VIs (.pointer (some ⟨g, 0, none⟩)), VIs (.pointer (some ⟨g, 1, none⟩)), VIs (.int .i64 (pl)), VIs (.pointer (some ⟨gb, ob + pl, none⟩)), VIs (.int .u8 bb), VIs (.int .i64 (bb)), VIs (.int .i64 (X + bb))] (fun w' => Blk w' g 144 #[.slice (some ⟨gb, ob, none⟩) nb cb, .int .i64 pl, .int .u64 H] ∧ w'.cell? ⟨gb, ob + pl, none⟩ = some (.int .u8 bb) ∧ Below w2.heap.size w2 w') (by kernel_rfl) (by kernel_rfl) (fun _ _ h hb => ⟨h.1.below hb h.1.lt, (hb.cell (World.block_lt_of_cell? _ _ h.2.1)).trans h.2.1, h.2.2.trans (hb.mono h.2.2.size)⟩) (⟨k2.drew, hcb2, zG.drew⟩) (fun x => ?_)
     refine zS (fun w' hS hV K hK => ?_) ?_
     · obtain ⟨q0, q1, q2⟩ := hS.1.three; have qb := hS.2.1; go_simp; exact zO hK
     refine zS (fun w' hS hV K hK => ?_) ?_
     · obtain ⟨q0, q1, q2⟩ := hS.1.three; have qb := hS.2.1; go_simp; exact zO hK
     refine zS (fun w' hS hV K hK => ?_) ?_
     · have e1 := zQ hV 1; obtain ⟨q0, q1, q2⟩ := hS.1.three; have qb := hS.2.1; go_simp; exact zO hK
     refine zS (fun w' hS hV K hK => ?_) ?_
     · have e2 := zQ hV 2; obtain ⟨q0, q1, q2⟩ := hS.1.three; have qb := hS.2.1; go_simp; exact zO hK
     refine zS (fun w' hS hV K hK => ?_) ?_
     · have e3 := zQ hV 3; obtain ⟨q0, q1, q2⟩ := hS.1.three; have qb := hS.2.1; go_simp; exact zO hK
     refine zS (fun w' hS hV K hK => ?_) ?_
     · obtain ⟨q0, q1, q2⟩ := hS.1.three; have qb := hS.2.1; go_simp; exact zO hK
     refine zS (fun w' hS hV K hK => ?_) ?_
     · have e5 := zQ hV 5; obtain ⟨q0, q1, q2⟩ := hS.1.three; have qb := hS.2.1; go_simp; exact zO hK
     refine zS (fun w' hS hV K hK => ?_) ?_
     · have e6 := zQ hV 6; obtain ⟨q0, q1, q2⟩ := hS.1.three; have qb := hS.2.1; go_simp; exact zO hK
     refine zS (fun w' hS hV K hK => ?_) ?_
     · have e7 := zQ hV 7; obtain ⟨q0, q1, q2⟩ := hS.1.three; have qb := hS.2.1; go_simp; exact zO hK
     refine zS (fun w' hS hV K hK => ?_) ?_
     · have e4 := zQ hV 4; have e8 := zQ hV 8; obtain ⟨q0, q1, q2⟩ := hS.1.three; have qb := hS.2.1; go_simp; exact zO hK
     refine zS (fun w' hS hV K hK => ?_) ?_
     · have e9 := zQ hV 9; obtain ⟨q0, q1, q2⟩ := hS.1.three; have qb := hS.2.1; go_simp; exact zO hK
     refine zS (fun w' hS hV K hK => ?_) ?_
     · have e10 := zQ hV 10; obtain ⟨q0, q1, q2⟩ := hS.1.three; have qb := hS.2.1; go_simp; exact zO hK
     refine zS (fun w' hS hV K hK => ?_) ?_
     · have e0 := zQ hV 0; have e11 := zQ hV 11; obtain ⟨q0, q1, q2⟩ := hS.1.three; have qb := hS.2.1; go_simp; exact zO hK
     refine fun w' hS hV => ?_
     have e0 := zT hV 0
     have e1 := zT hV 1
     have e2 := zT hV 2
     have e3 := zT hV 3
     have e4 := zT hV 4
     have e5 := zT hV 5
     have e6 := zT hV 6
     have e7 := zT hV 7
     have e8 := zT hV 8
     have e9 := zT hV 9
     have e10 := zT hV 10
     have e11 := zT hV 11
     have e12 := zT hV 12
     simp only [e0, e1, e2, e3, e4, e5, e6, e7, e8, e9, e10, e11, e12]
     clear e0 e1 e2 e3 e4 e5 e6 e7 e8 e9 e10 e11 e12
     refine any_one (j := 13) (by kernel_rfl) (Eq.trans (by simp only [zA, zB, zC]; exact rfl) rfl) (fun K hK => ?_)
     go_simp
     refine hK.out _ _ (wpAny_done (by kernel_rfl) ?_ _)
     obtain ⟨w3, rfl⟩ : ∃ W, W = w' := ⟨_, rfl⟩
     obtain ⟨k3, hcb3, hb3⟩ := hS
     have HR3 := Lib.hid (HR2.out.below hb3)
     have HD3 := Lib.hid (HD2.out.trans (Dr.of_below HD2.out.s' hb3))
     obtain ⟨hd4, k4, r4⟩ := Dr.set k3 HR3.out HBS.out hpl hnb HBG.out 1 (.int .i64 ((pl + 1 : Nat) : Int)) (pl' := pl + 1) (h' := H) (by simp) hpn
     have HD4 := Lib.hid (HD3.out.trans hd4)
     have q1 : w3.cell? ⟨g, 1, none⟩ = some (.int .i64 pl) := k3.cell 1
     have f1 := k3.frozen 1
     clear k2 hcb2 hb3 hd4 k4 r4
     go_wp2
     go_ret
     refine ⟨(X + bb) % n, rfl, Int.emod_nonneg _ hN2, fun hn => Int.emod_lt_of_pos _ (by omega), ?_⟩
     first
      | exact HD4.out
      | (rw [W5]; exact HD4.out)
   · have dl : decide ((pl : Int) < (nb : Int)) = false := by simp; omega
     have T1 := Int.tmod_eq_emod_of_nonneg (b := n) (show 0 ≤ X by omega)
     clear hbs r1
     go_wp2
     refine wp_obs 10 [[],[0],[0,1],[0,1,2],[],[4],[4,5],[4,5,6],[4,5,6,7],[0,1,2,3,4,5,6,7,8]] [VIs (.pointer (some ⟨g, 0, none⟩)), VIs (.pointer (some ⟨g, 0, none⟩)), VIs (.pointer (some ⟨g, 1, none⟩)), VIs (.int .i64 (pl)), VIs (.pointer (some ⟨g, 0, none⟩)), VIs (.pointer (some ⟨g, 0, none⟩)), VIs (.pointer (some ⟨g, 0, none⟩)), VIs (.slice B nb cb), VIs (.int .i64 (nb)), VIs (.bool false)] (fun w' => Blk w' g 144 #[.slice B nb cb, .int .i64 pl, .int .u64 H] ∧ Below w1.heap.size w1 w') (by kernel_rfl) (by kernel_rfl) (fun _ _ h hb => ⟨h.1.below hb h.1.lt, h.2.trans (hb.mono h.2.size)⟩) (⟨k1.drew, zG.drew⟩) (fun x => ?_)
     refine zS (fun w' hS hV K hK => ?_) ?_
     · obtain ⟨q0, q1, q2⟩ := hS.1.three; go_simp; exact zO hK
     refine zS (fun w' hS hV K hK => ?_) ?_
     · have e0 := zQ hV 0; obtain ⟨q0, q1, q2⟩ := hS.1.three; go_simp; exact zO hK
     refine zS (fun w' hS hV K hK => ?_) ?_
     · have e1 := zQ hV 1; obtain ⟨q0, q1, q2⟩ := hS.1.three; go_simp; exact zO hK
     refine zS (fun w' hS hV K hK => ?_) ?_
     · have e2 := zQ hV 2; obtain ⟨q0, q1, q2⟩ := hS.1.three; go_simp; exact zO hK
     refine zS (fun w' hS hV K hK => ?_) ?_
     · obtain ⟨q0, q1, q2⟩ := hS.1.three; go_simp; exact zO hK
     refine zS (fun w' hS hV K hK => ?_) ?_
     · have e4 := zQ hV 4; obtain ⟨q0, q1, q2⟩ := hS.1.three; go_simp; exact zO hK
     refine zS (fun w' hS hV K hK => ?_) ?_
     · have e5 := zQ hV 5; obtain ⟨q0, q1, q2⟩ := hS.1.three; go_simp; exact zO hK
     refine zS (fun w' hS hV K hK => ?_) ?_
     · have e6 := zQ hV 6; obtain ⟨q0, q1, q2⟩ := hS.1.three; go_simp; exact zO hK
     refine zS (fun w' hS hV K hK => ?_) ?_
     · have e7 := zQ hV 7; obtain ⟨q0, q1, q2⟩ := hS.1.three; go_simp; exact zO hK
     refine zS (fun w' hS hV K hK => ?_) ?_
     · have e3 := zQ hV 3; have e8 := zQ hV 8; obtain ⟨q0, q1, q2⟩ := hS.1.three; go_simp; exact zO hK
     refine fun w' hS hV => ?_
     have e0 := zT hV 0
     have e1 := zT hV 1
     have e2 := zT hV 2
     have e3 := zT hV 3
     have e4 := zT hV 4
     have e5 := zT hV 5
     have e6 := zT hV 6
     have e7 := zT hV 7
     have e8 := zT hV 8
     have e9 := zT hV 9
     simp only [e0, e1, e2, e3, e4, e5, e6, e7, e8, e9]
     clear e0 e1 e2 e3 e4 e5 e6 e7 e8 e9
     refine wpAny_done (by kernel_rfl) ?_ _
     obtain ⟨w2, rfl⟩ : ∃ W, W = w' := ⟨_, rfl⟩
     obtain ⟨k2, hb2⟩ := hS
     have HD2 := Lib.hid (HD.out.trans (Dr.of_below HD.out.s' hb2))
     clear k1 hb2 k2
     go_wp2
     go_ret
     exact ⟨X % n, rfl, Int.emod_nonneg _ hN2, fun hn => Int.emod_lt_of_pos _ (by omega), HD2.out⟩
/-- A world of the first B blocks. -/
def cutW (w : World) (B : Nat) : World := { w with heap := w.heap.extract 0 B }
theorem cutW_size {w : World} {B : Nat} (h : B ≤ w.heap.size) : (cutW w B).heap.size = B := by simp [cutW]; omega
theorem cutW_below {w : World} {B : Nat} (h : B ≤ w.heap.size) : Below (cutW w B).heap.size (cutW w B) w := by
 refine ⟨rfl, rfl, rfl, by rw [cutW_size h]; exact h, fun k hk => ?_⟩
 rw [cutW_size h] at hk
 simp [cutW, Array.getElem?_extract, hk]
 intro h2
 omega
theorem Own.mk_ {w : World} {E : TypeId} {B : Nat} {A : Option Addr} {n c : Nat} {us : List Value} (h : Own w B E A n c us) (hB : B ≤ w.heap.size) : Mk (cutW w B) w E A n c us := ⟨cutW_below hB, by rw [cutW_size hB]; exact h⟩
theorem Mk.own_ {w0 w : World} {E : TypeId} {B : Nat} {A : Option Addr} {n c : Nat} {us : List Value} (h : Mk w0 w E A n c us) (hB : w0.heap.size = B) : Own w B E A n c us := by rw [← hB]; exact h.2
set_option maxHeartbeats 1600000 in
set_option maxRecDepth 8000 in
theorem from__any (B : Option Addr) (nb cb : Nat) (bs : List Int) (w : World) (hnb : nb ≤ 4096) (r : Rd w B nb (bs.map (Value.int .u8))) (hbs : ∀ b ∈ bs, 0 ≤ b ∧ b < 256) (hbg : ∀ a, B = some a → a.block < w.heap.size) :
    Calls Tryz.prog 73 #[.slice B nb cb] w fun e w' => ∃ g, e = .returned (.pointer (some ⟨g, 0, none⟩)) ∧ w.heap.size ≤ g ∧ Src w' g 144 ∧ Below w.heap.size w w' := by
 have W0 : wrap64 (nb : Int) = nb := by unfold wrap64; omega
 go_enter Tryz.func73, Tryz.ntmps73
 go_wp2
 go_loopw [4] (fun i wr => ∃ (j : Nat) (h : Int), j ≤ nb ∧ i = .int .i64 j ∧ Blk wr w.heap.size 144 #[.slice B nb cb, .int .i64 0, .int .u64 h] ∧ Below w.heap.size w wr) (fun i _ => nb - (intOf i).toNat)
 case atStart => exact ⟨0, _, by omega, rfl, Blk.new _ _ _, zG.alloc (Nat.le_refl _) _⟩
 case round =>
  obtain ⟨j, h, hj, rfl, k1, hb1⟩ := hrel
  by_cases hlt : j < nb
  · have d1 : decide ((j : Int) < (nb : Int)) = true := by simp; omega
    have d2 : decide ((j : Int) < 4096) = true := by simp; omega
    obtain ⟨gb, ob, rfl, hc⟩ := (r.below hb1).2 (by omega)
    have hbl : j < bs.length := by have := r.1; rw [List.length_map] at this; omega
    have hcb := hc j (.int .u8 bs[j]) (by simp [hbl])
    obtain ⟨b1, b2⟩ := hbs _ (List.getElem_mem hbl)
    obtain ⟨bb, hbb⟩ : ∃ x, x = bs[j] := ⟨_, rfl⟩
    rw [← hbb] at hcb b1 b2
    have i1 : (0 : Int) ≤ (j : Int) := by omega
    have i2 : (j : Int) < (nb : Int) := by omega
    have W2 : IntKind.u64.wrap bb = bb := IntWalk.u64_in _ ⟨b1, by omega⟩
    clear hc hbb
    go_wp2
    refine wp_obs 15 [[],[],[1],[1,2],[1,2,3],[1,2,3,4],[],[],[6,7],[6,7,8],[6,7,8,9],[1,2,3,4,5,6,7,8,9,10],[1,2,3,4,5,6,7,8,9,10,11],[0],[0,13],[0,1,2,3,4,5,6,7,8,9,10,11,12,13,14]] [VIs (.pointer (some ⟨w.heap.size, 0, none⟩)), VIs (.pointer (some ⟨w.heap.size, 0, none⟩)), VIs (.pointer (some ⟨w.heap.size, 0, none⟩)), VIs (.pointer (some ⟨w.heap.size, 2, none⟩)), VIs (.int .u64 (h)), VIs (.int .u64 (IntKind.u64.wrap (h * 1099511628211))), VIs (.slice (some ⟨gb, ob, none⟩) nb cb), VIs (.int .i64 (j)), VIs (.pointer (some ⟨gb, ob + j, none⟩)), VIs (.int .u8 bb), VIs (.int .u64 (bb)), VIs (.int .u64 (IntKind.u64.wrap (IntKind.u64.wrap (h * 1099511628211) + bb))), VIs (.int .u64 (IntKind.u64.wrap (IntKind.u64.wrap (IntKind.u64.wrap (h * 1099511628211) + bb) + 11))), VIs (.pointer (some ⟨w.heap.size, 0, none⟩)), VIs (.pointer (some ⟨w.heap.size, 2, none⟩))] (fun w' => Blk w' w.heap.size 144 #[.slice (some ⟨gb, ob, none⟩) nb cb, .int .i64 0, .int .u64 h] ∧ w'.cell? ⟨gb, ob + j, none⟩ = some (.int .u8 bb) ∧ Below wr.heap.size wr w') (by kernel_rfl) (by kernel_rfl) (fun _ _ h hb => ⟨h.1.below hb h.1.lt, (hb.cell (World.block_lt_of_cell? _ _ h.2.1)).trans h.2.1, h.2.2.trans (hb.mono h.2.2.size)⟩) (⟨k1.drew, hcb, zG.drew⟩) (fun x => ?_)
    refine zS (fun w' hS hV K hK => ?_) ?_
    · obtain ⟨q0, q1, q2⟩ := hS.1.three; have qb := hS.2.1; go_simp; exact zO hK
    refine zS (fun w' hS hV K hK => ?_) ?_
    · obtain ⟨q0, q1, q2⟩ := hS.1.three; have qb := hS.2.1; go_simp; exact zO hK
    refine zS (fun w' hS hV K hK => ?_) ?_
    · have e1 := zQ hV 1; obtain ⟨q0, q1, q2⟩ := hS.1.three; have qb := hS.2.1; go_simp; exact zO hK
    refine zS (fun w' hS hV K hK => ?_) ?_
    · have e2 := zQ hV 2; obtain ⟨q0, q1, q2⟩ := hS.1.three; have qb := hS.2.1; go_simp; exact zO hK
    refine zS (fun w' hS hV K hK => ?_) ?_
    · have e3 := zQ hV 3; obtain ⟨q0, q1, q2⟩ := hS.1.three; have qb := hS.2.1; go_simp; exact zO hK
    refine zS (fun w' hS hV K hK => ?_) ?_
    · have e4 := zQ hV 4; obtain ⟨q0, q1, q2⟩ := hS.1.three; have qb := hS.2.1; go_simp; exact zO hK
    refine zS (fun w' hS hV K hK => ?_) ?_
    · obtain ⟨q0, q1, q2⟩ := hS.1.three; have qb := hS.2.1; go_simp; exact zO hK
    refine zS (fun w' hS hV K hK => ?_) ?_
    · obtain ⟨q0, q1, q2⟩ := hS.1.three; have qb := hS.2.1; go_simp; exact zO hK
    refine zS (fun w' hS hV K hK => ?_) ?_
    · have e6 := zQ hV 6; have e7 := zQ hV 7; obtain ⟨q0, q1, q2⟩ := hS.1.three; have qb := hS.2.1; go_simp; exact zO hK
    refine zS (fun w' hS hV K hK => ?_) ?_
    · have e8 := zQ hV 8; obtain ⟨q0, q1, q2⟩ := hS.1.three; have qb := hS.2.1; go_simp; exact zO hK
    refine zS (fun w' hS hV K hK => ?_) ?_
    · have e9 := zQ hV 9; obtain ⟨q0, q1, q2⟩ := hS.1.three; have qb := hS.2.1; go_simp; exact zO hK
    refine zS (fun w' hS hV K hK => ?_) ?_
    · have e5 := zQ hV 5; have e10 := zQ hV 10; obtain ⟨q0, q1, q2⟩ := hS.1.three; have qb := hS.2.1; go_simp; exact zO hK
    refine zS (fun w' hS hV K hK => ?_) ?_
    · have e11 := zQ hV 11; obtain ⟨q0, q1, q2⟩ := hS.1.three; have qb := hS.2.1; go_simp; exact zO hK
    refine zS (fun w' hS hV K hK => ?_) ?_
    · have e0 := zQ hV 0; obtain ⟨q0, q1, q2⟩ := hS.1.three; have qb := hS.2.1; go_simp; exact zO hK
    refine zS (fun w' hS hV K hK => ?_) ?_
    · have e13 := zQ hV 13; obtain ⟨q0, q1, q2⟩ := hS.1.three; have qb := hS.2.1; go_simp; exact zO hK
    refine fun w' hS hV => ?_
    have e0 := zT hV 0
    have e1 := zT hV 1
    have e2 := zT hV 2
    have e3 := zT hV 3
    have e4 := zT hV 4
    have e5 := zT hV 5
    have e6 := zT hV 6
    have e7 := zT hV 7
    have e8 := zT hV 8
    have e9 := zT hV 9
    have e10 := zT hV 10
    have e11 := zT hV 11
    have e12 := zT hV 12
    have e13 := zT hV 13
    have e14 := zT hV 14
    simp only [e0, e1, e2, e3, e4, e5, e6, e7, e8, e9, e10, e11, e12, e13, e14]
    clear e0 e1 e2 e3 e4 e5 e6 e7 e8 e9 e10 e11 e12 e13 e14
    obtain ⟨k2, _, hb2⟩ := hS
    have q2 := k2.three.2.2
    have f2 := k2.frozen 2
    refine any_one (j := 15) (by kernel_rfl) (Eq.trans (by simp only [zA, zB, zC]; exact rfl) rfl) (fun K hK => ?_)
    go_simp
    refine hK.out _ _ (wpAny_done (by kernel_rfl) ?_ _)
    have k3 := k2.set_ 2 (.int .u64 (IntKind.u64.wrap (IntKind.u64.wrap (IntKind.u64.wrap (h * 1099511628211) + bb) + 11)))
    simp only [zD, zE, zF] at k3
    have hb3 := (hb1.trans (hb2.mono hb1.size)).setCell (p := ⟨w.heap.size, 2, none⟩) (Nat.le_refl _) (.int .u64 (IntKind.u64.wrap (IntKind.u64.wrap (IntKind.u64.wrap (h * 1099511628211) + bb) + 11)))
    clear q2 f2 k2 hb2 k1
    go_wp2
    go_roundw
    case rel => exact ⟨j + 1, _, by omega, by go_num, k3, hb3⟩
    case measure => simp [intOf]; omega
  · have d1 : decide ((j : Int) < (nb : Int)) = false := by simp; omega
    go_wp2
    go_ret
    exact ⟨_, rfl, Nat.le_refl _, ⟨B, nb, cb, bs, 0, h, k1, r.below hb1, hbs, by omega, hnb, hbg⟩, hb1⟩
set_option maxHeartbeats 1600000 in
set_option maxRecDepth 8000 in
theorem nextList_any (g : Nat) (p : Int) (n : Nat) (w : World) (hs : Src w g 144) (hp : p ≤ 4611686018427387904) (hn : n ≤ 1048576) :
    Calls Tryz.prog 171 #[.pointer (some ⟨g, 0, none⟩), .int .i64 p, .int .i64 n] w fun e w' => ∃ (A : Option Addr) (c : Nat) (xs : List Int), e = .returned (.slice A n c) ∧ xs.length = n ∧ (∀ x ∈ xs, 0 ≤ x ∧ (1 ≤ p → x < p)) ∧ Own w' w.heap.size 2 A n c (ints xs) ∧ Dr g 144 w w' := by
 have hM0 := Mk.lit (E := 2) (Below.refl w.heap.size w) #[] (by simp)
 have hd0 := (Dr.refl hs).alloc (.cells #[] 2)
 go_enter Tryz.func171, Tryz.ntmps171
 go_wp2
 go_loopw [7, 2] (fun out i wr => ∃ (j : Nat) (A : Option Addr) (c : Nat) (xs : List Int), j ≤ n ∧ i = .int .i64 ((n - j : Nat) : Int) ∧ out = .slice A j c ∧ xs.length = j ∧ (∀ x ∈ xs, 0 ≤ x ∧ (1 ≤ p → x < p)) ∧ Own wr w.heap.size 2 A j c (ints xs) ∧ Dr g 144 w wr) (fun _ i _ => (intOf i).toNat)
 case atStart => exact ⟨0, _, _, [], by omega, by simp, rfl, rfl, fun x hx => (by cases hx), by simpa [ints] using hM0.2, hd0⟩
 case round =>
  obtain ⟨j, A, c, xs, hj, rfl, rfl, hl, hx, hO, hd⟩ := hrel
  clear hM0 hd0
  by_cases hlt : j < n
  · have d1 : decide (0 < ((n - j : Nat) : Int)) = true := by simp; omega
    have W5 : wrap64 (((n - j : Nat) : Int) - 1) = ((n - (j + 1) : Nat) : Int) := by unfold wrap64; omega
    have hnx := next_any g p wr hd.s' hp
    have HX := Lib.hid hx
    have HO := Lib.hid hO
    have HD := Lib.hid hd
    clear hx hO hd
    go_wp2_with (first
     | (go_at_call 150; refine hnx.mono ?_; rintro e w' ⟨r, rfl, hr1, hr2, hd2⟩
        have HO2 := Lib.hid (HO.out.dr hd2 (by decide))
        have HD2 := Lib.hid (HD.out.trans hd2)
        clear hnx hd2)
     | (at_builtin; refine wpList_app1 (cutW w' w.heap.size) w' 24 2 _ _ Tryz.underlying24 info_i rfl (by omega) rfl _ _ rfl A j c _ _ (HO2.out.mk_ HD2.out.size) (by omega) rfl rfl rfl ?_; intro A2 c2 w2 hM2 hg2 _))
    have hO3 := hM2.own_ (cutW_size HD2.out.size)
    have hd3 := HD2.out.grown HO2.out hg2
    clear hM2 hg2
    go_roundw
    case rel => exact ⟨j + 1, A2, c2, xs ++ [r], by omega, by go_num, rfl, by simp [hl], fun x hx => by
     rcases List.mem_append.1 hx with hx | hx
     · exact HX.out x hx
     · rw [List.mem_singleton.1 hx]; exact ⟨hr1, hr2⟩, by simpa [ints] using hO3, hd3⟩
    case measure => simp [intOf]; omega
  · obtain rfl : j = n := by omega
    have d1 : decide (0 < ((j - j : Nat) : Int)) = false := by simp
    go_wp2
    go_ret
    exact ⟨A, c, xs, rfl, hl, hx, hO, hd⟩
set_option maxHeartbeats 800000 in
set_option maxRecDepth 8000 in
theorem pick_any (g gl : Nat) (xs : List Int) (w : World) (hs : Src w g 144) (kl : Blk w gl 2 (ints xs).toArray) (h0 : 0 < xs.length) (hl : xs.length ≤ 1000) :
    Calls Tryz.prog 184 #[.pointer (some ⟨g, 0, none⟩), .slice (some ⟨gl, 0, none⟩) xs.length xs.length] w fun e w' => ∃ r : Int, r ∈ xs ∧ e = .returned (.int .i64 r) ∧ Dr g 144 w w' := by
 have hnx := next_any g (xs.length : Int) w hs (by omega)
 go_enter Tryz.func184, Tryz.ntmps184
 go_wp2_with fail
 refine hnx.mono ?_
 rintro e w2 ⟨r, rfl, hr1, hr2, hd⟩
 have hr3 := hr2 (by omega)
 obtain ⟨rn, rfl⟩ : ∃ rn : Nat, r = rn := ⟨r.toNat, by omega⟩
 have hlt : rn < xs.length := by omega
 have kl2 := kl.dr hd (by decide)
 have hc : w2.cell? ⟨gl, rn, none⟩ = some (.int .i64 xs[rn]) := by
  rw [kl2.cell]
  simp [ints, hlt]
 have hmem := List.getElem_mem hlt
 obtain ⟨x, hx⟩ : ∃ x, x = xs[rn] := ⟨_, rfl⟩
 rw [← hx] at hc hmem
 clear hnx hx
 go_wp2
 go_ret
 exact ⟨x, hmem, rfl, hd⟩
set_option maxHeartbeats 800000 in
set_option maxRecDepth 8000 in
theorem drawPrime_any (g : Nat) (w : World) (hs : Src w g 144) :
    Calls Tryz.prog 269 #[.pointer (some ⟨g, 0, none⟩)] w fun e w' => ∃ r : Int, 3 ≤ r ∧ r ≤ 13 ∧ e = .returned (.int .i64 r) ∧ Dr g 144 w w' := by
 have hd1 := (Dr.refl hs).alloc (.cells #[.int .i64 3, .int .i64 5, .int .i64 7, .int .i64 11, .int .i64 13, .int .i64 3, .int .i64 5, .int .i64 7] 2)
 have hpk := pick_any g w.heap.size [3, 5, 7, 11, 13, 3, 5, 7] _ hd1.s' (Blk.new w 2 _) (by decide) (by decide)
 go_enter Tryz.func269, Tryz.ntmps269
 go_wp2_with fail
 refine hpk.mono ?_
 rintro e w2 ⟨r, hr, rfl, hd⟩
 go_wp2
 go_ret
 refine ⟨r, ?_, ?_, rfl, hd1.trans hd⟩
 · simp at hr; omega
 · simp at hr; omega
theorem ints4 (a b c d : Int) : (ints [a, b, c, d]).toArray = #[.int .i64 a, .int .i64 b, .int .i64 c, .int .i64 d] := rfl
theorem ints2 (a b : Int) : (ints [a, b]).toArray = #[.int .i64 a, .int .i64 b] := rfl
theorem Dr.setNew {w wr : World} {g b : Nat} {T : TypeId} (d : Dr g T w wr) (hb : w.heap.size ≤ b) (i : Nat) (u : Value) : Dr g T w (wr.setCell ⟨b, i, none⟩ u) := by
 have hlt := d.s.lt
 have hfar : ∀ k, k ≠ b → (wr.setCell ⟨b, i, none⟩ u).heap[k]? = wr.heap[k]? := fun k hk => Below.heap_setCell wr ⟨b, i, none⟩ _ k hk
 have hB : Below g wr (wr.setCell ⟨b, i, none⟩ u) := zG.setCell (p := ⟨b, i, none⟩) (Nat.le_trans (Nat.le_of_lt hlt) hb) _
 exact ⟨d.s, d.s'.keep (hfar g (by omega)) hB, d.b.trans hB, fun k hk hne => (hfar k (by omega)).trans (d.k k hk hne)⟩
set_option maxHeartbeats 3200000 in
set_option maxRecDepth 8000 in
theorem l03Any_any (g : Nat) (most : Nat) (w : World) (hs : Src w g 144) (hm1 : 1 ≤ most) (hm2 : most ≤ 100) :
    Calls Tryz.prog 239 #[.pointer (some ⟨g, 0, none⟩), .int .i64 most] w fun e w' => ∃ (P : Int) (A : Option Addr) (n c : Nat) (xs : List Int), e = .returned (.agg #[.int .i64 P, .slice A n c]) ∧ 3 ≤ P ∧ P ≤ 13 ∧ 1 ≤ n ∧ n ≤ most ∧ Own w' w.heap.size 2 A n c (ints xs) ∧ Dr g 144 w w' := by
 have hd1 := (Dr.refl hs).alloc (.cells #[.int .i64 0, .slice none 0 0] 26)
 have k1 : Blk (w.alloc (.cells #[.int .i64 0, .slice none 0 0] 26)) w.heap.size 26 #[.int .i64 0, .slice none 0 0] := Blk.new _ _ _
 have hdp := drawPrime_any g (w.alloc (.cells #[.int .i64 0, .slice none 0 0] 26)) hd1.s'
 have hsw : (w.alloc (.cells #[.int .i64 0, .slice none 0 0] 26)).heap.size = w.heap.size + 1 := by simp
 go_enter Tryz.func239, Tryz.ntmps239
 go_wp2_with fail
 refine hdp.mono ?_
 rintro e w2 ⟨p, hp1, hp2, rfl, hd2⟩
 have hd2' := hd1.trans hd2
 have k2 := k1.dr hd2 (by decide)
 have hs2 := hd2.size
 have hd3 := hd2'.alloc (.cells #[.int .i64 p, .slice none 0 0] 26)
 have k3 := k2.alloc (.cells #[.int .i64 p, .slice none 0 0] 26)
 have kb3 : Blk (w2.alloc (.cells #[.int .i64 p, .slice none 0 0] 26)) w2.heap.size 26 #[.int .i64 p, .slice none 0 0] := Blk.new _ _ _
 have hnx := fun w' (h : Src w' g 144) => next_any g (most : Int) w' h (by omega)
 have hsw2 : w.heap.size + 1 ≤ w2.heap.size := by omega
 clear hdp hd1 k1 hd2 hd2' k2 hsw hs2
 go_wp2_with fail
 refine (hnx _ hd3.s').mono ?_
 rintro e w3 ⟨r, rfl, hr1, hr2, hd4⟩
 have hr3 := hr2 (by omega)
 obtain ⟨N, hN⟩ : ∃ N : Nat, (N : Int) = 1 + r := ⟨(1 + r).toNat, by omega⟩
 have hd5 := hd3.trans hd4
 have k5 := k3.dr hd4 (by decide)
 have kb5 := kb3.dr hd4 (by decide)
 have WN : wrap64 (1 + r) = (N : Int) := by unfold wrap64; omega
 have WP : wrap64 (p - 1) = p - 1 := by unfold wrap64; omega
 have hnxp := fun w' (h : Src w' g 144) => next_any g (p - 1) w' h (by omega)
 have hnx10 := fun w' (h : Src w' g 144) => next_any g 10 w' h (by omega)
 clear hnx hd3 k3 kb3 hd4
 go_wp2
 go_loopw [7] (fun q wr => ∃ (j m : Nat) (A : Option Addr) (c : Nat) (xs : List Int), j + m = N ∧ q = .int .i64 m ∧ Blk wr w.heap.size 26 #[.int .i64 0, .slice none 0 0] ∧ Blk wr w2.heap.size 26 #[.int .i64 p, .slice A j c] ∧ Own wr w.heap.size 2 A j c (ints xs) ∧ Dr g 144 w wr) (fun q _ => (intOf q).toNat)
 case atStart => exact ⟨0, N, none, 0, [], by omega, by rw [hN], k5, kb5, World.ownsRow_nil _ _ _ _, hd5⟩
 case round =>
  obtain ⟨j, m, A, c, xs, hjm, rfl, k4, k6, hO, hd⟩ := hrel
  clear k5 kb5 hd5
  cases m with
  | zero =>
   have hjN : j = N := by omega
   subst hjN
   obtain ⟨q0, q1⟩ := k6.two
   obtain ⟨p0, p1⟩ := k4.two
   have f0 := k4.frozen 0
   have f1 := k4.frozen 1
   go_wp2
   have kz := k4.set_ 0 (.int .i64 p)
   refine bodyPost_ret (v := .agg #[.int .i64 p, .slice A j c]) (by simp [results, Tryz.results239, go_sem, p0, p1]) rfl ⟨p, A, j, c, xs, rfl, hp1, hp2, by omega, by omega, (hO.far k4 (by decide) 0 _).far kz (by decide) 1 _, (hd.setNew (Nat.le_refl _) 0 _).setNew (Nat.le_refl _) 1 _⟩
  | succ m =>
   have d1 : decide (0 < ((m + 1 : Nat) : Int)) = true := by rw [decide_eq_true_eq]; omega
   have WM : wrap64 (((m + 1 : Nat) : Int) - 1) = (m : Int) := by unfold wrap64; omega
   have HO := Lib.hid hO
   clear hO
   go_wp2_with fail
   refine (hnxp _ hd.s').mono ?_
   rintro e wA ⟨ra, rfl, ra1, ra2, hdA⟩
   have ra3 := ra2 (by omega)
   have WA : wrap64 (1 + ra) = 1 + ra := by unfold wrap64; omega
   have hdA' := (Dr.refl hdA.s').alloc (.cells #[.int .i64 1, .int .i64 (p - 1), .int .i64 (1 + ra), .int .i64 1] 2)
   have hpk := pick_any g wA.heap.size [1, p - 1, 1 + ra, 1] _ hdA'.s' (by rw [ints4]; exact Blk.new wA 2 _) (by simp) (by simp)
   go_wp2_with fail
   refine hpk.mono ?_
   rintro e wB ⟨rb, _, rfl, hdB⟩
   go_wp2_with fail
   refine (hnx10 _ hdB.s').mono ?_
   rintro e wC ⟨rc, rfl, rc1, rc2, hdC⟩
   have hdAC := ((hdA.trans hdA').trans hdB).trans hdC
   have HD2 := Lib.hid (hd.trans hdAC)
   have HO2 := Lib.hid (HO.out.dr hdAC (by decide))
   have k4C := k4.dr hdAC (by decide)
   have k6C := k6.dr hdAC (by decide)
   obtain ⟨q0, q1⟩ := k6C.two
   clear hd hdA hdA' hdB hdC hdAC hpk hnxp hnx10 k4 k6
   by_cases hrc : rc = 0
   · have er : (rc == 0) = true := by simp [hrc]
     go_wp2_with (at_builtin; refine wpList_app1 (cutW wC w.heap.size) wC 24 2 _ _ Tryz.underlying24 info_i rfl (by omega) rfl _ _ rfl A j c _ _ (HO2.out.mk_ HD2.out.size) (by omega) rfl rfl rfl ?_; intro A8 c8 w8 hM8 hg8 _
                  have k4a := k4C.grown hg8 (HO2.out.ne_blk k4C (by decide))
                  have k6a := k6C.grown hg8 (HO2.out.ne_blk k6C (by decide))
                  have hO3 := hM8.own_ (cutW_size HD2.out.size)
                  have hd3 := HD2.out.grown HO2.out hg8
                  have f8 := k6a.frozen 1
                  have f9 := k6a.cell 1
                  simp only [zA, zC, zB] at f9)
     have k4b := k4a.far (p := ⟨w2.heap.size, 1, none⟩) (show w.heap.size ≠ w2.heap.size by omega) (.slice A8 (j + 1) c8)
     have k6b := k6a.set_ 1 (.slice A8 (j + 1) c8)
     have hO4 := hO3.far k6a (by decide) 1 (.slice A8 (j + 1) c8)
     have hd4 := hd3.setNew (b := w2.heap.size) (by omega) 1 (.slice A8 (j + 1) c8)
     simp only [zD, zE, zF] at k6b
     clear k4a k6a hO3 hd3 f8 f9 hM8 hg8 k4C k6C
     go_roundw
     case rel => exact ⟨j + 1, m, A8, c8, xs ++ [0], by omega, by go_num, k4b, k6b, by simpa [ints] using hO4, hd4⟩
     case measure => simp [intOf]
   · have er : (rc == 0) = false := by simp [hrc]
     go_wp2_with (at_builtin; refine wpList_app1 (cutW wC w.heap.size) wC 24 2 _ _ Tryz.underlying24 info_i rfl (by omega) rfl _ _ rfl A j c _ _ (HO2.out.mk_ HD2.out.size) (by omega) rfl rfl rfl ?_; intro A8 c8 w8 hM8 hg8 _
                  have k4a := k4C.grown hg8 (HO2.out.ne_blk k4C (by decide))
                  have k6a := k6C.grown hg8 (HO2.out.ne_blk k6C (by decide))
                  have hO3 := hM8.own_ (cutW_size HD2.out.size)
                  have hd3 := HD2.out.grown HO2.out hg8
                  have f8 := k6a.frozen 1
                  have f9 := k6a.cell 1
                  simp only [zA, zC, zB] at f9)
     have k4b := k4a.far (p := ⟨w2.heap.size, 1, none⟩) (show w.heap.size ≠ w2.heap.size by omega) (.slice A8 (j + 1) c8)
     have k6b := k6a.set_ 1 (.slice A8 (j + 1) c8)
     have hO4 := hO3.far k6a (by decide) 1 (.slice A8 (j + 1) c8)
     have hd4 := hd3.setNew (b := w2.heap.size) (by omega) 1 (.slice A8 (j + 1) c8)
     simp only [zD, zE, zF] at k6b
     clear k4a k6a hO3 hd3 f8 f9 hM8 hg8 k4C k6C
     go_roundw
     case rel => exact ⟨j + 1, m, A8, c8, xs ++ [rb], by omega, by go_num, k4b, k6b, by simpa [ints] using hO4, hd4⟩
     case measure => simp [intOf]
set_option maxHeartbeats 1600000 in
set_option maxRecDepth 8000 in
theorem l03Draw_any (g : Nat) (w : World) (hs : Src w g 144) :
    Calls Tryz.prog 270 #[.pointer (some ⟨g, 0, none⟩)] w fun e w' => ∃ (P : Int) (A : Option Addr) (n c : Nat) (xs : List Int), e = .returned (.agg #[.int .i64 P, .slice A n c]) ∧ 3 ≤ P ∧ P ≤ 13 ∧ 1 ≤ n ∧ n ≤ 6 ∧ Own w' w.heap.size 2 A n c (ints xs) ∧ Dr g 144 w w' := by
 have hd1 := ((Dr.refl hs).alloc (.cells #[.int .i64 0, .slice none 0 0] 26)).alloc (.cells #[.int .i64 2, .int .i64 3, .int .i64 3, .int .i64 4, .int .i64 6] 2)
 have k1 : Blk ((w.alloc (.cells #[.int .i64 0, .slice none 0 0] 26)).alloc (.cells #[.int .i64 2, .int .i64 3, .int .i64 3, .int .i64 4, .int .i64 6] 2)) w.heap.size 26 #[.int .i64 0, .slice none 0 0] := (Blk.new _ _ _).alloc _
 have hpk := pick_any g (w.alloc (.cells #[.int .i64 0, .slice none 0 0] 26)).heap.size [2, 3, 3, 4, 6] _ hd1.s' (Blk.new _ 2 _) (by decide) (by decide)
 have e1 : (w.alloc (.cells #[.int .i64 0, .slice none 0 0] 26)).heap.size = w.heap.size + 1 := by simp
 rw [e1] at hpk
 go_enter Tryz.func270, Tryz.ntmps270
 go_wp2_with fail
 refine hpk.mono ?_
 rintro e w2 ⟨r, hr, rfl, hd2⟩
 have hr1 : 2 ≤ r ∧ r ≤ 6 := by simp at hr; omega
 obtain ⟨mn, rfl⟩ : ∃ mn : Nat, r = mn := ⟨r.toNat, by omega⟩
 have hd3 := hd1.trans hd2
 have k2 := k1.dr hd2 (by decide)
 have han := l03Any_any g mn w2 hd3.s' (by omega) (by omega)
 clear hpk hd1 hd2 k1 hr
 go_wp2_with fail
 refine han.mono ?_
 rintro e w3 ⟨P, A, n, c, xs, rfl, hP1, hP2, hn1, hn2, hO, hd4⟩
 have k3 := k2.dr hd4 (by decide)
 have hd5 := hd3.trans hd4
 have hO5 := hO.base hd3.size
 obtain ⟨p0, p1⟩ := k3.two
 have f0 := k3.frozen 0
 have f1 := k3.frozen 1
 have kz := k3.set_ 0 (.int .i64 P)
 clear han k2 hd3 hd4 hO
 go_wp2
 exact bodyPost_ret (v := .agg #[.int .i64 P, .slice A n c]) (by simp [results, Tryz.results270, go_sem, p0, p1]) rfl ⟨P, A, n, c, xs, rfl, hP1, hP2, hn1, by omega, (hO5.far k3 (by decide) 0 _).far kz (by decide) 1 _, (hd5.setNew (Nat.le_refl _) 0 _).setNew (Nat.le_refl _) 1 _⟩
/-- What a struct's box is left as, when the space in it is returned. -/
theorem space_back {w wr : World} {g b : Nat} {T : TypeId} {P : Int} {A : Option Addr} {n c : Nat} {xs : List Int} {cs : Array Value} (k : Blk wr b 26 cs) (hb : w.heap.size ≤ b) (hO : Own wr w.heap.size 2 A n c (ints xs)) (hd : Dr g T w wr) :
    Own ((wr.setCell ⟨b, 0, none⟩ (.int .i64 P)).setCell ⟨b, 1, none⟩ (.slice A n c)) w.heap.size 2 A n c (ints xs) ∧ Dr g T w ((wr.setCell ⟨b, 0, none⟩ (.int .i64 P)).setCell ⟨b, 1, none⟩ (.slice A n c)) :=
 ⟨(hO.far k (by decide) 0 _).far (k.set_ 0 (.int .i64 P)) (by decide) 1 _, (hd.setNew hb 0 _).setNew hb 1 _⟩
/-- The value is a number. -/
def VNum : VP := ⟨fun v _ => ∃ r : Int, v = .int .i64 r, fun _ _ _ h _ => h⟩
theorem Own.set_ {w : World} {E : TypeId} {B g : Nat} {n c : Nat} {us : List Value} (h : Own w B E (some ⟨g, 0, none⟩) n c us) (k : Nat) (u : Value) : Own (w.setCell ⟨g, k, none⟩ u) B E (some ⟨g, 0, none⟩) n c (us.set k u) ∧ w.grownBy (w.setCell ⟨g, k, none⟩ u) (some g) := World.ownsRow.stored h k u
set_option maxHeartbeats 3200000 in
set_option maxRecDepth 8000 in
theorem l03Spoil_any (g : Nat) (w : World) (hs : Src w g 144) :
    Calls Tryz.prog 240 #[.pointer (some ⟨g, 0, none⟩)] w fun e w' => ∃ (P : Int) (A : Option Addr) (n c : Nat) (xs : List Int), e = .returned (.agg #[.int .i64 P, .slice A n c]) ∧ P ≤ 17 ∧ n ≤ 7 ∧ Own w' w.heap.size 2 A n c (ints xs) ∧ Dr g 144 w w' := by
 have hd1 := (Dr.refl hs).alloc (.cells #[.int .i64 0, .slice none 0 0] 26)
 have k1 : Blk (w.alloc (.cells #[.int .i64 0, .slice none 0 0] 26)) w.heap.size 26 #[.int .i64 0, .slice none 0 0] := Blk.new _ _ _
 have hdr := l03Draw_any g (w.alloc (.cells #[.int .i64 0, .slice none 0 0] 26)) hd1.s'
 have hsw : (w.alloc (.cells #[.int .i64 0, .slice none 0 0] 26)).heap.size = w.heap.size + 1 := by simp
 go_enter Tryz.func240, Tryz.ntmps240
 go_wp2_with fail
 refine hdr.mono ?_
 rintro e w2 ⟨P, A, n, c, xs, rfl, hP1, hP2, hn1, hn2, hO, hd2⟩
 have hs2 := hd2.size
 have hlt2 : w.heap.size < w2.heap.size := by omega
 have hd3 := (hd1.trans hd2).alloc (.cells #[.int .i64 P, .slice A n c] 26)
 have k3 := (k1.dr hd2 (by decide)).alloc (.cells #[.int .i64 P, .slice A n c] 26)
 have kb3 : Blk (w2.alloc (.cells #[.int .i64 P, .slice A n c] 26)) w2.heap.size 26 #[.int .i64 P, .slice A n c] := Blk.new _ _ _
 have hO3 := (hO.base (B' := w.heap.size) (by omega)).below (zG.alloc (Nat.le_refl _) (.cells #[.int .i64 P, .slice A n c] 26))
 have hnx := next_any g 40 _ hd3.s' (by omega)
 clear hdr hd1 k1 hsw hd2 hs2 hO
 go_wp2_with fail
 refine hnx.mono ?_
 rintro e w3 ⟨r, rfl, hr1, hr2, hd4⟩
 have hd5 := hd3.trans hd4
 have k5 := k3.dr hd4 (by decide)
 have kb5 := kb3.dr hd4 (by decide)
 have hO5 := hO3.dr hd4 (by decide)
 clear hnx hd3 k3 kb3 hO3 hd4
 by_cases h0 : r = 0
 · have e0 : (r == 0) = true := by simp [h0]
   obtain ⟨q0, q1⟩ := kb5.two
   have hd6 := (Dr.refl hd5.s').alloc (.cells #[.int .i64 4, .int .i64 1, .int .i64 17, .int .i64 0] 2)
   have hpk := pick_any g w3.heap.size [4, 1, 17, 0] _ hd6.s' (Blk.new w3 2 _) (by decide) (by decide)
   go_wp2_with fail
   refine hpk.mono ?_
   rintro e w4 ⟨P2, hP, rfl, hd7⟩
   have hd67 := hd6.trans hd7
   have k7 := k5.dr hd67 (by decide)
   have kb7 := kb5.dr hd67 (by decide)
   have hO7 := hO5.dr hd67 (by decide)
   have hd8 := hd5.trans hd67
   obtain ⟨p0, p1⟩ := k7.two
   have f0 := k7.frozen 0
   have f1 := k7.frozen 1
   have g0 := kb7.frozen 0
   have g1 := kb7.cell 0
   have g2 := kb7.cell 1
   simp only [zA, zC, zB] at g1 g2
   clear hpk hd6 hd7 hd67 k5 kb5 hO5 hd5 q0 q1
   go_wp2
   have k8 := k7.far (p := ⟨w2.heap.size, 0, none⟩) (show w.heap.size ≠ w2.heap.size by omega) (.int .i64 P2)
   have hO8 := hO7.far kb7 (by decide) 0 (.int .i64 P2)
   have hd9 := hd8.setNew (b := w2.heap.size) (by omega) 0 (.int .i64 P2)
   obtain ⟨w5, hw5⟩ : ∃ W, W = w4.setCell ⟨w2.heap.size, 0, none⟩ (.int .i64 P2) := ⟨_, rfl⟩
   rw [← hw5] at k8 hO8 hd9 ⊢
   obtain ⟨p0, p1⟩ := k8.two
   first | exact bodyPost_ret (v := .agg #[.int .i64 P2, .slice A n c]) (by simp [results, Tryz.results240, go_sem, p0, p1]) rfl ⟨P2, A, n, c, xs, rfl, by simp at hP; omega, by omega, (space_back k8 (Nat.le_refl _) hO8 hd9).1, (space_back k8 (Nat.le_refl _) hO8 hd9).2⟩ | exact bodyPost_ret (v := .agg #[.int .i64 P2, .slice A n c]) (by simp [results, Tryz.results240, go_sem, p0, p1]) rfl ⟨P2, A, n, c, rfl, by simp at hP; omega, by omega, ⟨xs, (space_back k8 (Nat.le_refl _) hO8 hd9).1⟩, (space_back k8 (Nat.le_refl _) hO8 hd9).2⟩
 · have e0 : (r == 0) = false := by simp [h0]
   by_cases h1 : r = 1
   · have e1 : (r == 1) = true := by simp [h1]
     rcases hO5.form with ⟨_, hz⟩ | ⟨gA, rfl, hg1, hg2⟩
     · omega
     obtain ⟨q0, q1⟩ := kb5.two
     have i1 : (0 : Int) < (n : Int) := by omega
     have i2 : 0 < n := by omega
     go_wp2
     refine wp_obsR 8 (Dr g 144) [[], [0], [], [], [3], [3, 4], [2, 3, 4, 5], [0, 1], [0, 1, 2, 3, 4, 5, 6, 7]] [[], [], [], [], [], [], [5], []] (fun x => [VIs (.pointer (some ⟨w2.heap.size, 1, none⟩)), VIs (.slice (some ⟨gA, 0, none⟩) n c), VIs (.pointer (some ⟨g, 0, none⟩)), VIs (.pointer (some ⟨w2.heap.size, 0, none⟩)), VIs (.int .i64 (P)), VBs 2 #[.int .i64 (-1), .int .i64 P], VNum, VIs (.pointer (some ⟨gA, 0, none⟩))]) (fun w' => Blk w' w.heap.size 26 #[.int .i64 0, .slice none 0 0] ∧ Blk w' w2.heap.size 26 #[.int .i64 P, .slice (some ⟨gA, 0, none⟩) n c] ∧ Own w' w.heap.size 2 (some ⟨gA, 0, none⟩) n c (ints xs) ∧ Dr g 144 w w') (by kernel_rfl) (by kernel_rfl) (fun x x' j hx => by
         rcases j with _ | _ | _ | _ | _ | _ | _ | _ | j
         · rfl
         · rfl
         · rfl
         · rfl
         · rfl
         · rfl
         · rfl
         · rfl
         · rfl)
      (weak_ofR [0, 1, 2, 3, 4, 7] (by decide) (fun k hk x v w w' hp hr => by
       simp only [List.mem_cons, zJ, or_false] at hk
       rcases hk with rfl | rfl | rfl | rfl | rfl | rfl
       · exact hp
       · exact hp
       · exact hp
       · exact hp
       · exact hp
       · exact hp)) (fun j _ _ h hb => hb.either (fun hb => ⟨h.1.below hb h.1.lt, h.2.1.below hb h.2.1.lt, h.2.2.1.below hb, h.2.2.2.then hb⟩) (fun hr => ⟨h.1.dr hr (by decide), h.2.1.dr hr (by decide), h.2.2.1.dr hr (by decide), h.2.2.2.trans hr⟩)) (⟨k5.drew, kb5.drew, hO5.below zG.drew, hd5.then zG.drew⟩) (fun x => ?_)
     refine zSR (fun w' hS hV K hK => ?_) ?_
     · obtain ⟨q0, q1⟩ := hS.2.1.two; go_simp; exact hK.out _ _ _ rfl rfl rfl zG
     refine zSR (fun w' hS hV K hK => ?_) ?_
     · have e0 := zQ hV 0; obtain ⟨q0, q1⟩ := hS.2.1.two; go_simp; exact hK.out _ _ _ rfl rfl rfl zG
     refine zSR (fun w' hS hV K hK => ?_) ?_
     · obtain ⟨q0, q1⟩ := hS.2.1.two; go_simp; exact hK.out _ _ _ rfl rfl rfl zG
     refine zSR (fun w' hS hV K hK => ?_) ?_
     · obtain ⟨q0, q1⟩ := hS.2.1.two; go_simp; exact hK.out _ _ _ rfl rfl rfl zG
     refine zSR (fun w' hS hV K hK => ?_) ?_
     · have e3 := zQ hV 3; obtain ⟨q0, q1⟩ := hS.2.1.two; go_simp; exact hK.out _ _ _ rfl rfl rfl zG
     refine zSR (fun w' hS hV K hK => ?_) ?_
     · have e4 := zQ hV 4; obtain ⟨q0, q1⟩ := hS.2.1.two; go_simp; exact hK.out _ _ _ rfl rfl ⟨_, rfl, Blk.new _ _ _⟩ (zG.alloc (Nat.le_refl _) _)
     refine zSR (fun w' hS hV K hK => ?_) ?_
     · have e2 := zQ hV 2; obtain ⟨G5, e5, b5⟩ := hV 5 (by decide); obtain ⟨q0, q1⟩ := hS.2.1.two; go_simp; refine (pick_any g G5 [-1, P] _ hS.2.2.2.s' (by rw [ints2]; exact b5) (by simp) (by simp)).mono ?_; rintro e v1 ⟨r1, _, rfl, hr⟩; exact hK.out _ _ _ rfl rfl ⟨_, rfl⟩ hr
     refine zSR (fun w' hS hV K hK => ?_) ?_
     · have e1 := zQ hV 1; obtain ⟨q0, q1⟩ := hS.2.1.two; go_simp; exact hK.out _ _ _ rfl rfl rfl zG
     refine fun w' hS hV => ?_
     have e0 := zQ hV 0
     have e1 := zQ hV 1
     have e2 := zQ hV 2
     have e3 := zQ hV 3
     have e4 := zQ hV 4
     obtain ⟨rv, e6⟩ := hV 6 (by decide)
     have e7 := zQ hV 7
     simp only [e0, e1, e2, e3, e4, e6, e7]
     clear e0 e1 e2 e3 e4 e6 e7
     obtain ⟨k6, kb6, hO6, hd6⟩ := hS
     obtain ⟨w6, rfl⟩ : ∃ W, W = w' := ⟨_, rfl⟩
     obtain ⟨gB, oB, eB, hxB, hcB⟩ := hO6.rd.int (show 0 < n by omega)
     injection eB with eB
     injection eB with eB1 eB2 _
     subst eB1; subst eB2
     rw [Nat.zero_add] at hcB
     have ff := hO6.frozen_ 0
     refine any_one (j := 8) (by kernel_rfl) (Eq.trans (by simp only [zA, zB, zC]; exact rfl) rfl) (fun K hK => ?_)
     go_simp
     refine hK.out _ _ (wpAny_done (by kernel_rfl) ?_ _)
     obtain ⟨hO7, hg7⟩ := hO6.set_ 0 (.int .i64 rv)
     rw [ints_set] at hO7
     have k7 := k6.grown hg7 (hO6.ne_blk k6 (by decide))
     have kb7 := kb6.grown hg7 (hO6.ne_blk kb6 (by decide))
     have hd7 := hd6.grown hO6 hg7
     obtain ⟨w7, hw7⟩ : ∃ W, W = w6.setCell ⟨gA, 0, none⟩ (.int .i64 rv) := ⟨_, rfl⟩
     rw [← hw7] at hO7 k7 kb7 hd7 ⊢
     obtain ⟨p0, p1⟩ := k7.two
     have f0 := k7.frozen 0
     have f1 := k7.frozen 1
     obtain ⟨g1, g2⟩ := kb7.two
     clear q0 q1 k5 kb5 hO5 hd5 k6 kb6 hO6 hd6 hg7 hw7 hcB ff
     go_wp2
     first | exact bodyPost_ret (v := .agg #[.int .i64 P, .slice (some ⟨gA, 0, none⟩) n c]) (by simp [results, Tryz.results240, go_sem, p0, p1]) rfl ⟨P, (some ⟨gA, 0, none⟩), n, c, (xs.set 0 rv), rfl, by omega, by omega, (space_back k7 (Nat.le_refl _) hO7 hd7).1, (space_back k7 (Nat.le_refl _) hO7 hd7).2⟩ | exact bodyPost_ret (v := .agg #[.int .i64 P, .slice (some ⟨gA, 0, none⟩) n c]) (by simp [results, Tryz.results240, go_sem, p0, p1]) rfl ⟨P, (some ⟨gA, 0, none⟩), n, c, rfl, by omega, by omega, ⟨(xs.set 0 rv), (space_back k7 (Nat.le_refl _) hO7 hd7).1⟩, (space_back k7 (Nat.le_refl _) hO7 hd7).2⟩
   · have e1 : (r == 1) = false := by simp [h1]
     by_cases h2 : r = 2
     · have e2 : (r == 2) = true := by simp [h2]
       have kA := k5.alloc (.cells #[] 2)
       have kbA := kb5.alloc (.cells #[] 2)
       have hdA := hd5.alloc (.cells #[] 2)
       have hOA : Own (w3.alloc (.cells #[] 2)) w.heap.size 2 (some ⟨w3.heap.size, 0, none⟩) 0 0 (ints []) := Own.of_cells (cs := #[]) (Nat.le_trans (Nat.le_of_lt hlt2) (Nat.le_trans (Nat.le_of_lt kb5.lt) (Nat.le_refl _))) (Blk.new w3 2 #[]) (by simp [maxLen])
       obtain ⟨p0, p1⟩ := kA.two
       have f0 := kA.frozen 0
       have f1 := kA.frozen 1
       obtain ⟨g1, g2⟩ := kbA.two
       have g0 := kbA.frozen 1
       go_wp2
       have k8 := kA.far (p := ⟨w2.heap.size, 1, none⟩) (show w.heap.size ≠ w2.heap.size by omega) (.slice (some ⟨w3.heap.size, 0, none⟩) 0 0)
       have hO8 := hOA.far kbA (by decide) 1 (.slice (some ⟨w3.heap.size, 0, none⟩) 0 0)
       have hd9 := hdA.setNew (b := w2.heap.size) (by omega) 1 (.slice (some ⟨w3.heap.size, 0, none⟩) 0 0)
       obtain ⟨w5, hw5⟩ : ∃ W, W = (w3.alloc (.cells #[] 2)).setCell ⟨w2.heap.size, 1, none⟩ (.slice (some ⟨w3.heap.size, 0, none⟩) 0 0) := ⟨_, rfl⟩
       rw [← hw5] at k8 hO8 hd9 ⊢
       obtain ⟨p0, p1⟩ := k8.two
       first | exact bodyPost_ret (v := .agg #[.int .i64 P, .slice (some ⟨w3.heap.size, 0, none⟩) 0 0]) (by simp [results, Tryz.results240, go_sem, p0, p1]) rfl ⟨P, (some ⟨w3.heap.size, 0, none⟩), 0, 0, [], rfl, by omega, by omega, (space_back k8 (Nat.le_refl _) hO8 hd9).1, (space_back k8 (Nat.le_refl _) hO8 hd9).2⟩ | exact bodyPost_ret (v := .agg #[.int .i64 P, .slice (some ⟨w3.heap.size, 0, none⟩) 0 0]) (by simp [results, Tryz.results240, go_sem, p0, p1]) rfl ⟨P, (some ⟨w3.heap.size, 0, none⟩), 0, 0, rfl, by omega, by omega, ⟨[], (space_back k8 (Nat.le_refl _) hO8 hd9).1⟩, (space_back k8 (Nat.le_refl _) hO8 hd9).2⟩
     · have e2 : (r == 2) = false := by simp [h2]
       by_cases h3 : r = 3
       · have e3 : (r == 3) = true := by simp [h3]
         go_wp2
         go_loopw [] (fun wr => ∃ (j : Nat) (A1 : Option Addr) (c1 : Nat) (xs1 : List Int), j ≤ 7 ∧ Blk wr w.heap.size 26 #[.int .i64 0, .slice none 0 0] ∧ Blk wr w2.heap.size 26 #[.int .i64 P, .slice A1 j c1] ∧ Own wr w.heap.size 2 A1 j c1 (ints xs1) ∧ Dr g 144 w wr) (fun wr => 7 - (match wr.cell? ⟨w2.heap.size, 1, none⟩ with | some (.slice _ l _) => l | _ => 0))
         case atStart => exact ⟨n, A, c, xs, by omega, k5, kb5, hO5, hd5⟩
         case round =>
          obtain ⟨j, A1, c1, xs1, hj, k6, kb6, hO6, hd6⟩ := hrel
          clear k5 kb5 hO5 hd5
          obtain ⟨q0, q1⟩ := kb6.two
          by_cases hlt : j < 7
          · have d7 : decide ((j : Int) < 7) = true := by rw [decide_eq_true_eq]; omega
            go_wp2_with (at_builtin; refine wpList_app1 (cutW wr w.heap.size) wr 24 2 _ _ Tryz.underlying24 info_i rfl (by omega) rfl _ _ rfl A1 j c1 _ _ (hO6.mk_ hd6.size) (by omega) rfl rfl rfl ?_; intro A8 c8 w8 hM8 hg8 _
                         have k4a := k6.grown hg8 (hO6.ne_blk k6 (by decide))
                         have k6a := kb6.grown hg8 (hO6.ne_blk kb6 (by decide))
                         have hO7 := hM8.own_ (cutW_size hd6.size)
                         have hd7 := hd6.grown hO6 hg8
                         have f8 := k6a.frozen 1
                         obtain ⟨f9, f10⟩ := k6a.two)
            have k4b := k4a.far (p := ⟨w2.heap.size, 1, none⟩) (show w.heap.size ≠ w2.heap.size by omega) (.slice A8 (j + 1) c8)
            have k6b := k6a.set_ 1 (.slice A8 (j + 1) c8)
            have hO8 := hO7.far k6a (by decide) 1 (.slice A8 (j + 1) c8)
            have hd8 := hd7.setNew (b := w2.heap.size) (by omega) 1 (.slice A8 (j + 1) c8)
            simp only [zD, zE, zF] at k6b
            have hm2 := k6b.two.2
            clear k4a k6a hO7 hd7 f8 f9 f10 hM8 hg8
            go_roundw
            case rel => exact ⟨j + 1, A8, c8, xs1 ++ [1], by omega, k4b, k6b, by simpa [ints] using hO8, hd8⟩
            case measure =>
             simp only [hm2, q1]
             show 7 - (j + 1) < 7 - j
             omega
          · have d7 : decide ((j : Int) < 7) = false := by rw [decide_eq_false_iff_not]; omega
            obtain ⟨p0, p1⟩ := k6.two
            have f0 := k6.frozen 0
            have f1 := k6.frozen 1
            go_wp2
            first | exact bodyPost_ret (v := .agg #[.int .i64 P, .slice A1 j c1]) (by simp [results, Tryz.results240, go_sem, p0, p1]) rfl ⟨P, A1, j, c1, xs1, rfl, by omega, by omega, (space_back k6 (Nat.le_refl _) hO6 hd6).1, (space_back k6 (Nat.le_refl _) hO6 hd6).2⟩ | exact bodyPost_ret (v := .agg #[.int .i64 P, .slice A1 j c1]) (by simp [results, Tryz.results240, go_sem, p0, p1]) rfl ⟨P, A1, j, c1, rfl, by omega, by omega, ⟨xs1, (space_back k6 (Nat.le_refl _) hO6 hd6).1⟩, (space_back k6 (Nat.le_refl _) hO6 hd6).2⟩
       · have e3 : (r == 3) = false := by simp [h3]
         obtain ⟨p0, p1⟩ := k5.two
         have f0 := k5.frozen 0
         have f1 := k5.frozen 1
         obtain ⟨q0, q1⟩ := kb5.two
         go_wp2
         first | exact bodyPost_ret (v := .agg #[.int .i64 P, .slice A n c]) (by simp [results, Tryz.results240, go_sem, p0, p1]) rfl ⟨P, A, n, c, xs, rfl, by omega, by omega, (space_back k5 (Nat.le_refl _) hO5 hd5).1, (space_back k5 (Nat.le_refl _) hO5 hd5).2⟩ | exact bodyPost_ret (v := .agg #[.int .i64 P, .slice A n c]) (by simp [results, Tryz.results240, go_sem, p0, p1]) rfl ⟨P, A, n, c, rfl, by omega, by omega, ⟨xs, (space_back k5 (Nat.le_refl _) hO5 hd5).1⟩, (space_back k5 (Nat.le_refl _) hO5 hd5).2⟩
/-- The value is a list of n numbers of the field that was made since the heap had B blocks. -/
def VLs (B n : Nat) (P : Int) : VP := ⟨fun v w => ∃ (A : Option Addr) (c : Nat) (xs : List Int), v = .slice A n c ∧ xs.length = n ∧ NumsL P xs ∧ Own w B 2 A n c (ints xs), fun _ _ _ ⟨A, c, xs, e, hl, hn, ho⟩ hb => ⟨A, c, xs, e, hl, hn, ho.below hb⟩⟩
theorem VLs.dr {B n g : Nat} {P : Int} {T : TypeId} {v : Value} {w w' : World} (h : (VLs B n P).p v w) (d : Dr g T w w') (hT : 2 ≠ T) : (VLs B n P).p v w' := by
 obtain ⟨A, c, xs, e, hl, hn, ho⟩ := h
 refine ⟨A, c, xs, e, ?_, hn, ho.dr d hT⟩
 exact hl
/-- The value is a place. -/
def VIx (n : Nat) : VP := ⟨fun v _ => ∃ i : Nat, v = .int .i64 i ∧ i < n, fun _ _ _ h _ => h⟩
/-- The value is a pointer to the place x of block g. -/
def VPt (g n : Nat) (x : Value) : VP := ⟨fun v _ => ∃ i : Nat, x = .int .i64 i ∧ i < n ∧ v = .pointer (some ⟨g, i, none⟩), fun _ _ _ h _ => h⟩
theorem nums_of {P : Int} {xs : List Int} (hp : 1 ≤ P) (h : ∀ x ∈ xs, 0 ≤ x ∧ (1 ≤ P → x < P)) : NumsL P xs := fun x hx => ⟨(h x hx).1, (h x hx).2 hp⟩
set_option maxHeartbeats 6400000 in
set_option maxRecDepth 8000 in
theorem l04Draw_any (g : Nat) (P : Int) (A : Option Addr) (n c : Nat) (sq : List Int) (w : World) (hs : Src w g 144) (hp : 2 ≤ P) (hp2 : P ≤ 13) (hn : n ≤ 6) (h0 : 0 < n) (ho : Own w 0 2 A n c (ints sq)) (hq : NumsL P sq) :
    Calls Tryz.prog 246 #[.pointer (some ⟨g, 0, none⟩), .agg #[.int .i64 P, .slice A n c]] w fun e w' => ∃ (A' : Option Addr) (c' : Nat), e = .returned (.slice A' (pw n) c') ∧ (∃ xs : List Int, Own w' w.heap.size 2 A' (pw n) c' (ints xs)) ∧ Dr g 144 w w' := by
 have hpw : pw n ≤ 64 := pw_le hn
 have hpn := pw_pos n
 have k0 : Blk (w.alloc (.cells #[.int .i64 P, .slice A n c] 26)) w.heap.size 26 #[.int .i64 P, .slice A n c] := Blk.new _ _ _
 have d0 := (Dr.refl hs).alloc (.cells #[.int .i64 P, .slice A n c] 26)
 have o0 := ho.below (zG.alloc (Nat.le_refl _) (.cells #[.int .i64 P, .slice A n c] 26))
 have HQ := Lib.hid hq
 have hSQ : ∀ gb, (Value.slice A n c).ownBlock = some gb → gb < w.heap.size := fun gb e => (World.ownsRow.lt ho gb e).2
 obtain ⟨q0, q1⟩ := k0.two
 have hz := l04Zero_any P A n c (w.alloc (.cells #[.int .i64 P, .slice A n c] 26)) (by omega)
 go_enter Tryz.func246, Tryz.ntmps246
 go_wp2_with fail
 refine hz.mono ?_
 rintro e w2 ⟨A2, c2, rfl, hM2⟩
 have d2 := d0.then hM2.b
 have k2 := k0.below hM2.b k0.lt
 have o2 := o0.below hM2.b
 have hO2 := hM2.2.base (B' := w.heap.size) (by simp)
 have hnx := next_any g 5 w2 d2.s' (by omega)
 clear hz q0 q1 k0 d0 o0 hM2 ho
 obtain ⟨q0, q1⟩ := k2.two
 go_wp2_with fail
 refine hnx.mono ?_
 rintro e w3 ⟨r, rfl, hr1, hr2, hd3⟩
 have d3 := d2.trans hd3
 have k3 := k2.dr hd3 (by decide)
 have o3 := o2.dr hd3 (by decide)
 have hO3 := hO2.dr hd3 (by decide)
 clear hnx d2 k2 o2 hd3 hO2 q0 q1 hq
 by_cases h0' : r = 0
 · have e0 : (r == 0) = true := by simp [h0']
   obtain ⟨q0, q1⟩ := k3.two
   go_wp2
   refine wp_obsR 10 (Dr g 144) [[], [], [], [2], [], [4], [4, 5], [1, 2, 3, 4, 5, 6], [0, 1, 2, 3, 4, 5, 6, 7], [0, 1, 2, 3, 4, 5, 6, 7, 8]] [[], [], [], [], [], [], [], [99], [], []] (fun x => [VIs (.agg #[.int .i64 P, .slice A n c]), VIs (.pointer (some ⟨g, 0, none⟩)), VIs (.pointer (some ⟨w.heap.size, 0, none⟩)), VIs (.int .i64 (P)), VIs (.pointer (some ⟨w.heap.size, 1, none⟩)), VIs (.slice A n c), VIs (.int .i64 (n)), VLs w.heap.size (n) P, VLs w.heap.size (pw n) P, VLs w.heap.size (pw n) P]) (fun w' => Blk w' w.heap.size 26 #[.int .i64 P, .slice A n c] ∧ Own w' 0 2 A n c (ints sq) ∧ Dr g 144 w w') (by kernel_rfl) (by kernel_rfl) (fun x x' j hx => by
       rcases j with _ | _ | _ | _ | _ | _ | _ | _ | _ | _ | j
       · rfl
       · rfl
       · rfl
       · rfl
       · rfl
       · rfl
       · rfl
       · rfl
       · rfl
       · rfl
       · rfl)
    (weak_ofR [0, 1, 2, 3, 4, 5, 6, 7, 8, 9] (by decide) (fun k hk x v w w' hp hr => by
     simp only [List.mem_cons, zJ, or_false] at hk
     rcases hk with rfl | rfl | rfl | rfl | rfl | rfl | rfl | rfl | rfl | rfl
     · exact hp
     · exact hp
     · exact hp
     · exact hp
     · exact hp
     · exact hp
     · exact hp
     · exact VLs.dr hp hr (by decide)
     · exact VLs.dr hp hr (by decide)
     · exact VLs.dr hp hr (by decide))) (fun j _ _ h hb => hb.either (fun hb => ⟨h.1.below hb h.1.lt, h.2.1.below hb, h.2.2.then hb⟩) (fun hr => ⟨h.1.dr hr (by decide), h.2.1.dr hr (by decide), h.2.2.trans hr⟩)) (⟨k3.drew, o3.below zG.drew, d3.then zG.drew⟩) (fun x => ?_)
   refine zSR (fun w' hS hV K hK => ?_) ?_
   · obtain ⟨q0, q1⟩ := hS.1.two; go_simp; exact hK.out _ _ _ rfl rfl rfl zG
   refine zSR (fun w' hS hV K hK => ?_) ?_
   · obtain ⟨q0, q1⟩ := hS.1.two; go_simp; exact hK.out _ _ _ rfl rfl rfl zG
   refine zSR (fun w' hS hV K hK => ?_) ?_
   · obtain ⟨q0, q1⟩ := hS.1.two; go_simp; exact hK.out _ _ _ rfl rfl rfl zG
   refine zSR (fun w' hS hV K hK => ?_) ?_
   · have e2 := zQ hV 2; obtain ⟨q0, q1⟩ := hS.1.two; go_simp; exact hK.out _ _ _ rfl rfl rfl zG
   refine zSR (fun w' hS hV K hK => ?_) ?_
   · obtain ⟨q0, q1⟩ := hS.1.two; go_simp; exact hK.out _ _ _ rfl rfl rfl zG
   refine zSR (fun w' hS hV K hK => ?_) ?_
   · have e4 := zQ hV 4; obtain ⟨q0, q1⟩ := hS.1.two; go_simp; exact hK.out _ _ _ rfl rfl rfl zG
   refine zSR (fun w' hS hV K hK => ?_) ?_
   · have e5 := zQ hV 5; obtain ⟨q0, q1⟩ := hS.1.two; go_simp; exact hK.out _ _ _ rfl rfl rfl zG
   refine zSR (fun w' hS hV K hK => ?_) ?_
   · have e1 := zQ hV 1; have e3 := zQ hV 3; have e6 := zQ hV 6; obtain ⟨q0, q1⟩ := hS.1.two; go_simp; refine (nextList_any g P (n) w' hS.2.2.s' (by omega) (by omega)).mono ?_; rintro e v1 ⟨A9, c9, xs9, rfl, hl9, hx9, ho9, hd9⟩; exact hK.out _ _ _ rfl rfl ⟨_, _, xs9, rfl, hl9, nums_of (by omega) hx9, ho9.base hS.2.2.size⟩ hd9
   refine zSR (fun w' hS hV K hK => ?_) ?_
   · have e0 := zQ hV 0; obtain ⟨A7, c7, X7, e7, l7, n7, h7⟩ := hV 7 (by decide); obtain ⟨q0, q1⟩ := hS.1.two; go_simp; refine (l04Vector_any P A n c A7 c7 X7 w' (by omega) h7.rd).mono ?_; rintro e v1 ⟨A9, c9, rfl, hM⟩; exact hK.out _ _ _ rfl rfl ⟨_, _, _, rfl, vecTo_len _ _ _, vecTo_nums (by omega) n X7 n7 n, hM.2.base hS.2.2.size⟩ hM.b
   refine zSR (fun w' hS hV K hK => ?_) ?_
   · obtain ⟨A7, c7, X7, e7, l7, n7, h7⟩ := hV 7 (by decide); obtain ⟨A8, c8, X8, e8, l8, n8, h8⟩ := hV 8 (by decide); obtain ⟨q0, q1⟩ := hS.1.two; go_simp; exact hK.out _ _ _ rfl rfl ⟨_, _, X8, rfl, l8, n8, h8⟩ zG
   refine fun w' hS hV => ?_
   have e0 := zQ hV 0
   have e1 := zQ hV 1
   have e2 := zQ hV 2
   have e3 := zQ hV 3
   have e4 := zQ hV 4
   have e5 := zQ hV 5
   have e6 := zQ hV 6
   obtain ⟨A7, c7, X7, e7, l7, n7, h7⟩ := hV 7 (by decide)
   obtain ⟨A8, c8, X8, e8, l8, n8, h8⟩ := hV 8 (by decide)
   obtain ⟨A9, c9, X9, e9, l9, n9, h9⟩ := hV 9 (by decide)
   simp only [e0, e1, e2, e3, e4, e5, e6, e7, e8, e9]
   clear e0 e1 e2 e3 e4 e5 e6 e7 e8 e9
   refine wpAny_done (by kernel_rfl) ?_ _
   obtain ⟨_, _, d9⟩ := hS
   go_wp2
   go_ret
   exact ⟨_, _, rfl, ⟨X9, h9⟩, d9⟩
 · have e0 : (r == 0) = false := by simp [h0']
   by_cases h1 : r = 1
   · have e1 : (r == 1) = true := by simp [h1]
     obtain ⟨q0, q1⟩ := k3.two
     go_wp2_with fail
     refine (l04One_any P A n c w3 (by omega)).mono ?_
     rintro e w4 ⟨A4, c4, rfl, hM4⟩
     have d4 := d3.then hM4.b
     have k4 := k3.below hM4.b k3.lt
     have o4 := o3.below hM4.b
     have h4 := hM4.2.base (B' := w.heap.size) d3.size
     have hnx := next_any g 4 w4 d4.s' (by omega)
     clear hM4 d3 k3 o3 hO3 q0 q1
     go_wp2_with fail
     refine hnx.mono ?_
     rintro e w5 ⟨rr, rfl, hr3, hr4, hd5⟩
     obtain ⟨rn, rfl⟩ : ∃ rn : Nat, rr = rn := ⟨rr.toNat, by omega⟩
     have d5 := d4.trans hd5
     have k5 := k4.dr hd5 (by decide)
     have o5 := o4.dr hd5 (by decide)
     have h5 := h4.dr hd5 (by decide)
     clear hnx d4 k4 o4 h4 hd5
     have hbn := bladeL_nums hp n 0
     have hbl := bladeL_len n 0
     go_wp2
     go_loopw [5, 6] (fun out q wr => ∃ (m : Nat) (A5 : Option Addr) (c5 : Nat) (X5 : List Int), m ≤ 4 ∧ q = .int .i64 m ∧ out = .slice A5 (pw n) c5 ∧ X5.length = pw n ∧ NumsL P X5 ∧ Own wr w.heap.size 2 A5 (pw n) c5 (ints X5) ∧ Blk wr w.heap.size 26 #[.int .i64 P, .slice A n c] ∧ Own wr 0 2 A n c (ints sq) ∧ Dr g 144 w wr) (fun _ q _ => (intOf q).toNat)
     case atStart => exact ⟨rn, _, _, _, by omega, rfl, rfl, hbl, hbn, h5, k5, o5, d5⟩
     case round =>
      clear h5 k5 o5 d5 hbn hbl
      obtain ⟨m, A5, c5, X5, hm4, rfl, rfl, hl5, hn5, h5, k5, o5, d5⟩ := hrel
      have HN5 := Lib.hid hn5
      have HL5 := Lib.hid hl5
      clear hn5 hl5
      cases m with
      | zero =>
       go_wp2
       go_ret
       exact ⟨_, _, rfl, ⟨X5, h5⟩, d5⟩
      | succ m =>
       have d1 : decide (0 < ((m + 1 : Nat) : Int)) = true := by rw [decide_eq_true_eq]; omega
       have WM : wrap64 (((m + 1 : Nat) : Int) - 1) = (m : Int) := by unfold wrap64; omega
       obtain ⟨q0, q1⟩ := k5.two
       go_wp2
       refine wp_obsR 12 (Dr g 144) [[], [], [], [], [], [4], [], [6], [6, 7], [3, 4, 5, 6, 7, 8], [2, 3, 4, 5, 6, 7, 8, 9], [0, 1, 2, 3, 4, 5, 6, 7, 8, 9, 10], [0, 1, 2, 3, 4, 5, 6, 7, 8, 9, 10, 11]] [[], [], [], [], [], [], [], [], [], [99], [], []] (fun x => [VIs (.agg #[.int .i64 P, .slice A n c]), VIs (.slice A5 (pw n) c5), VIs (.agg #[.int .i64 P, .slice A n c]), VIs (.pointer (some ⟨g, 0, none⟩)), VIs (.pointer (some ⟨w.heap.size, 0, none⟩)), VIs (.int .i64 (P)), VIs (.pointer (some ⟨w.heap.size, 1, none⟩)), VIs (.slice A n c), VIs (.int .i64 (n)), VLs w.heap.size (n) P, VLs w.heap.size (pw n) P, VLs w.heap.size (pw n) P]) (fun w' => Blk w' w.heap.size 26 #[.int .i64 P, .slice A n c] ∧ Own w' 0 2 A n c (ints sq) ∧ Dr g 144 w w' ∧ Own w' w.heap.size 2 A5 (pw n) c5 (ints X5)) (by kernel_rfl) (by kernel_rfl) (fun x x' j hx => by
           rcases j with _ | _ | _ | _ | _ | _ | _ | _ | _ | _ | _ | _ | j
           · rfl
           · rfl
           · rfl
           · rfl
           · rfl
           · rfl
           · rfl
           · rfl
           · rfl
           · rfl
           · rfl
           · rfl
           · rfl)
        (weak_ofR [0, 1, 2, 3, 4, 5, 6, 7, 8, 9, 10, 11] (by decide) (fun k hk x v w w' hp hr => by
         simp only [List.mem_cons, zJ, or_false] at hk
         rcases hk with rfl | rfl | rfl | rfl | rfl | rfl | rfl | rfl | rfl | rfl | rfl | rfl
         · exact hp
         · exact hp
         · exact hp
         · exact hp
         · exact hp
         · exact hp
         · exact hp
         · exact hp
         · exact hp
         · exact VLs.dr hp hr (by decide)
         · exact VLs.dr hp hr (by decide)
         · exact VLs.dr hp hr (by decide))) (fun j _ _ h hb => hb.either (fun hb => ⟨h.1.below hb h.1.lt, h.2.1.below hb, h.2.2.1.then hb, h.2.2.2.below hb⟩) (fun hr => ⟨h.1.dr hr (by decide), h.2.1.dr hr (by decide), h.2.2.1.trans hr, h.2.2.2.dr hr (by decide)⟩)) (⟨k5.drew, o5.below zG.drew, d5.then zG.drew, h5.below zG.drew⟩) (fun x => ?_)
       refine zSR (fun w' hS hV K hK => ?_) ?_
       · obtain ⟨q0, q1⟩ := hS.1.two; go_simp; exact hK.out _ _ _ rfl rfl rfl zG
       refine zSR (fun w' hS hV K hK => ?_) ?_
       · obtain ⟨q0, q1⟩ := hS.1.two; go_simp; exact hK.out _ _ _ rfl rfl rfl zG
       refine zSR (fun w' hS hV K hK => ?_) ?_
       · obtain ⟨q0, q1⟩ := hS.1.two; go_simp; exact hK.out _ _ _ rfl rfl rfl zG
       refine zSR (fun w' hS hV K hK => ?_) ?_
       · obtain ⟨q0, q1⟩ := hS.1.two; go_simp; exact hK.out _ _ _ rfl rfl rfl zG
       refine zSR (fun w' hS hV K hK => ?_) ?_
       · obtain ⟨q0, q1⟩ := hS.1.two; go_simp; exact hK.out _ _ _ rfl rfl rfl zG
       refine zSR (fun w' hS hV K hK => ?_) ?_
       · have e4 := zQ hV 4; obtain ⟨q0, q1⟩ := hS.1.two; go_simp; exact hK.out _ _ _ rfl rfl rfl zG
       refine zSR (fun w' hS hV K hK => ?_) ?_
       · obtain ⟨q0, q1⟩ := hS.1.two; go_simp; exact hK.out _ _ _ rfl rfl rfl zG
       refine zSR (fun w' hS hV K hK => ?_) ?_
       · have e6 := zQ hV 6; obtain ⟨q0, q1⟩ := hS.1.two; go_simp; exact hK.out _ _ _ rfl rfl rfl zG
       refine zSR (fun w' hS hV K hK => ?_) ?_
       · have e7 := zQ hV 7; obtain ⟨q0, q1⟩ := hS.1.two; go_simp; exact hK.out _ _ _ rfl rfl rfl zG
       refine zSR (fun w' hS hV K hK => ?_) ?_
       · have e3 := zQ hV 3; have e5 := zQ hV 5; have e8 := zQ hV 8; obtain ⟨q0, q1⟩ := hS.1.two; go_simp; refine (nextList_any g P (n) w' hS.2.2.1.s' (by omega) (by omega)).mono ?_; rintro e v1 ⟨A9, c9, xs9, rfl, hl9, hx9, ho9, hd9⟩; exact hK.out _ _ _ rfl rfl ⟨_, _, xs9, rfl, hl9, nums_of (by omega) hx9, ho9.base hS.2.2.1.size⟩ hd9
       refine zSR (fun w' hS hV K hK => ?_) ?_
       · have e2 := zQ hV 2; obtain ⟨A9, c9, X9, e9, l9, n9, h9⟩ := hV 9 (by decide); obtain ⟨q0, q1⟩ := hS.1.two; go_simp; refine (l04Vector_any P A n c A9 c9 X9 w' (by omega) h9.rd).mono ?_; rintro e v1 ⟨A9, c9, rfl, hM⟩; exact hK.out _ _ _ rfl rfl ⟨_, _, _, rfl, vecTo_len _ _ _, vecTo_nums (by omega) n X9 n9 n, hM.2.base hS.2.2.1.size⟩ hM.b
       refine zSR (fun w' hS hV K hK => ?_) ?_
       · have e0 := zQ hV 0; have e1 := zQ hV 1; obtain ⟨A9, c9, X9, e9, l9, n9, h9⟩ := hV 9 (by decide); obtain ⟨A10, c10, X10, e10, l10, n10, h10⟩ := hV 10 (by decide); obtain ⟨q0, q1⟩ := hS.1.two; go_simp; refine (l04Times_any P A n c sq A5 c5 X5 A10 c10 X10 w' hp hp2 hn hS.2.1.rd HQ.out (hS.2.2.2.rd) HN5.out h10.rd n10).mono ?_; rintro e v1 ⟨A9, c9, rfl, hM⟩; exact hK.out _ _ _ rfl rfl ⟨_, _, _, rfl, by rw [prodL_len]; exact HL5.out, prodL_nums sq _ _ _ (by omega), hM.2.base hS.2.2.1.size⟩ hM.b
       refine fun w' hS hV => ?_
       have e0 := zQ hV 0
       have e1 := zQ hV 1
       have e2 := zQ hV 2
       have e3 := zQ hV 3
       have e4 := zQ hV 4
       have e5 := zQ hV 5
       have e6 := zQ hV 6
       have e7 := zQ hV 7
       have e8 := zQ hV 8
       obtain ⟨A9, c9, X9, e9, l9, n9, h9⟩ := hV 9 (by decide)
       obtain ⟨A10, c10, X10, e10, l10, n10, h10⟩ := hV 10 (by decide)
       obtain ⟨A11, c11, X11, e11, l11, n11, h11⟩ := hV 11 (by decide)
       simp only [e0, e1, e2, e3, e4, e5, e6, e7, e8, e9, e10, e11]
       clear e0 e1 e2 e3 e4 e5 e6 e7 e8 e9 e10 e11
       obtain ⟨k6, o6, d6, _⟩ := hS
       refine any_one (j := 12) (by kernel_rfl) (Eq.trans (by simp only [zA, zB, zC]; exact rfl) rfl) (fun K hK => ?_)
       go_simp
       refine hK.out _ _ (wpAny_done (by kernel_rfl) ?_ _)
       clear q0 q1 k5 o5 d5 h5
       go_wp2
       go_roundw
       case rel => exact ⟨m, _, _, X11, by omega, by go_num, rfl, l11, n11, h11, k6, o6, d6⟩
       case measure => simp [intOf]
   · have e1 : (r == 1) = false := by simp [h1]
     by_cases h2 : r = 2
     · have e2 : (r == 2) = true := by simp [h2]
       have hnx := next_any g ((n : Int) + 1) w3 d3.s' (by omega)
       have W1 : wrap64 ((n : Int) + 1) = (n : Int) + 1 := by unfold wrap64; omega
       obtain ⟨q0, q1⟩ := k3.two
       go_wp2_with fail
       refine hnx.mono ?_
       rintro e w4 ⟨rr, rfl, hr3, hr4, hd4⟩
       have hr5 := hr4 (by omega)
       obtain ⟨rn, rfl⟩ : ∃ rn : Nat, rr = rn := ⟨rr.toNat, by omega⟩
       have d4 := d3.trans hd4
       have k4 := k3.dr hd4 (by decide)
       have o4 := o3.dr hd4 (by decide)
       clear hnx d3 k3 o3 hd4 q0 q1
       obtain ⟨q0, q1⟩ := k4.two
       go_wp2
       refine wp_obsR 9 (Dr g 144) [[], [], [1], [], [3], [0, 1, 2, 3, 4], [], [0, 1, 2, 3, 4, 5, 6], [0, 1, 2, 3, 4, 5, 6, 7]] [[], [], [], [], [], [99], [], [], []] (fun x => [VIs (.pointer (some ⟨g, 0, none⟩)), VIs (.pointer (some ⟨w.heap.size, 0, none⟩)), VIs (.int .i64 (P)), VIs (.agg #[.int .i64 P, .slice A n c]), VIs (.int .i64 (pw n)), VLs w.heap.size (pw n) P, VIs (.int .i64 (rn)), VLs w.heap.size (pw n) P, VLs w.heap.size (pw n) P]) (fun w' => Blk w' w.heap.size 26 #[.int .i64 P, .slice A n c] ∧ Own w' 0 2 A n c (ints sq) ∧ Dr g 144 w w') (by kernel_rfl) (by kernel_rfl) (fun x x' j hx => by
           rcases j with _ | _ | _ | _ | _ | _ | _ | _ | _ | j
           · rfl
           · rfl
           · rfl
           · rfl
           · rfl
           · rfl
           · rfl
           · rfl
           · rfl
           · rfl)
        (weak_ofR [0, 1, 2, 3, 4, 5, 6, 7, 8] (by decide) (fun k hk x v w w' hp hr => by
         simp only [List.mem_cons, zJ, or_false] at hk
         rcases hk with rfl | rfl | rfl | rfl | rfl | rfl | rfl | rfl | rfl
         · exact hp
         · exact hp
         · exact hp
         · exact hp
         · exact hp
         · exact VLs.dr hp hr (by decide)
         · exact hp
         · exact VLs.dr hp hr (by decide)
         · exact VLs.dr hp hr (by decide))) (fun j _ _ h hb => hb.either (fun hb => ⟨h.1.below hb h.1.lt, h.2.1.below hb, h.2.2.then hb⟩) (fun hr => ⟨h.1.dr hr (by decide), h.2.1.dr hr (by decide), h.2.2.trans hr⟩)) (⟨k4.drew, o4.below zG.drew, d4.then zG.drew⟩) (fun x => ?_)
       refine zSR (fun w' hS hV K hK => ?_) ?_
       · obtain ⟨q0, q1⟩ := hS.1.two; go_simp; exact hK.out _ _ _ rfl rfl rfl zG
       refine zSR (fun w' hS hV K hK => ?_) ?_
       · obtain ⟨q0, q1⟩ := hS.1.two; go_simp; exact hK.out _ _ _ rfl rfl rfl zG
       refine zSR (fun w' hS hV K hK => ?_) ?_
       · have e1 := zQ hV 1; obtain ⟨q0, q1⟩ := hS.1.two; go_simp; exact hK.out _ _ _ rfl rfl rfl zG
       refine zSR (fun w' hS hV K hK => ?_) ?_
       · obtain ⟨q0, q1⟩ := hS.1.two; go_simp; exact hK.out _ _ _ rfl rfl rfl zG
       refine zSR (fun w' hS hV K hK => ?_) ?_
       · have e3 := zQ hV 3; obtain ⟨q0, q1⟩ := hS.1.two; go_simp; refine (l04Size_any P A n c w' (by omega)).mono ?_; rintro e v1 ⟨rfl, hb⟩; exact hK.out _ _ _ rfl rfl rfl hb
       refine zSR (fun w' hS hV K hK => ?_) ?_
       · have e0 := zQ hV 0; have e2 := zQ hV 2; have e4 := zQ hV 4; obtain ⟨q0, q1⟩ := hS.1.two; go_simp; refine (nextList_any g P (pw n) w' hS.2.2.s' (by omega) (by omega)).mono ?_; rintro e v1 ⟨A9, c9, xs9, rfl, hl9, hx9, ho9, hd9⟩; exact hK.out _ _ _ rfl rfl ⟨_, _, xs9, rfl, hl9, nums_of (by omega) hx9, ho9.base hS.2.2.size⟩ hd9
       refine zSR (fun w' hS hV K hK => ?_) ?_
       · obtain ⟨q0, q1⟩ := hS.1.two; go_simp; exact hK.out _ _ _ rfl rfl rfl zG
       refine zSR (fun w' hS hV K hK => ?_) ?_
       · obtain ⟨A5, c5, X5, e5, l5, n5, h5⟩ := hV 5 (by decide); have e6 := zQ hV 6; obtain ⟨q0, q1⟩ := hS.1.two; go_simp; refine (l04Part_any A5 (pw n) c5 X5 rn w' (by omega) (by omega) h5.rd).mono ?_; rintro e v1 ⟨A9, c9, rfl, hM⟩; exact hK.out _ _ _ rfl rfl ⟨_, _, _, rfl, by rw [partG_len]; exact l5, partG_nums (by omega) n5 _, hM.2.base hS.2.2.size⟩ hM.b
       refine zSR (fun w' hS hV K hK => ?_) ?_
       · obtain ⟨A5, c5, X5, e5, l5, n5, h5⟩ := hV 5 (by decide); obtain ⟨A7, c7, X7, e7, l7, n7, h7⟩ := hV 7 (by decide); obtain ⟨q0, q1⟩ := hS.1.two; go_simp; exact hK.out _ _ _ rfl rfl ⟨_, _, X7, rfl, l7, n7, h7⟩ zG
       refine fun w' hS hV => ?_
       have e0 := zQ hV 0
       have e1 := zQ hV 1
       have e2 := zQ hV 2
       have e3 := zQ hV 3
       have e4 := zQ hV 4
       obtain ⟨A5, c5, X5, e5, l5, n5, h5⟩ := hV 5 (by decide)
       have e6 := zQ hV 6
       obtain ⟨A7, c7, X7, e7, l7, n7, h7⟩ := hV 7 (by decide)
       obtain ⟨A8, c8, X8, e8, l8, n8, h8⟩ := hV 8 (by decide)
       simp only [e0, e1, e2, e3, e4, e5, e6, e7, e8]
       clear e0 e1 e2 e3 e4 e5 e6 e7 e8
       refine wpAny_done (by kernel_rfl) ?_ _
       obtain ⟨_, _, d9⟩ := hS
       go_wp2
       go_ret
       exact ⟨_, _, rfl, ⟨X8, h8⟩, d9⟩
     · have e2 : (r == 2) = false := by simp [h2]
       by_cases h3 : r = 3
       · have e3 : (r == 3) = true := by simp [h3]
         rcases hO3.form with ⟨_, hzz⟩ | ⟨g2, rfl, hga, hgb⟩
         · omega
         have hnx := next_any g 4 w3 d3.s' (by omega)
         go_wp2_with fail
         refine hnx.mono ?_
         rintro e w5 ⟨rr, rfl, hr3, hr4, hd5⟩
         obtain ⟨rn, rfl⟩ : ∃ rn : Nat, rr = rn := ⟨rr.toNat, by omega⟩
         have d5 := d3.trans hd5
         have k5 := k3.dr hd5 (by decide)
         have o5 := o3.dr hd5 (by decide)
         have h5 := hO3.dr hd5 (by decide)
         clear hnx d3 k3 o3 hO3 hd5
         go_wp2
         go_loopw [8] (fun q wr => ∃ (m : Nat) (X5 : List Int), m ≤ 4 ∧ q = .int .i64 m ∧ Own wr w.heap.size 2 (some ⟨g2, 0, none⟩) (pw n) c2 (ints X5) ∧ Blk wr w.heap.size 26 #[.int .i64 P, .slice A n c] ∧ Own wr 0 2 A n c (ints sq) ∧ Dr g 144 w wr) (fun q _ => (intOf q).toNat)
         case atStart => exact ⟨rn, _, by omega, rfl, h5, k5, o5, d5⟩
         case round =>
          clear h5 k5 o5 d5
          obtain ⟨m, X5, hm4, rfl, h5, k5, o5, d5⟩ := hrel
          cases m with
          | zero =>
           go_wp2
           go_ret
           exact ⟨_, _, rfl, ⟨X5, h5⟩, d5⟩
          | succ m =>
           have d1 : decide (0 < ((m + 1 : Nat) : Int)) = true := by rw [decide_eq_true_eq]; omega
           have WM : wrap64 (((m + 1 : Nat) : Int) - 1) = (m : Int) := by unfold wrap64; omega
           obtain ⟨q0, q1⟩ := k5.two
           go_wp2
           refine wp_obsR 10 (Dr g 144) [[], [], [], [2], [1, 2, 3], [], [], [6], [1, 2, 3, 4, 5, 6, 7], [0, 1, 2, 3, 4], [0, 1, 2, 3, 4, 5, 6, 7, 8, 9]] [[], [], [], [], [99], [], [], [], [99], []] (fun x => [VIs (.slice (some ⟨g2, 0, none⟩) (pw n) c2), VIs (.pointer (some ⟨g, 0, none⟩)), VIs (.agg #[.int .i64 P, .slice A n c]), VIs (.int .i64 (pw n)), VIx (pw n), VIs (.pointer (some ⟨g, 0, none⟩)), VIs (.pointer (some ⟨w.heap.size, 0, none⟩)), VIs (.int .i64 (P)), VNum, VPt g2 (pw n) (x 4)]) (fun w' => Blk w' w.heap.size 26 #[.int .i64 P, .slice A n c] ∧ Own w' 0 2 A n c (ints sq) ∧ Dr g 144 w w' ∧ Own w' w.heap.size 2 (some ⟨g2, 0, none⟩) (pw n) c2 (ints X5)) (by kernel_rfl) (by kernel_rfl) (fun x x' j hx => by
               rcases j with _ | _ | _ | _ | _ | _ | _ | _ | _ | _ | j
               · rfl
               · rfl
               · rfl
               · rfl
               · rfl
               · rfl
               · rfl
               · rfl
               · rfl
               · rw [hx 4 (by decide)]
               · rfl)
            (weak_ofR [0, 1, 2, 3, 4, 5, 6, 7, 8, 9] (by decide) (fun k hk x v w w' hp hr => by
             simp only [List.mem_cons, zJ, or_false] at hk
             rcases hk with rfl | rfl | rfl | rfl | rfl | rfl | rfl | rfl | rfl | rfl
             · exact hp
             · exact hp
             · exact hp
             · exact hp
             · exact hp
             · exact hp
             · exact hp
             · exact hp
             · exact hp
             · exact hp)) (fun j _ _ h hb => hb.either (fun hb => ⟨h.1.below hb h.1.lt, h.2.1.below hb, h.2.2.1.then hb, h.2.2.2.below hb⟩) (fun hr => ⟨h.1.dr hr (by decide), h.2.1.dr hr (by decide), h.2.2.1.trans hr, h.2.2.2.dr hr (by decide)⟩)) (⟨k5.drew, o5.below zG.drew, d5.then zG.drew, h5.below zG.drew⟩) (fun x => ?_)
           refine zSR (fun w' hS hV K hK => ?_) ?_
           · obtain ⟨q0, q1⟩ := hS.1.two; go_simp; exact hK.out _ _ _ rfl rfl rfl zG
           refine zSR (fun w' hS hV K hK => ?_) ?_
           · obtain ⟨q0, q1⟩ := hS.1.two; go_simp; exact hK.out _ _ _ rfl rfl rfl zG
           refine zSR (fun w' hS hV K hK => ?_) ?_
           · obtain ⟨q0, q1⟩ := hS.1.two; go_simp; exact hK.out _ _ _ rfl rfl rfl zG
           refine zSR (fun w' hS hV K hK => ?_) ?_
           · have e2 := zQ hV 2; obtain ⟨q0, q1⟩ := hS.1.two; go_simp; refine (l04Size_any P A n c w' (by omega)).mono ?_; rintro e v1 ⟨rfl, hb⟩; exact hK.out _ _ _ rfl rfl rfl hb
           refine zSR (fun w' hS hV K hK => ?_) ?_
           · have e1 := zQ hV 1; have e3 := zQ hV 3; obtain ⟨q0, q1⟩ := hS.1.two; go_simp; refine (next_any g ((pw n : Nat) : Int) w' hS.2.2.1.s' (by omega)).mono ?_; rintro e v1 ⟨rr, rfl, t1, t2, hd9⟩; have t3 := t2 (by omega); obtain ⟨rn2, rfl⟩ : ∃ k : Nat, rr = k := ⟨rr.toNat, by omega⟩; exact hK.out _ _ _ rfl rfl ⟨rn2, rfl, by omega⟩ hd9
           refine zSR (fun w' hS hV K hK => ?_) ?_
           · obtain ⟨q0, q1⟩ := hS.1.two; go_simp; exact hK.out _ _ _ rfl rfl rfl zG
           refine zSR (fun w' hS hV K hK => ?_) ?_
           · obtain ⟨q0, q1⟩ := hS.1.two; go_simp; exact hK.out _ _ _ rfl rfl rfl zG
           refine zSR (fun w' hS hV K hK => ?_) ?_
           · have e6 := zQ hV 6; obtain ⟨q0, q1⟩ := hS.1.two; go_simp; exact hK.out _ _ _ rfl rfl rfl zG
           refine zSR (fun w' hS hV K hK => ?_) ?_
           · obtain ⟨rx, e4, lx⟩ := hV 4 (by decide); have e5 := zQ hV 5; have e7 := zQ hV 7; obtain ⟨q0, q1⟩ := hS.1.two; go_simp; refine (next_any g P w' hS.2.2.1.s' (by omega)).mono ?_; rintro e v1 ⟨rr, rfl, t1, t2, hd9⟩; exact hK.out _ _ _ rfl rfl ⟨_, rfl⟩ hd9
           refine zSR (fun w' hS hV K hK => ?_) ?_
           · have e0 := zQ hV 0
             obtain ⟨rx, e4, lx⟩ := hV 4 (by decide)
             obtain ⟨q0, q1⟩ := hS.1.two
             have b1 : (0 : Int) ≤ (rx : Int) := by omega
             have b2 : (rx : Int) < ((pw n : Nat) : Int) := by omega
             go_simp
             exact hK.out _ _ _ rfl rfl ⟨rx, e4, lx, rfl⟩ zG
           refine fun w' hS hV => ?_
           have e0 := zQ hV 0
           have e1 := zQ hV 1
           have e2 := zQ hV 2
           have e3 := zQ hV 3
           obtain ⟨rx, e4, lx⟩ := hV 4 (by decide)
           have e5 := zQ hV 5
           have e6 := zQ hV 6
           have e7 := zQ hV 7
           obtain ⟨rv, e8⟩ := hV 8 (by decide)
           obtain ⟨ry, f9, ly, e9⟩ := hV 9 (by decide)
           simp only [e0, e1, e2, e3, e4, e5, e6, e7, e8, e9]
           clear e0 e1 e2 e3 e4 e5 e6 e7 e8 e9
           obtain ⟨k6, o6, d6, h6⟩ := hS
           obtain ⟨w6, rfl⟩ : ∃ W, W = w' := ⟨_, rfl⟩
           obtain ⟨u1, hc1⟩ := h6.cellI ly
           have hf1 := h6.frozen_ ry
           refine any_one (j := 10) (by kernel_rfl) (Eq.trans (by simp only [zA, zB, zC]; exact rfl) rfl) (fun K hK => ?_)
           go_simp
           refine hK.out _ _ (wpAny_done (by kernel_rfl) ?_ _)
           obtain ⟨h7, hg7⟩ := h6.set_ ry (.int .i64 rv)
           rw [ints_set] at h7
           have k7 := k6.grown hg7 (h6.ne_blk k6 (by decide))
           have d7 := d6.grown h6 hg7
           have o7 := o6.grown hg7 (by
            cases hbk : (Value.slice A n c).ownBlock with
            | none => exact .inl rfl
            | some gb => right; intro e; have := hSQ gb hbk; injection e with e; omega)
           clear k6 o6 d6 h6 hg7 hc1 hf1 k5 o5 d5 h5 q0 q1
           go_wp2
           go_roundw
           case rel => exact ⟨m, _, by omega, by go_num, h7, k7, o7, d7⟩
           case measure => simp [intOf]
       · have e3 : (r == 3) = false := by simp [h3]
         obtain ⟨q0, q1⟩ := k3.two
         go_wp2
         refine wp_obsR 7 (Dr g 144) [[], [], [1], [], [3], [0, 1, 2, 3, 4], [0, 1, 2, 3, 4, 5]] [[], [], [], [], [], [99], []] (fun x => [VIs (.pointer (some ⟨g, 0, none⟩)), VIs (.pointer (some ⟨w.heap.size, 0, none⟩)), VIs (.int .i64 (P)), VIs (.agg #[.int .i64 P, .slice A n c]), VIs (.int .i64 (pw n)), VLs w.heap.size (pw n) P, VLs w.heap.size (pw n) P]) (fun w' => Blk w' w.heap.size 26 #[.int .i64 P, .slice A n c] ∧ Own w' 0 2 A n c (ints sq) ∧ Dr g 144 w w') (by kernel_rfl) (by kernel_rfl) (fun x x' j hx => by
             rcases j with _ | _ | _ | _ | _ | _ | _ | j
             · rfl
             · rfl
             · rfl
             · rfl
             · rfl
             · rfl
             · rfl
             · rfl)
          (weak_ofR [0, 1, 2, 3, 4, 5, 6] (by decide) (fun k hk x v w w' hp hr => by
           simp only [List.mem_cons, zJ, or_false] at hk
           rcases hk with rfl | rfl | rfl | rfl | rfl | rfl | rfl
           · exact hp
           · exact hp
           · exact hp
           · exact hp
           · exact hp
           · exact VLs.dr hp hr (by decide)
           · exact VLs.dr hp hr (by decide))) (fun j _ _ h hb => hb.either (fun hb => ⟨h.1.below hb h.1.lt, h.2.1.below hb, h.2.2.then hb⟩) (fun hr => ⟨h.1.dr hr (by decide), h.2.1.dr hr (by decide), h.2.2.trans hr⟩)) (⟨k3.drew, o3.below zG.drew, d3.then zG.drew⟩) (fun x => ?_)
         refine zSR (fun w' hS hV K hK => ?_) ?_
         · obtain ⟨q0, q1⟩ := hS.1.two; go_simp; exact hK.out _ _ _ rfl rfl rfl zG
         refine zSR (fun w' hS hV K hK => ?_) ?_
         · obtain ⟨q0, q1⟩ := hS.1.two; go_simp; exact hK.out _ _ _ rfl rfl rfl zG
         refine zSR (fun w' hS hV K hK => ?_) ?_
         · have e1 := zQ hV 1; obtain ⟨q0, q1⟩ := hS.1.two; go_simp; exact hK.out _ _ _ rfl rfl rfl zG
         refine zSR (fun w' hS hV K hK => ?_) ?_
         · obtain ⟨q0, q1⟩ := hS.1.two; go_simp; exact hK.out _ _ _ rfl rfl rfl zG
         refine zSR (fun w' hS hV K hK => ?_) ?_
         · have e3 := zQ hV 3; obtain ⟨q0, q1⟩ := hS.1.two; go_simp; refine (l04Size_any P A n c w' (by omega)).mono ?_; rintro e v1 ⟨rfl, hb⟩; exact hK.out _ _ _ rfl rfl rfl hb
         refine zSR (fun w' hS hV K hK => ?_) ?_
         · have e0 := zQ hV 0; have e2 := zQ hV 2; have e4 := zQ hV 4; obtain ⟨q0, q1⟩ := hS.1.two; go_simp; refine (nextList_any g P (pw n) w' hS.2.2.s' (by omega) (by omega)).mono ?_; rintro e v1 ⟨A9, c9, xs9, rfl, hl9, hx9, ho9, hd9⟩; exact hK.out _ _ _ rfl rfl ⟨_, _, xs9, rfl, hl9, nums_of (by omega) hx9, ho9.base hS.2.2.size⟩ hd9
         refine zSR (fun w' hS hV K hK => ?_) ?_
         · obtain ⟨A5, c5, X5, e5, l5, n5, h5⟩ := hV 5 (by decide); obtain ⟨q0, q1⟩ := hS.1.two; go_simp; exact hK.out _ _ _ rfl rfl ⟨_, _, X5, rfl, l5, n5, h5⟩ zG
         refine fun w' hS hV => ?_
         have e0 := zQ hV 0
         have e1 := zQ hV 1
         have e2 := zQ hV 2
         have e3 := zQ hV 3
         have e4 := zQ hV 4
         obtain ⟨A5, c5, X5, e5, l5, n5, h5⟩ := hV 5 (by decide)
         obtain ⟨A6, c6, X6, e6, l6, n6, h6⟩ := hV 6 (by decide)
         simp only [e0, e1, e2, e3, e4, e5, e6]
         clear e0 e1 e2 e3 e4 e5 e6
         refine wpAny_done (by kernel_rfl) ?_ _
         obtain ⟨_, _, d9⟩ := hS
         go_wp2
         go_ret
         exact ⟨_, _, rfl, ⟨X6, h6⟩, d9⟩
theorem nums_drawn {P : Int} {xs : List Int} (h : nums P xs = true) : NumsL P xs := fun x hx => by
 have := List.all_eq_true.1 h x hx
 simp [inR] at this
 omega
set_option maxHeartbeats 6400000 in
set_option maxRecDepth 8000 in
theorem l04Spoil_any (g : Nat) (P : Int) (A : Option Addr) (n c : Nat) (sq : List Int) (w : World) (hs : Src w g 144) (hn : n ≤ 1048576) (ho : Own w 0 2 A n c (ints sq)) :
    Calls Tryz.prog 169 #[.pointer (some ⟨g, 0, none⟩), .agg #[.int .i64 P, .slice A n c]] w fun e w' => ∃ (A' : Option Addr) (m c' : Nat), e = .returned (.slice A' m c') ∧ m ≤ 100 ∧ (∃ xs : List Int, Own w' w.heap.size 2 A' m c' (ints xs)) ∧ Dr g 144 w w' := by
 have hsl : sq.length = n := ho.rd.lenI
 have k0 : Blk (w.alloc (.cells #[.int .i64 P, .slice A n c] 26)) w.heap.size 26 #[.int .i64 P, .slice A n c] := Blk.new _ _ _
 have d0 := (Dr.refl hs).alloc (.cells #[.int .i64 P, .slice A n c] 26)
 have o0 := ho.below (zG.alloc (Nat.le_refl _) (.cells #[.int .i64 P, .slice A n c] 26))
 have hSQ : ∀ gb, (Value.slice A n c).ownBlock = some gb → gb < w.heap.size := fun gb e => (World.ownsRow.lt ho gb e).2
 cases h1 : isSp P sq
 · have H1 := Lib.hid h1
   clear h1
   go_enter Tryz.func169, Tryz.ntmps169
   go_wp2_with fail
   refine (l03Is_b _ _ _ _ _ _ (by omega) o0.rd H1.out).mono ?_
   rintro e w2 ⟨rfl, hb⟩
   have d2 := d0.then hb
   have hM := (Mk.lit (E := 2) (Below.refl w2.heap.size w2) #[.int .i64 1, .int .i64 0] (by simp [maxLen])).2.base (B' := w.heap.size) d2.size
   have d3 := d2.alloc (.cells #[.int .i64 1, .int .i64 0] 2)
   clear hb d2 d0 o0 k0
   go_wp2
   go_ret
   exact ⟨_, 2, _, rfl, by omega, ⟨[1, 0], by simpa [ints] using hM⟩, d3⟩
 · obtain ⟨hP, hn1, hn2, hq⟩ := isSp_dim h1
   obtain ⟨hp3, hp2⟩ := isP_ge hP
   have HQ := Lib.hid (nums_drawn hq)
   have H1 := Lib.hid h1
   rw [hsl] at hn1 hn2
   have hpw : pw n ≤ 64 := pw_le hn2
   have hpn := pw_pos n
   clear h1 hP hq
   go_enter Tryz.func169, Tryz.ntmps169
   go_wp2_with fail
   refine (l03Is_b _ _ _ _ _ _ (by omega) o0.rd H1.out).mono ?_
   rintro e w2 ⟨rfl, hb⟩
   have d2 := d0.then hb
   have k2 := k0.below hb k0.lt
   have o2 := o0.below hb
   have hdr := l04Draw_any g P A n c sq w2 d2.s' (by omega) hp2 hn2 hn1 o2 HQ.out
   clear hb d0 o0 k0
   obtain ⟨q0, q1⟩ := k2.two
   go_wp2_with fail
   refine hdr.mono ?_
   rintro e w3 ⟨A2, c2, rfl, ⟨X5, h3⟩, hd3⟩
   have d3 := d2.trans hd3
   have k3 := k2.dr hd3 (by decide)
   have o3 := o2.dr hd3 (by decide)
   have h3' := h3.base (B' := w.heap.size) d2.size
   have hnx := next_any g 30 w3 d3.s' (by omega)
   clear hdr d2 k2 o2 h3 hd3 q0 q1
   go_wp2_with fail
   refine hnx.mono ?_
   rintro e w4 ⟨r, rfl, hr1, hr2, hd4⟩
   have d5 := d3.trans hd4
   have k5 := k3.dr hd4 (by decide)
   have o5 := o3.dr hd4 (by decide)
   have h5 := h3'.dr hd4 (by decide)
   clear hnx d3 k3 o3 h3' hd4
   by_cases h0 : r = 0
   · have e0 : (r == 0) = true := by simp [h0]
     have H5 := Lib.hid h5
     clear h5
     go_wp2_with (first
      | (at_builtin; (refine wpList_app1 (cutW w4 w.heap.size) w4 24 2 _ _ Tryz.underlying24 info_i rfl (by omega) rfl _ _ rfl A2 (pw n) c2 _ _ (H5.out.mk_ d5.size) (by omega) rfl rfl rfl ?_; intro A9 c9 w9 hM9 hg9 _)))
     have hO9 := hM9.own_ (cutW_size d5.size)
     have d9 := d5.grown H5.out hg9
     clear hM9 hg9
     go_wp2
     go_ret
     exact ⟨A9, pw n + 1, c9, rfl, by omega, ⟨X5 ++ [0], by simpa [ints] using hO9⟩, d9⟩
   · have e0 : (r == 0) = false := by simp [h0]
     by_cases h1 : r = 1
     · have e1 : (r == 1) = true := by simp [h1]
       rcases h5.form with ⟨_, hzz⟩ | ⟨g2, rfl, hga, hgb⟩
       · omega
       obtain ⟨q0, q1⟩ := k5.two
       go_wp2
       refine wp_obsR 11 (Dr g 144) [[], [], [], [2], [1, 2, 3], [], [], [6], [6, 7], [1, 2, 3, 4, 5, 6, 7, 8], [0, 1, 2, 3, 4], [0, 1, 2, 3, 4, 5, 6, 7, 8, 9, 10]] [[], [], [], [], [99], [], [], [], [], [8], []] (fun x => [VIs (.slice (some ⟨g2, 0, none⟩) (pw n) c2), VIs (.pointer (some ⟨g, 0, none⟩)), VIs (.agg #[.int .i64 P, .slice A n c]), VIs (.int .i64 (pw n)), VIx (pw n), VIs (.pointer (some ⟨g, 0, none⟩)), VIs (.pointer (some ⟨w.heap.size, 0, none⟩)), VIs (.int .i64 (P)), VBs 2 #[.int .i64 (-1), .int .i64 P], VNum, VPt g2 (pw n) (x 4)]) (fun w' => Blk w' w.heap.size 26 #[.int .i64 P, .slice A n c] ∧ Own w' 0 2 A n c (ints sq) ∧ Dr g 144 w w' ∧ Own w' w.heap.size 2 (some ⟨g2, 0, none⟩) (pw n) c2 (ints X5)) (by kernel_rfl) (by kernel_rfl) (fun x x' j hx => by
           rcases j with _ | _ | _ | _ | _ | _ | _ | _ | _ | _ | _ | j
           · rfl
           · rfl
           · rfl
           · rfl
           · rfl
           · rfl
           · rfl
           · rfl
           · rfl
           · rfl
           · rw [hx 4 (by decide)]
           · rfl)
        (weak_ofR [0, 1, 2, 3, 4, 5, 6, 7, 8, 9, 10] (by decide) (fun k hk x v w w' hp hr => by
         simp only [List.mem_cons, zJ, or_false] at hk
         rcases hk with rfl | rfl | rfl | rfl | rfl | rfl | rfl | rfl | rfl | rfl | rfl
         · exact hp
         · exact hp
         · exact hp
         · exact hp
         · exact hp
         · exact hp
         · exact hp
         · exact hp
         · obtain ⟨G9, e9, b9⟩ := hp; exact ⟨G9, e9, b9.dr hr (by decide)⟩
         · exact hp
         · exact hp)) (fun j _ _ h hb => hb.either (fun hb => ⟨h.1.below hb h.1.lt, h.2.1.below hb, h.2.2.1.then hb, h.2.2.2.below hb⟩) (fun hr => ⟨h.1.dr hr (by decide), h.2.1.dr hr (by decide), h.2.2.1.trans hr, h.2.2.2.dr hr (by decide)⟩)) (⟨k5.drew, o5.below zG.drew, d5.then zG.drew, h5.below zG.drew⟩) (fun x => ?_)
       refine zSR (fun w' hS hV K hK => ?_) ?_
       · obtain ⟨q0, q1⟩ := hS.1.two; go_simp; exact hK.out _ _ _ rfl rfl rfl zG
       refine zSR (fun w' hS hV K hK => ?_) ?_
       · obtain ⟨q0, q1⟩ := hS.1.two; go_simp; exact hK.out _ _ _ rfl rfl rfl zG
       refine zSR (fun w' hS hV K hK => ?_) ?_
       · obtain ⟨q0, q1⟩ := hS.1.two; go_simp; exact hK.out _ _ _ rfl rfl rfl zG
       refine zSR (fun w' hS hV K hK => ?_) ?_
       · have e2 := zQ hV 2; obtain ⟨q0, q1⟩ := hS.1.two; go_simp; refine (l04Size_any P A n c w' (by omega)).mono ?_; rintro e v1 ⟨rfl, hb⟩; exact hK.out _ _ _ rfl rfl rfl hb
       refine zSR (fun w' hS hV K hK => ?_) ?_
       · have e1 := zQ hV 1; have e3 := zQ hV 3; obtain ⟨q0, q1⟩ := hS.1.two; go_simp; refine (next_any g ((pw n : Nat) : Int) w' hS.2.2.1.s' (by omega)).mono ?_; rintro e v1 ⟨rr, rfl, t1, t2, hd9⟩; have t3 := t2 (by omega); obtain ⟨rn2, rfl⟩ : ∃ k : Nat, rr = k := ⟨rr.toNat, by omega⟩; exact hK.out _ _ _ rfl rfl ⟨rn2, rfl, by omega⟩ hd9
       refine zSR (fun w' hS hV K hK => ?_) ?_
       · obtain ⟨q0, q1⟩ := hS.1.two; go_simp; exact hK.out _ _ _ rfl rfl rfl zG
       refine zSR (fun w' hS hV K hK => ?_) ?_
       · obtain ⟨q0, q1⟩ := hS.1.two; go_simp; exact hK.out _ _ _ rfl rfl rfl zG
       refine zSR (fun w' hS hV K hK => ?_) ?_
       · have e6 := zQ hV 6; obtain ⟨q0, q1⟩ := hS.1.two; go_simp; exact hK.out _ _ _ rfl rfl rfl zG
       refine zSR (fun w' hS hV K hK => ?_) ?_
       · have e7 := zQ hV 7; obtain ⟨q0, q1⟩ := hS.1.two; go_simp; exact hK.out _ _ _ rfl rfl ⟨_, rfl, Blk.new _ _ _⟩ (zG.alloc (Nat.le_refl _) _)
       refine zSR (fun w' hS hV K hK => ?_) ?_
       · obtain ⟨rx, e4, lx⟩ := hV 4 (by decide); have e5 := zQ hV 5; obtain ⟨G5, e5, b5⟩ := hV 8 (by decide); obtain ⟨q0, q1⟩ := hS.1.two; go_simp; refine (pick_any g G5 [-1, P] _ hS.2.2.1.s' (by rw [ints2]; exact b5) (by simp) (by simp)).mono ?_; rintro e v1 ⟨r1, _, rfl, hr⟩; exact hK.out _ _ _ rfl rfl ⟨_, rfl⟩ hr
       refine zSR (fun w' hS hV K hK => ?_) ?_
       · have e0 := zQ hV 0
         obtain ⟨rx, e4, lx⟩ := hV 4 (by decide)
         obtain ⟨q0, q1⟩ := hS.1.two
         have b1 : (0 : Int) ≤ (rx : Int) := by omega
         have b2 : (rx : Int) < ((pw n : Nat) : Int) := by omega
         go_simp
         exact hK.out _ _ _ rfl rfl ⟨rx, e4, lx, rfl⟩ zG
       refine fun w' hS hV => ?_
       have e0 := zQ hV 0
       have e1 := zQ hV 1
       have e2 := zQ hV 2
       have e3 := zQ hV 3
       obtain ⟨rx, e4, lx⟩ := hV 4 (by decide)
       have e5 := zQ hV 5
       have e6 := zQ hV 6
       have e7 := zQ hV 7
       obtain ⟨rv, e9⟩ := hV 9 (by decide)
       obtain ⟨ry, f10, ly, e10⟩ := hV 10 (by decide)
       simp only [e0, e1, e2, e3, e4, e5, e6, e7, e9, e10]
       clear e0 e1 e2 e3 e4 e5 e6 e7 e9 e10
       obtain ⟨k6, o6, d6, h6⟩ := hS
       obtain ⟨w6, rfl⟩ : ∃ W, W = w' := ⟨_, rfl⟩
       obtain ⟨u1, hc1⟩ := h6.cellI ly
       have hf1 := h6.frozen_ ry
       refine any_one (j := 11) (by kernel_rfl) (Eq.trans (by simp only [zA, zB, zC]; exact rfl) rfl) (fun K hK => ?_)
       go_simp
       refine hK.out _ _ (wpAny_done (by kernel_rfl) ?_ _)
       obtain ⟨h7, hg7⟩ := h6.set_ ry (.int .i64 rv)
       rw [ints_set] at h7
       have d7 := d6.grown h6 hg7
       clear k6 o6 d6 h6 hg7 hc1 hf1 k5 o5 d5 h5 q0 q1
       go_wp2
       go_ret
       exact ⟨_, _, _, rfl, by omega, ⟨_, h7⟩, d7⟩
     · have e1 : (r == 1) = false := by simp [h1]
       go_wp2
       go_ret
       exact ⟨A2, pw n, c2, rfl, by omega, ⟨X5, h5⟩, d5⟩
/-- The value is a list of at most 100 numbers that was made since the heap had B blocks. -/
def VLx (B : Nat) : VP := ⟨fun v w => ∃ (A : Option Addr) (m c : Nat) (xs : List Int), v = .slice A m c ∧ m ≤ 100 ∧ Own w B 2 A m c (ints xs), fun _ _ _ ⟨A, m, c, xs, e, hm, ho⟩ hb => ⟨A, m, c, xs, e, hm, ho.below hb⟩⟩
section
variable {w w' : World} {g res : Nat}
theorem Blk.stored {p' : Int} {A' : Option Addr} {n' c' : Nat} {a b : Value} (k : Blk w res 26 #[a, b]) : Blk ((w.setCell ⟨res, 0, none⟩ (.int .i64 p')).setCell ⟨res, 1, none⟩ (.slice A' n' c')) res 26 #[.int .i64 p', .slice A' n' c'] := by
 simpa using (k.set_ 0 (.int .i64 p')).set_ 1 (.slice A' n' c')
end
section
variable {w0 w w' : World} {E : TypeId} {A : Option Addr} {n c : Nat} {us : List Value}
theorem Mk.grown_below (h : Mk w0 w E A n c us) (hg : w.grownBy w' (Value.slice A n c).ownBlock) : Below w0.heap.size w w' :=
 zG.grown hg h.1.size (fun k hk => (h.2.lt k hk).1)
end
/-- A whole list is appended, in a region that draws its order. -/
theorem wp_appAll {o : Oper} {a : Act} {K : Act → World → Prop} {Q : Exit → Act → World → Prop} (w0 wr : World)
    (s x : Operand) (ho : o.op = .call { callee := .builtin .append, args := #[s, x], argTypes := #[24, 24] })
    (A : Option Addr) (n c : Nat) (xs : List Int) (B : Option Addr) (m d : Nat) (ys : List Int) (hM : MkI w0 wr A n c xs) (hY : Rd wr B m (ints ys)) (h0 : 0 < m) (hn : n ≤ 65536) (hm : m ≤ 65536)
    (hs : a.eval s = .slice A n c) (hx : a.eval x = .slice B m d)
    (h : ∀ A' c' w', MkI w0 w' A' (n + m) c' (xs ++ ys) → wr.grownBy w' (Value.slice A n c).ownBlock → K (a.put o.dst (.slice A' (n + m) c')) w') : o.wp Tryz.prog a wr K Q := by
 obtain ⟨i, hi, h1, h2, h3⟩ := info_parts info_i
 obtain ⟨b1, b2⟩ := bound_of (show n + m ≤ 1099511627776 by omega)
 have hyl : ys.length = m := by have := hY.1; rwa [ints_length] at this
 obtain ⟨g, o', rfl, hc⟩ := hY.2 h0
 obtain ⟨v', w', hr, hown, hg, _, _⟩ := run_append_own_at (P := Tryz.prog) wr w0.heap.size 24 o.type 2 i _ 1 8 Tryz.underlying24 hi h1 h2 h3 rfl (by omega) (.slice A n c) n (ints xs) hM.2 ⟨g, o', none⟩ m d (ints ys) (by rw [ints_length, hyl, Nat.mul_one]) (fun j u hu => by rw [Addr.add_lit]; exact hc j u hu) (by intro u hu; obtain ⟨y, _, rfl⟩ := List.mem_map.1 hu; rfl) (by simp only [maxLen]; omega) (by have := b2 8 (by omega); omega) hM.1.size
 unfold Oper.wp execOp
 simp only [ho, resolve, invoke, builtin, Sem.run_bind, Sem.run_pure, Result.andThen_ok, List.map_toArray, List.map_cons, List.map_nil, hs, hx, hr]
 have hb' : Below w0.heap.size w0 w' := hM.1.grown hg hM.1.size (fun k hk => (hM.2.lt k hk).1)
 have e : ints xs ++ ints ys = ints (xs ++ ys) := by unfold ints; rw [List.map_append]
 rw [e] at hown
 rcases hown.2 with ⟨_, h0⟩ | ⟨g, cap, cur, rfl, hr⟩
 · omega
 · exact h _ _ _ ⟨hb', hown⟩ hg
theorem lim_lt {C : List (List Nat)} {j b B : Nat} {w : World} (h : b < B) (hB : B ≤ w.heap.size) : b < lim C B j w := Nat.lt_of_lt_of_le h (lim_ge hB)
end Go.Proofs.YtmkjdpnoloofjaaGreat
namespace Go.Proofs.YtmkjdpnoloofjaaGreat
section
variable {p : Int} {sq : List Int}
def d4 (p a b x0 x1 x2 x3 y0 y1 y2 y3 : Int) : List Int :=
 [(x0 * y0 + a * (x1 * y1) + b * (x2 * y2) - a * b * (x3 * y3)) % p, (x0 * y1 + x1 * y0 - b * (x2 * y3) + b * (x3 * y2)) % p, (x0 * y2 + x2 * y0 + a * (x1 * y3) - a * (x3 * y1)) % p, (x0 * y3 + x3 * y0 + x1 * y2 - x2 * y1) % p]
end
section
variable {p : Int} {sq : List Int}
/-- The left and the right matrix of a multivector, and their transposes. -/
def lcolL (p : Int) (sq : List Int) (n : Nat) (xs : List Int) : List (List Int) := tab (pw n) fun m => mulL p sq xs (unitRow (pw n) m)
def lmL (p : Int) (sq : List Int) (n : Nat) (xs : List Int) : List (List Int) := transL (lcolL p sq n xs)
theorem lcol_tab (hp : 2 ≤ p) (x : Cl p sq) : Tab p (pw sq.length) (lcolL p sq sq.length x.l) := Tab.tab fun m hm => by
 rw [← Cl.at_l (sq := sq) (by omega) hp hm, ← Cl.mul_l]
 exact ⟨Cl.len _, Cl.nums _⟩
theorem lcol_len (n : Nat) (xs : List Int) : (lcolL p sq n xs).length = pw n := tab_len _ _
theorem Cl.mul_sumr (hp : 0 < p) (x : Cl p sq) (f : Nat → Cl p sq) (n : Nat) : x * Cl.sum hp n f = Cl.sum hp n fun i => x * f i := by
 have h := Cl.mul_sum hp x (Cl.one hp) f n
 simp only [Cl.mul_one] at h
 exact h
theorem Cl.mul_suml (hp : 0 < p) (x : Cl p sq) (f : Nat → Cl p sq) (n : Nat) : Cl.sum hp n f * x = Cl.sum hp n fun i => f i * x := by
 have h := Cl.mul_sum hp (Cl.one hp) x f n
 simp only [Cl.one_mul] at h
 exact h
theorem Cl.sum_congr (hp : 0 < p) {f g : Nat → Cl p sq} : ∀ n, (∀ i, i < n → f i = g i) → Cl.sum hp n f = Cl.sum hp n g
 | 0, _ => rfl
 | n + 1, h => by
  show Cl.sum hp n f + f n = Cl.sum hp n g + g n
  rw [Cl.sum_congr hp n fun i hi => h i (by omega), h n (by omega)]
end
section
variable {p : Int} {sq : List Int}
/-- The rows of a list of multivectors; what is made of them; that they are independent. -/
def rowsC (D : List (Cl p sq)) : List (List Int) := D.map (·.l)
def SpC (D : List (Cl p sq)) (z : Cl p sq) : Prop := Sp p (pw sq.length) (rowsC D) fun q => z.co q
def IndC (D : List (Cl p sq)) : Prop := Ind p (pw sq.length) (rowsC D)
theorem rowsC_len (D : List (Cl p sq)) : (rowsC D).length = D.length := by unfold rowsC; rw [List.length_map]
theorem rowsC_tab (D : List (Cl p sq)) : Tab p (pw sq.length) (rowsC D) := fun x hx => by
 obtain ⟨z, _, rfl⟩ := List.mem_map.1 hx
 exact ⟨z.len, z.nums⟩
theorem rowsC_ent (D : List (Cl p sq)) {i : Nat} (hi : i < D.length) (q : Nat) : ent (rowsC D) i q = D[i].co q := by
 unfold ent rowsC
 rw [getD_of_lt [] (by rw [List.length_map]; exact hi), List.getElem_map]; rfl
theorem rowsC_app (D E : List (Cl p sq)) : rowsC (D ++ E) = rowsC D ++ rowsC E := List.map_append
theorem SpC.mem {D : List (Cl p sq)} {z : Cl p sq} (h : z ∈ D) : SpC D z := Sp.mem (List.mem_map_of_mem h)
theorem SpC.add {D : List (Cl p sq)} {a b : Cl p sq} (ha : SpC D a) (hb : SpC D b) : SpC D (a + b) := (Sp.add ha hb).congr fun _ hq => (Cl.add_co a b hq).symm
theorem SpC.sm {D : List (Cl p sq)} {a : Cl p sq} (k : Int) (ha : SpC D a) : SpC D (k * a) := (Sp.mul ha k).congr fun _ hq => (Cl.sm_co k a hq).symm
theorem SpC.zero (hp : 0 < p) (D : List (Cl p sq)) : SpC D (Cl.zero hp) := (Sp.zero p _ _).congr fun q hq => by rw [Cl.zero_co hp hq]; simp
/-- What is made of a list is a sum. -/
theorem SpC.sum (hp : 0 < p) {D : List (Cl p sq)} {z : Cl p sq} (h : SpC D z) : ∃ c : Nat → Int, z = Cl.sum hp D.length fun i => c i * D.getD i z := by
 obtain ⟨c, hc⟩ := h
 refine ⟨c, Cl.same fun q hq => ?_⟩
 rw [Cl.sum_co hp _ hq, hc q hq, rowsC_len]
 refine sumTo_mod p fun i hi => ?_
 rw [rowsC_ent D hi, Cl.sm_co _ _ hq, getD_of_lt z hi]
theorem SpC.of_sum (hp : 0 < p) (D : List (Cl p sq)) (f : Nat → Cl p sq) (n : Nat) (h : ∀ i, i < n → SpC D (f i)) : SpC D (Cl.sum hp n f) :=
 Cl.sum_ind hp (SpC D) (SpC.zero hp D) (fun _ _ => SpC.add) f n h
theorem IndC.snoc (hP : isP p = true) {D : List (Cl p sq)} {v : Cl p sq} (h : IndC D) (hv : ¬ SpC D v) : IndC (D ++ [v]) := by
 unfold IndC
 rw [rowsC_app]
 exact Ind.snoc' hP h hv
end
section
variable {p : Int} {sq : List Int}
theorem Cl.unsm (hP : isP p = true) {k : Int} (hk : k % p ≠ 0) (x : Cl p sq) : invF p (k % p) * (k * x) = x := by
 have h3 := isP_ge hP
 rw [Cl.sm_sm, Cl.sm_cg (j := 1) (by rw [Int.mul_comm, inv_mod hP hk]; exact (Int.emod_eq_of_lt (by omega) (by omega)).symm), Cl.one_sm]
theorem Cl.sm_nul (hp : 0 < p) (k : Int) : (k * Cl.zero hp : Cl p sq) = Cl.zero hp := by
 rw [← Cl.zero_sm (Cl.one hp), Cl.sm_sm, Int.mul_zero]
theorem Cl.none_of (hP : isP p = true) (hp : 0 < p) {k : Int} (hk : k % p ≠ 0) {x : Cl p sq} (h : k * x = Cl.zero hp) : x = Cl.zero hp := by
 rw [← Cl.unsm hP hk x, h, Cl.sm_nul]
end
/-- The rows with the right sides behind them. -/
def augL (M : List (List Int)) (v : List Int) : List (List Int) := tab M.length fun i => M.getD i [] ++ [v.getD i 0]
/-- The solution, after k rows of the reduced basis. -/
def solTo (B : List (List Int)) (n : Nat) : Nat → List Int
 | 0 => List.replicate n 0
 | k + 1 => (solTo B n k).set (ld B k) (ent B k n)
/-- Does a row lead in the last column? -/
def endB (B : List (List Int)) (n k : Nat) : Bool := (List.range k).any fun i => ld B i == n
/-- The solution and whether there is one. -/
def solR (p : Int) (M : List (List Int)) (v : List Int) (n : Nat) : List Int × Bool :=
 if endB (basisL p (augL M v)) n (basisL p (augL M v)).length then ([], false) else (solTo (basisL p (augL M v)) n (basisL p (augL M v)).length, true)
section
variable {p : Int} {n : Nat}
theorem augL_len (M : List (List Int)) (v : List Int) : (augL M v).length = M.length := tab_len _ _
theorem augL_tab (hp : 0 < p) {M : List (List Int)} (hT : Tab p n M) {v : List Int} (hv : NumsL p v) : Tab p (n + 1) (augL M v) := Tab.tab fun i hi => by
 obtain ⟨h1, h2⟩ := hT.row hi
 refine ⟨by rw [List.length_append, h1]; rfl, ?_⟩
 intro x hx
 rcases List.mem_append.1 hx with h | h
 · exact h2 x h
 · rw [List.mem_singleton.1 h]; exact hv.getD hp i
theorem augL_ent {M : List (List Int)} (hT : Tab p n M) (v : List Int) {i : Nat} (hi : i < M.length) (q : Nat) : ent (augL M v) i q = if q < n then ent M i q else if q = n then v.getD i 0 else 0 := by
 have h1 := (hT.row hi).1
 unfold ent augL
 rw [tab_getD hi]
 by_cases hq : q < n
 · rw [if_pos hq, getD_app_left 0 _ (by rw [h1]; exact hq)]
 · rw [if_neg hq]
   by_cases hqn : q = n
   · rw [if_pos hqn, hqn]
     have := getD_app_right (0 : Int) (M.getD i []) [v.getD i 0] 0
     rw [h1, Nat.add_zero] at this
     rw [this]; rfl
   · rw [if_neg hqn]
     exact getD_of_ge 0 (by rw [List.length_append, h1]; simp; omega)
theorem solTo_len (B : List (List Int)) (n : Nat) : ∀ k, (solTo B n k).length = n
 | 0 => by simp [solTo]
 | k + 1 => by simp [solTo, solTo_len B n k]
theorem solTo_nums (hp : 0 < p) {B : List (List Int)} {m : Nat} (hB : Tab p m B) (n : Nat) : ∀ k, NumsL p (solTo B n k)
 | 0 => NumsL.replicate hp _
 | k + 1 => (solTo_nums hp hB n k).set _ (hB.ent hp k n)
theorem solTo_at {B : List (List Int)} {m : Nat} (hR : Red m B) {k : Nat} (hk : k ≤ B.length) (hn : ∀ i, i < k → ld B i < n) {i : Nat} (hi : i < k) : (solTo B n k).getD (ld B i) 0 = ent B i n := by
 induction k with
 | zero => omega
 | succ k ih =>
  show ((solTo B n k).set (ld B k) (ent B k n)).getD (ld B i) 0 = _
  rw [getD_set, solTo_len]
  by_cases e : i = k
  · subst e; rw [if_pos ⟨rfl, hn i (by omega)⟩]
  · rw [if_neg fun h => e (hR.inj (by omega) (by omega) h.1.symm)]
    exact ih (by omega) (fun j hj => hn j (by omega)) (by omega)
theorem solTo_off {B : List (List Int)} {q : Nat} : ∀ k, (∀ i, i < k → ld B i ≠ q) → (solTo B n k).getD q 0 = 0
 | 0, _ => by
  show (List.replicate n (0 : Int)).getD q 0 = 0
  rw [List.getD_eq_getElem?_getD, List.getElem?_replicate]
  split <;> rfl
 | k + 1, h => by
  show ((solTo B n k).set (ld B k) (ent B k n)).getD q 0 = 0
  rw [getD_set, if_neg fun e => h k (by omega) e.1]
  exact solTo_off k fun i hi => h i (by omega)
theorem endB_iff {B : List (List Int)} {n k : Nat} : endB B n k = true ↔ ∃ i, i < k ∧ ld B i = n := by
 unfold endB
 rw [List.any_eq_true]
 constructor
 · rintro ⟨i, hi, h⟩
   exact ⟨i, List.mem_range.1 hi, beq_iff_eq.1 h⟩
 · rintro ⟨i, hi, h⟩
   exact ⟨i, List.mem_range.2 hi, beq_iff_eq.2 h⟩
/-- The list with -1 behind it is orthogonal to the rows exactly if it solves the system. -/
theorem orth_aug {M : List (List Int)} (hT : Tab p n M) (v : List Int) (y : Nat → Int) : Orth p (n + 1) (augL M v) (fun q => if q < n then y q else -1) ↔ ∀ i, i < M.length → (sumTo n fun q => ent M i q * y q) % p = v.getD i 0 % p := by
 unfold Orth
 rw [augL_len]
 have e : ∀ i, i < M.length → (sumTo (n + 1) fun q => ent (augL M v) i q * if q < n then y q else -1) = (sumTo n fun q => ent M i q * y q) - v.getD i 0 := fun i hi => by
  rw [sumTo_succ, augL_ent hT v hi, if_neg (by omega), if_pos rfl, if_neg (by omega), Int.mul_neg, Int.mul_one]
  rw [sumTo_congr (g := fun q => ent M i q * y q) fun q hq => by rw [augL_ent hT v hi, if_pos hq, if_pos hq]]
  rfl
 constructor
 · intro h i hi
   have := h i hi
   rw [e i hi] at this
   exact Int.emod_eq_emod_iff_emod_sub_eq_zero.2 this
 · intro h i hi
   rw [e i hi]
   exact Int.emod_eq_emod_iff_emod_sub_eq_zero.1 (h i hi)
/-- What is told to be a solution is one. -/
theorem sol_ok (hP : isP p = true) {M : List (List Int)} (hT : Tab p n M) {v : List Int} (hv : NumsL p v) (h : endB (basisL p (augL M v)) n (basisL p (augL M v)).length = false) :
    ∀ i, i < M.length → (sumTo n fun q => ent M i q * (solTo (basisL p (augL M v)) n (basisL p (augL M v)).length).getD q 0) % p = v.getD i 0 % p := by
 have h3 := isP_ge hP
 have hA := augL_tab (show 0 < p by omega) hT hv
 obtain ⟨B, hB⟩ : ∃ B, B = basisL p (augL M v) := ⟨_, rfl⟩
 have hR := basisL_red hP _ hA
 obtain ⟨_, hin⟩ := basisL_in hP _ hA
 rw [← hB] at h hR hin ⊢
 have hlt : ∀ i, i < B.length → ld B i < n := fun i hi => by
  have h1 := hR.lt i hi
  have h2 : ld B i ≠ n := fun e => by
   have := endB_iff.2 ⟨i, hi, e⟩
   rw [h] at this; cases this
  omega
 refine (orth_aug hT v _).1 (Orth.of_in (m := B) ?_ hin)
 intro i hi
 rw [sumTo_succ]
 dsimp only
 rw [if_neg (by omega), Int.mul_neg, Int.mul_one]
 have e : (sumTo n fun q => ent B i q * if q < n then (solTo B n B.length).getD q 0 else -1) = ent B i n := by
  rw [sumTo_one (ld B i) (hlt i hi) fun q hq hne => ?_]
  · rw [if_pos (hlt i hi), hR.one i hi, Int.one_mul, solTo_at hR (Nat.le_refl _) hlt hi]
  · rw [if_pos hq]
    by_cases hl : ∃ j, j < B.length ∧ ld B j = q
    · obtain ⟨j, hj, rfl⟩ := hl
      rw [hR.zero j i hj hi fun e => hne (by rw [e]), Int.zero_mul]
    · rw [solTo_off B.length fun j hj e => hl ⟨j, hj, e⟩, Int.mul_zero]
 rw [e]
 have : ent B i n + -ent B i n = 0 := by omega
 rw [this, Int.zero_emod]
/-- Where none is told, there is none. -/
theorem sol_no (hP : isP p = true) {M : List (List Int)} (hT : Tab p n M) {v : List Int} (hv : NumsL p v) (h : endB (basisL p (augL M v)) n (basisL p (augL M v)).length = true) (y : Nat → Int) :
    ¬ ∀ i, i < M.length → (sumTo n fun q => ent M i q * y q) % p = v.getD i 0 % p := fun hy => by
 have h3 := isP_ge hP
 have hA := augL_tab (show 0 < p by omega) hT hv
 obtain ⟨B, hB⟩ : ∃ B, B = basisL p (augL M v) := ⟨_, rfl⟩
 have hR := basisL_red hP _ hA
 obtain ⟨hin, _⟩ := basisL_in hP _ hA
 rw [← hB] at h hR hin
 obtain ⟨i, hi, hl⟩ := endB_iff.1 h
 have ho := Orth.of_in ((orth_aug hT v y).2 hy) hin
 have h2 := ho i hi
 rw [sumTo_succ] at h2
 dsimp only at h2
 rw [if_neg (by omega), Int.mul_neg, Int.mul_one, sumTo_zero fun q hq => by rw [hR.before i q (by omega), Int.zero_mul]] at h2
 have h1 := hR.one i hi
 rw [hl] at h1
 rw [h1] at h2
 have : (0 + -1 : Int) % p = p - 1 := by
  rw [show (0 + -1 : Int) = (p - 1) + p * (-1) by rw [Int.mul_neg, Int.mul_one]; omega, Int.add_mul_emod_self_left, Int.emod_eq_of_lt (by omega) (by omega)]
 omega
end
/-- The powers; the first k of them. -/
def pwrL (p : Int) (sq : List Int) (n : Nat) (xs : List Int) : Nat → List Int
 | 0 => bladeL n 0
 | k + 1 => mulL p sq (pwrL p sq n xs k) xs
def pwsL (p : Int) (sq : List Int) (n : Nat) (xs : List Int) (k : Nat) : List (List Int) := tab k (pwrL p sq n xs)
/-- What makes the power k out of those before it. -/
def mstR (p : Int) (sq : List Int) (n : Nat) (xs : List Int) (k : Nat) : List Int × Bool := solR p (transL (pwsL p sq n xs k)) (pwrL p sq n xs k) k
/-- The first power from k on that is made of those before it. -/
def minTo (p : Int) (sq : List Int) (n : Nat) (xs : List Int) : Nat → Nat → Nat
 | 0, k => k
 | f + 1, k => if (mstR p sq n xs k).2 then k else minTo p sq n xs f (k + 1)
def minK (p : Int) (sq : List Int) (n : Nat) (xs : List Int) : Nat := minTo p sq n xs (pw n) 1
/-- The minimal polynomial. -/
def minL (p : Int) (sq : List Int) (n : Nat) (xs : List Int) : List Int := scaleL p (mstR p sq n xs (minK p sq n xs)).1 (-1) ++ [1]
theorem minTo_at {p : Int} {sq : List Int} {n : Nat} {xs : List Int} {k : Nat} (h : (mstR p sq n xs k).2 = true) : ∀ f j, j ≤ k → k < j + f → (∀ i, j ≤ i → i < k → (mstR p sq n xs i).2 = false) → minTo p sq n xs f j = k
 | 0, j, h1, h2, _ => by omega
 | f + 1, j, h1, h2, h3 => by
  unfold minTo
  rcases Nat.eq_or_lt_of_le h1 with rfl | hlt
  · rw [if_pos h]
  · rw [h3 j (by omega) hlt, if_neg (by simp)]
    exact minTo_at h f (j + 1) hlt (by omega) fun i hi hi2 => h3 i (by omega) hi2
section
variable {p : Int} {sq : List Int}
/-- The powers as multivectors. -/
def Cl.pwr (hp : 0 < p) (X : Cl p sq) : Nat → Cl p sq
 | 0 => Cl.one hp
 | k + 1 => Cl.pwr hp X k * X
theorem pwr_l (hp : 0 < p) (h2 : 2 ≤ p) (X : Cl p sq) : ∀ k, (Cl.pwr hp X k).l = pwrL p sq sq.length X.l k
 | 0 => Cl.one_l h2
 | k + 1 => by
  show (Cl.pwr hp X k * X).l = mulL p sq (pwrL p sq sq.length X.l k) X.l
  rw [Cl.mul_l, pwr_l hp h2 X k]
def pwsC (hp : 0 < p) (X : Cl p sq) (k : Nat) : List (Cl p sq) := (List.range k).map (Cl.pwr hp X)
theorem pwsC_rows (hp : 0 < p) (h2 : 2 ≤ p) (X : Cl p sq) (k : Nat) : rowsC (pwsC hp X k) = pwsL p sq sq.length X.l k := by
 unfold rowsC pwsC pwsL tab
 rw [List.map_map]
 exact List.map_congr_left fun m _ => pwr_l hp h2 X m
theorem pwsC_len (hp : 0 < p) (X : Cl p sq) (k : Nat) : (pwsC hp X k).length = k := by unfold pwsC; simp
theorem pwsC_succ (hp : 0 < p) (X : Cl p sq) (k : Nat) : pwsC hp X (k + 1) = pwsC hp X k ++ [Cl.pwr hp X k] := by
 unfold pwsC
 rw [List.range_succ, List.map_append]; rfl
theorem pws_tab (hp : 0 < p) (h2 : 2 ≤ p) (X : Cl p sq) (k : Nat) : Tab p (pw sq.length) (pwsL p sq sq.length X.l k) ∧ (pwsL p sq sq.length X.l k).length = k := by
 rw [← pwsC_rows hp h2]
 exact ⟨rowsC_tab _, by rw [rowsC_len, pwsC_len]⟩
theorem pwr_nums (hp : 0 < p) (h2 : 2 ≤ p) (X : Cl p sq) (k : Nat) : (pwrL p sq sq.length X.l k).length = pw sq.length ∧ NumsL p (pwrL p sq sq.length X.l k) := by
 rw [← pwr_l hp h2]
 exact ⟨Cl.len _, Cl.nums _⟩
/-- What solves the system: the sum of multiples of the powers. -/
theorem mst_iff (hp : 0 < p) (h2 : 2 ≤ p) (X : Cl p sq) {k : Nat} (hk : 0 < k) (y : Nat → Int) :
    (∀ i, i < (transL (pwsL p sq sq.length X.l k)).length → (sumTo k fun q => ent (transL (pwsL p sq sq.length X.l k)) i q * y q) % p = (pwrL p sq sq.length X.l k).getD i 0 % p) ↔
    Cl.pwr hp X k = Cl.sum hp k fun q => y q * Cl.pwr hp X q := by
 obtain ⟨hT, hl⟩ := pws_tab hp h2 X k
 have hl2 : (transL (pwsL p sq sq.length X.l k)).length = pw sq.length := transL_len hT (by omega)
 rw [hl2]
 have e : ∀ i, i < pw sq.length → (sumTo k fun q => ent (transL (pwsL p sq sq.length X.l k)) i q * y q) % p = (Cl.sum hp k fun q => y q * Cl.pwr hp X q).co i % p := fun i hi => by
  rw [Cl.sum_co hp _ hi]
  refine sumTo_mod p fun q hq => ?_
  rw [ent_trans hT (by omega) (by omega) hi, ← pwsC_rows hp h2, rowsC_ent _ (by rw [pwsC_len]; exact hq), Cl.sm_co _ _ hi, Int.mul_comm]
  unfold pwsC
  rw [List.getElem_map, List.getElem_range]
 have e2 : ∀ i, (Cl.pwr hp X k).co i = (pwrL p sq sq.length X.l k).getD i 0 := fun i => by unfold Cl.co; rw [pwr_l hp h2]
 constructor
 · intro h
   exact Cl.same fun i hi => by rw [← e i hi, h i hi, e2]
 · intro h i hi
   rw [e i hi, ← h, e2]
theorem mst_sp (hP : isP p = true) (hp : 0 < p) (X : Cl p sq) {k : Nat} (hk : 0 < k) : (mstR p sq sq.length X.l k).2 = true ↔ SpC (pwsC hp X k) (Cl.pwr hp X k) := by
 have h3 := isP_ge hP
 have h2 : 2 ≤ p := by omega
 obtain ⟨hT, hl⟩ := pws_tab hp h2 X k
 have hTT : Tab p k (transL (pwsL p sq sq.length X.l k)) := by have := transL_tab (p := p) hp hT; rwa [hl] at this
 obtain ⟨_, hn⟩ := pwr_nums hp h2 X k
 unfold mstR solR
 cases he : endB (basisL p (augL (transL (pwsL p sq sq.length X.l k)) (pwrL p sq sq.length X.l k))) k (basisL p (augL (transL (pwsL p sq sq.length X.l k)) (pwrL p sq sq.length X.l k))).length with
 | true =>
  refine ⟨fun h => absurd h (by simp), fun h => ?_⟩
  obtain ⟨c, hc⟩ := SpC.sum hp h
  rw [pwsC_len] at hc
  refine absurd ((mst_iff hp h2 X hk c).2 (hc.trans (Cl.sum_congr hp _ fun i hi => ?_))) (sol_no hP hTT hn he c)
  rw [getD_of_lt _ (by rw [pwsC_len]; exact hi)]
  unfold pwsC
  rw [List.getElem_map, List.getElem_range]
 | false =>
  refine ⟨fun _ => ?_, fun _ => rfl⟩
  have := (mst_iff hp h2 X hk _).1 (sol_ok hP hTT hn he)
  rw [this]
  exact SpC.of_sum hp _ _ _ fun i hi => (SpC.mem (List.mem_map.2 ⟨i, List.mem_range.2 hi, rfl⟩)).sm _
/-- There is a power that is made of those before it, and it is no later than the dimension. -/
theorem min_ex (hP : isP p = true) (hp : 0 < p) (X : Cl p sq) : ∃ k, 1 ≤ k ∧ k ≤ pw sq.length ∧ (mstR p sq sq.length X.l k).2 = true ∧ ∀ j, 1 ≤ j → j < k → (mstR p sq sq.length X.l j).2 = false := by
 have h3 := isP_ge hP
 have ind : ∀ k, (∀ j, 1 ≤ j → j < k → (mstR p sq sq.length X.l j).2 = false) → IndC (pwsC hp X k) := by
  intro k
  induction k with
  | zero => exact fun _ c _ i hi => by rw [rowsC_len, pwsC_len] at hi; omega
  | succ k ih =>
   intro h
   rw [pwsC_succ]
   refine (ih fun j h1 h2 => h j h1 (by omega)).snoc hP fun hs => ?_
   by_cases hk : k = 0
   · subst hk
     have h9 := Sp.nil hs 0 (pw_pos _)
     have h8 := Cl.one_co (sq := sq) hp (pw_pos _)
     rw [if_pos rfl] at h8
     have h7 : (Cl.pwr hp X 0).co 0 % p = 1 % p := h8
     rw [h7, Int.emod_eq_of_lt (by omega) (by omega)] at h9
     omega
   · have h1 := h k (by omega) (by omega)
     rw [(mst_sp hP hp X (by omega)).2 hs] at h1
     cases h1
 have hle : ∀ k, IndC (pwsC hp X k) → k ≤ pw sq.length := fun k hI => by
  have hTE := rowsC_tab (pwsC hp X k)
  have h5 := Ind.basis hP hTE hI
  have h6 := (basisL_red hP _ hTE).len
  rw [h5, rowsC_len, pwsC_len] at h6
  exact h6
 have key : ∀ f k, k + f = pw sq.length + 1 → 1 ≤ k → (∀ j, 1 ≤ j → j < k → (mstR p sq sq.length X.l j).2 = false) → ∃ k, 1 ≤ k ∧ k ≤ pw sq.length ∧ (mstR p sq sq.length X.l k).2 = true ∧ ∀ j, 1 ≤ j → j < k → (mstR p sq sq.length X.l j).2 = false := by
  intro f
  induction f with
  | zero =>
   intro k hk _ h
   have := hle k (ind k h)
   omega
  | succ f ih =>
   intro k hk h1 h
   cases hs : (mstR p sq sq.length X.l k).2 with
   | true => exact ⟨k, h1, by omega, hs, h⟩
   | false =>
    refine ih (k + 1) (by omega) (by omega) fun j hj hj2 => ?_
    rcases Nat.lt_or_ge j k with hl | hl
    · exact h j hj hl
    · obtain rfl : j = k := by omega
      exact hs
 have hpos := pw_pos sq.length
 exact key (pw sq.length) 1 (by omega) (Nat.le_refl _) fun j h1 h2 => by omega
theorem minK_spec (hP : isP p = true) (hp : 0 < p) (X : Cl p sq) : 1 ≤ minK p sq sq.length X.l ∧ minK p sq sq.length X.l ≤ pw sq.length ∧ (mstR p sq sq.length X.l (minK p sq sq.length X.l)).2 = true ∧ ∀ j, 1 ≤ j → j < minK p sq sq.length X.l → (mstR p sq sq.length X.l j).2 = false := by
 obtain ⟨k, h1, h2, h3, h4⟩ := min_ex hP hp X
 have e : minK p sq sq.length X.l = k := minTo_at h3 _ 1 h1 (by omega) fun i hi hi2 => h4 i hi hi2
 rw [e]
 exact ⟨h1, h2, h3, h4⟩
/-- The multivector put into its minimal polynomial is 0. -/
theorem min_zero (hP : isP p = true) (hp : 0 < p) (X : Cl p sq) : (minL p sq sq.length X.l).length = minK p sq sq.length X.l + 1 ∧ NumsL p (minL p sq sq.length X.l) ∧
    Cl.sum hp (minK p sq sq.length X.l + 1) (fun i => (minL p sq sq.length X.l).getD i 0 * Cl.pwr hp X i) = Cl.zero hp := by
 have h3 := isP_ge hP
 have h2 : 2 ≤ p := by omega
 obtain ⟨h1, _, hs, _⟩ := minK_spec hP hp X
 obtain ⟨k, hk⟩ : ∃ k, k = minK p sq sq.length X.l := ⟨_, rfl⟩
 unfold minL
 rw [← hk] at h1 hs ⊢
 obtain ⟨hT, hl⟩ := pws_tab hp h2 X k
 have hTT : Tab p k (transL (pwsL p sq sq.length X.l k)) := by have := transL_tab (p := p) hp hT; rwa [hl] at this
 obtain ⟨_, hn⟩ := pwr_nums hp h2 X k
 unfold mstR solR at hs ⊢
 cases he : endB (basisL p (augL (transL (pwsL p sq sq.length X.l k)) (pwrL p sq sq.length X.l k))) k (basisL p (augL (transL (pwsL p sq sq.length X.l k)) (pwrL p sq sq.length X.l k))).length with
 | true => rw [he] at hs; cases hs
 | false =>
  have hsol := (mst_iff hp h2 X (by omega) _).1 (sol_ok hP hTT hn he)
  obtain ⟨y, hy⟩ : ∃ y, y = solTo (basisL p (augL (transL (pwsL p sq sq.length X.l k)) (pwrL p sq sq.length X.l k))) k (basisL p (augL (transL (pwsL p sq sq.length X.l k)) (pwrL p sq sq.length X.l k))).length := ⟨_, rfl⟩
  have hyl : y.length = k := by rw [hy]; exact solTo_len _ _ _
  rw [← hy] at hsol ⊢
  have hsl : (scaleL p y (-1)).length = k := by rw [scaleL_len, hyl]
  refine ⟨by simp only [Bool.false_eq_true, if_false]; rw [List.length_append, hsl]; rfl, ?_, ?_⟩
  · intro x hx
    simp only [Bool.false_eq_true, if_false] at hx
    rcases List.mem_append.1 hx with h | h
    · exact scaleL_nums hp _ _ x h
    · rw [List.mem_singleton.1 h]; omega
  · simp only [Bool.false_eq_true, if_false]
    show Cl.sum hp k _ + (scaleL p y (-1) ++ [1]).getD k 0 * Cl.pwr hp X k = Cl.zero hp
    have e1 : (scaleL p y (-1) ++ [1]).getD k 0 = 1 := by
     have := getD_app_right (0 : Int) (scaleL p y (-1)) [1] 0
     rw [hsl, Nat.add_zero] at this
     rw [this]; rfl
    rw [e1, Cl.one_sm]
    have e2 : Cl.sum hp k (fun i => (scaleL p y (-1) ++ [1]).getD i 0 * Cl.pwr hp X i) = (-1 : Int) * Cl.sum hp k fun q => y.getD q 0 * Cl.pwr hp X q := by
     have e3 : ∀ z : Cl p sq, (-1 : Int) * z = ((-1 : Int) * Cl.one hp) * z := fun z => by rw [Cl.sm_mul, Cl.one_mul]
     rw [e3, Cl.mul_sumr]
     refine Cl.sum_congr hp _ fun i hi => ?_
     rw [getD_app_left 0 _ (by rw [hsl]; exact hi), ← e3, Cl.sm_sm]
     refine Cl.sm_cg ?_ _
     rw [scaleL_getD (-1) (show i < y.length by omega), Int.emod_emod_of_dvd _ (Int.dvd_refl p), Int.mul_comm]
    rw [e2, ← hsol]
    exact Cl.gone _
end
end Go.Proofs.YtmkjdpnoloofjaaGreat
