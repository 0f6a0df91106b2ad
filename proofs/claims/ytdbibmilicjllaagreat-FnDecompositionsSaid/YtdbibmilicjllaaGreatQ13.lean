/-
  LawFnDecompositions: part 13 of the texts that the proof needs. No condition.
-/
import Derived.Test.YtdbibmilicjllaaGreatQ12
namespace Go.Proofs.YtdbibmilicjllaaGreat
open Go.RowKit
/-- A number of a row of a list of lists, and what it is when it is written. -/
theorem OwnM.elem {w : World} {B : Nat} {A : Option Addr} {n c : Nat} {xss : List (List Int)} (h : OwnM w B A n c xss) {k : Nat} (hk : k < n) (h0 : 0 < (xss.getD k []).length) :
    ∃ (gl ol : Nat) (hx : k < xss.length) (g0 c0 : Nat), A = some ⟨gl, ol, none⟩ ∧ ol = 0 ∧ RowAt w ⟨gl, ol + k, none⟩ (.slice (some ⟨g0, 0, none⟩) xss[k].length c0) ∧ Own w B 2 (some ⟨g0, 0, none⟩) xss[k].length c0 (ints xss[k]) ∧
      ∀ (j : Nat) (r : Int), OwnM (w.setCell ⟨g0, j, none⟩ (.int .i64 r)) B A n c (xss.set k (xss[k].set j r)) ∧ w.grownBy (w.setCell ⟨g0, j, none⟩ (.int .i64 r)) (some g0) := by
  obtain ⟨rows, ho, hn⟩ := h
  have hx : k < xss.length := by rw [← hn.len, ho.len]; exact hk
  obtain ⟨A1, c1, e, hr⟩ := hn.row k hx
  rw [getD_of_lt [] hx] at h0
  rcases hr.form with ⟨-, hz⟩ | ⟨g0, rfl, -, -⟩
  · omega
  rcases ho.form with ⟨-, hz⟩ | ⟨gl, rfl, -, -⟩
  · omega
  refine ⟨gl, 0, hx, g0, c1, rfl, rfl, ⟨gl, 0 + k, n, c, rows, rfl, ho.base (Nat.zero_le _), by omega, by rw [Nat.zero_add]; exact e⟩, hr, fun j r => ?_⟩
  obtain ⟨m1, g1⟩ := hr.set_ j (.int .i64 r)
  refine ⟨⟨rows, ho.grown g1 (ho.ne hr (by decide)), by rw [List.length_set]; exact hn.len, fun q hq => ?_, hn.apart⟩, g1⟩
  rw [List.length_set] at hq
  by_cases hqk : k = q
  · subst hqk
    rw [ints_set] at m1
    rw [List.getElem_set_self, List.length_set]
    exact ⟨_, c1, e, m1⟩
  · rw [List.getElem_set_ne hqk]
    obtain ⟨A2, c2, e2, ho2⟩ := hn.row q hq
    refine ⟨A2, c2, e2, ho2.grown g1 ?_⟩
    cases hb : (Value.slice A2 xss[q].length c2).ownBlock with
    | none => exact .inl rfl
    | some g2 =>
      refine .inr fun e3 => ?_
      have h1 : (rows[k]?).bind Value.ownBlock = some g0 := by rw [e]; rfl
      have h2 : (rows[q]?).bind Value.ownBlock = some g0 := by rw [e2]; exact hb.trans e3
      rcases Nat.lt_or_ge k q with h | h
      · exact hn.apart k q g0 h h1 h2
      · exact hn.apart q k g0 (by omega) h2 h1
/-- A space and a matrix, drawn on from a source. -/
def DrewD (g : Nat) (w : World) (e : Ending) (w' : World) : Prop := ∃ (P : Int) (A : Option Addr) (n c : Nat) (sq : List Int) (AL : Option Addr) (r cl m : Nat) (L : List (List Int)), e = .returned (.tuple #[.agg #[.int .i64 P, .slice A n c], .slice AL r cl]) ∧ P ≤ 17 ∧ n ≤ 7 ∧ 0 < r ∧ r ≤ 16 ∧ 1 ≤ m ∧ m ≤ 16 ∧ Rect m L ∧ Own w' w.heap.size 2 A n c (ints sq) ∧ OwnM w' w.heap.size AL r cl L ∧ Dr g 225 w w'
set_option maxHeartbeats 12800000 in
set_option maxRecDepth 8000 in
theorem l08Draw_any (g : Nat) (w : World) (hs : Src w g 225) :
    Calls Tryz.prog 151 #[.pointer (some ⟨g, 0, none⟩)] w (DrewD g w) := by
  have k0 : Blk (w.alloc (.cells #[.int .i64 0, .slice none 0 0] 26)) w.heap.size 26 #[.int .i64 0, .slice none 0 0] := Blk.new _ _ _
  have d0 := (Dr.refl hs).alloc (.cells #[.int .i64 0, .slice none 0 0] 26)
  have hsp := l07Space_any g (w.alloc (.cells #[.int .i64 0, .slice none 0 0] 26)) d0.s'
  go_enter Tryz.func151, Tryz.ntmps151
  go_wp2_with fail
  refine hsp.mono ?_
  rintro e w3 ⟨P, A, n, c, sq, rfl, hP, hn, hO, hd3⟩
  have d4 := (d0.trans hd3).alloc (.cells #[.int .i64 P, .slice A n c] 26)
  have k4 := (k0.dr hd3 (by decide)).alloc (.cells #[.int .i64 P, .slice A n c] 26)
  have kb4 : Blk (w3.alloc (.cells #[.int .i64 P, .slice A n c] 26)) w3.heap.size 26 #[.int .i64 P, .slice A n c] := Blk.new _ _ _
  have hres : w.heap.size < w3.heap.size := Nat.lt_of_lt_of_le (show w.heap.size < (w.alloc (.cells #[.int .i64 0, .slice none 0 0] 26)).heap.size by simp) hd3.size
  have o4 := (hO.base (B' := w.heap.size) (by simp)).below ((Below.refl _ _).alloc (Nat.le_refl _) (.cells #[.int .i64 P, .slice A n c] 26))
  have hsl := o4.rd.lenI
  clear hsp k0 hO hd3 d0
  obtain ⟨q0, q1⟩ := kb4.two
  cases h1 : isSp P sq
  · have H1 := Lib.hid h1
    clear h1
    go_wp2_with fail
    refine (l03Is_b _ _ _ _ _ _ (by omega) o4.rd H1.out).mono ?_
    rintro e w5 ⟨rfl, hb⟩
    have d5 := d4.then hb
    have k5 := k4.below hb k4.lt
    have kb5 := kb4.below hb kb4.lt
    have o5 := o4.below hb
    clear hb d4 k4 kb4 o4 q0 q1
    obtain ⟨q0, q1⟩ := kb5.two
    have hsz := d5.size
    have l6 : OwnM ((w5.alloc (.cells #[.int .i64 1] 2)).alloc (.cells #[.slice (some ⟨w5.heap.size, 0, none⟩) 1 1] 24)) w.heap.size (some ⟨w5.heap.size + 1, 0, none⟩) 1 1 [[1]] := OwnM.lit1 ((Blk.new w5 2 #[.int .i64 1]).alloc _) (Blk.newAt3 (by simp)) hsz (by omega)
    have k6 : Blk ((w5.alloc (.cells #[.int .i64 1] 2)).alloc (.cells #[.slice (some ⟨w5.heap.size, 0, none⟩) 1 1] 24)) w.heap.size 26 #[.int .i64 0, .slice none 0 0] := (k5.alloc _).alloc _
    have o6 : Own ((w5.alloc (.cells #[.int .i64 1] 2)).alloc (.cells #[.slice (some ⟨w5.heap.size, 0, none⟩) 1 1] 24)) w.heap.size 2 A n c (ints sq) := (o5.below ((Below.refl _ _).alloc (Nat.le_refl _) _)).below ((Below.refl _ _).alloc (Nat.le_refl _) _)
    have d6 : Dr g 225 w ((w5.alloc (.cells #[.int .i64 1] 2)).alloc (.cells #[.slice (some ⟨w5.heap.size, 0, none⟩) 1 1] 24)) := (d5.alloc _).alloc _
    obtain ⟨p0, p1⟩ := k6.two
    have f0 := k6.frozen 0
    have f1 := k6.frozen 1
    have hf : ∀ {m d : Nat} {A2 : Option Addr} {xs : List Int}, Own ((w5.alloc (.cells #[.int .i64 1] 2)).alloc (.cells #[.slice (some ⟨w5.heap.size, 0, none⟩) 1 1] 24)) w.heap.size 2 A2 m d (ints xs) → Own ((((w5.alloc (.cells #[.int .i64 1] 2)).alloc (.cells #[.slice (some ⟨w5.heap.size, 0, none⟩) 1 1] 24)).setCell ⟨w.heap.size, 0, none⟩ (.int .i64 P)).setCell ⟨w.heap.size, 1, none⟩ (.slice A n c)) w.heap.size 2 A2 m d (ints xs) := by
      intro m c' A' xs ho
      exact (ho.far k6 (by decide) 0 _).far (k6.set_ 0 (.int .i64 P)) (by decide) 1 _
    have hfM := l6.relB (g := g) (res := w.heap.size) (.inr ⟨0, none, 0, 0, P, A, n, c, k6, rfl⟩)
    have d7 := (d6.setNew (Nat.le_refl _) 0 (.int .i64 P)).setNew (Nat.le_refl _) 1 (.slice A n c)
    go_wp2
    exact bodyPost_ret (v := .tuple #[.agg #[.int .i64 P, .slice A n c], .slice (some ⟨w5.heap.size + 1, 0, none⟩) 1 1]) (by simp [results, Tryz.results151, go_sem, p0, p1]) rfl ⟨P, A, n, c, sq, _, 1, 1, 1, [[1]], rfl, hP, hn, by decide, by decide, by decide, by decide, (fun u hu => by rw [List.mem_singleton.1 hu]; rfl), hf o6, hfM, d7⟩
  · obtain ⟨HP, hn1, hn2, hq⟩ := isSp_dim h1
    obtain ⟨hp3, hp2⟩ := isP_ge HP
    have H1 := Lib.hid h1
    rw [hsl] at hn1 hn2
    have HQ := Lib.hid (nums_numsL hq)
    have HPP := Lib.hid HP
    obtain ⟨z, hz⟩ : ∃ z, z = discT P sq n := ⟨_, rfl⟩
    have hdi := Lib.hid fun w' (h : Below (w3.alloc (.cells #[.int .i64 P, .slice A n c] 26)).heap.size (w3.alloc (.cells #[.int .i64 P, .slice A n c] 26)) w') => l03Disc_any P A n c sq w' (by omega) hp2 (by omega) (o4.below h).rd HQ.out
    rw [← hz] at hdi
    clear h1 hq HP hz
    go_wp2_with fail
    refine (l03Is_b _ _ _ _ _ _ (by omega) o4.rd H1.out).mono ?_
    rintro e w5 ⟨rfl, hb⟩
    have kb2 := kb4.below hb kb4.lt
    clear q0 q1
    obtain ⟨q0, q1⟩ := kb2.two
    go_wp2_with fail
    refine (hdi.out w5 hb).mono ?_
    rintro e w6 ⟨rfl, hb3⟩
    have hb4 := hb.trans (hb3.mono hb.size)
    have d5 := d4.then hb4
    have k5 := k4.below hb4 k4.lt
    have kb5 := kb4.below hb4 kb4.lt
    have o5 := o4.below hb4
    clear q0 q1 kb2 hb hb3 hdi hb4 d4 k4 kb4 o4
    by_cases hz : z = 0
    · have e8 : (z == 0) = true := by simp [hz]
      obtain ⟨q0, q1⟩ := kb5.two
      have hsz := d5.size
      have l6 : OwnM ((w6.alloc (.cells #[.int .i64 1] 2)).alloc (.cells #[.slice (some ⟨w6.heap.size, 0, none⟩) 1 1] 24)) w.heap.size (some ⟨w6.heap.size + 1, 0, none⟩) 1 1 [[1]] := OwnM.lit1 ((Blk.new w6 2 #[.int .i64 1]).alloc _) (Blk.newAt3 (by simp)) hsz (by omega)
      have k6 : Blk ((w6.alloc (.cells #[.int .i64 1] 2)).alloc (.cells #[.slice (some ⟨w6.heap.size, 0, none⟩) 1 1] 24)) w.heap.size 26 #[.int .i64 0, .slice none 0 0] := (k5.alloc _).alloc _
      have o6 : Own ((w6.alloc (.cells #[.int .i64 1] 2)).alloc (.cells #[.slice (some ⟨w6.heap.size, 0, none⟩) 1 1] 24)) w.heap.size 2 A n c (ints sq) := (o5.below ((Below.refl _ _).alloc (Nat.le_refl _) _)).below ((Below.refl _ _).alloc (Nat.le_refl _) _)
      have d6 : Dr g 225 w ((w6.alloc (.cells #[.int .i64 1] 2)).alloc (.cells #[.slice (some ⟨w6.heap.size, 0, none⟩) 1 1] 24)) := (d5.alloc _).alloc _
      obtain ⟨p0, p1⟩ := k6.two
      have f0 := k6.frozen 0
      have f1 := k6.frozen 1
      have hf : ∀ {m d : Nat} {A2 : Option Addr} {xs : List Int}, Own ((w6.alloc (.cells #[.int .i64 1] 2)).alloc (.cells #[.slice (some ⟨w6.heap.size, 0, none⟩) 1 1] 24)) w.heap.size 2 A2 m d (ints xs) → Own ((((w6.alloc (.cells #[.int .i64 1] 2)).alloc (.cells #[.slice (some ⟨w6.heap.size, 0, none⟩) 1 1] 24)).setCell ⟨w.heap.size, 0, none⟩ (.int .i64 P)).setCell ⟨w.heap.size, 1, none⟩ (.slice A n c)) w.heap.size 2 A2 m d (ints xs) := by
        intro m c' A' xs ho
        exact (ho.far k6 (by decide) 0 _).far (k6.set_ 0 (.int .i64 P)) (by decide) 1 _
      have hfM := l6.relB (g := g) (res := w.heap.size) (.inr ⟨0, none, 0, 0, P, A, n, c, k6, rfl⟩)
      have d7 := (d6.setNew (Nat.le_refl _) 0 (.int .i64 P)).setNew (Nat.le_refl _) 1 (.slice A n c)
      go_wp2
      exact bodyPost_ret (v := .tuple #[.agg #[.int .i64 P, .slice A n c], .slice (some ⟨w6.heap.size + 1, 0, none⟩) 1 1]) (by simp [results, Tryz.results151, go_sem, p0, p1]) rfl ⟨P, A, n, c, sq, _, 1, 1, 1, [[1]], rfl, hP, hn, by decide, by decide, by decide, by decide, (fun u hu => by rw [List.mem_singleton.1 hu]; rfl), hf o6, hfM, d7⟩
    · have e8 : (z == 0) = false := by simp [hz]
      have hun := l02Unit_any n w6 (by omega)
      obtain ⟨q0, q1⟩ := kb5.two
      go_wp2_with fail
      refine hun.mono ?_
      rintro e w7 ⟨A0, c0, rfl, hU⟩
      have l5 := OwnM.of hU
      have HBB := Lib.hid d5.size
      have HSQ := Lib.hid (show ∀ gb, (Value.slice A n c).ownBlock = some gb → gb < w6.heap.size from fun gb hb => (World.ownsRow.lt o5 gb hb).2)
      have hb7 := hU.b
      have HW67 := Lib.hid hU.b.size
      replace d5 := d5.then hb7
      replace k5 := k5.below hb7 k5.lt
      replace kb5 := kb5.below hb7 kb5.lt
      replace o5 := o5.below hb7
      clear hun hU hb7 q0 q1 e8
      have hnx := next_any g 10 w7 d5.s' (by omega)
      obtain ⟨q0, q1⟩ := kb5.two
      go_wp2_with fail
      refine hnx.mono ?_
      rintro e w8 ⟨r8, rfl, _, _, hd8⟩
      replace d5 := d5.trans hd8
      replace k5 := k5.dr hd8 (by decide)
      replace kb5 := kb5.dr hd8 (by decide)
      replace o5 := o5.dr hd8 (by decide)
      replace l5 := l5.dr hd8 (by decide) (by decide)
      have HW68 := Lib.hid (show w6.heap.size ≤ w8.heap.size from Nat.le_trans HW67.out hd8.size)
      clear hnx hd8 q0 q1
      by_cases h8 : r8 = 0
      · have e9 : (r8 == 0) = true := by simp [h8]
        clear l5
        obtain ⟨q0, q1⟩ := kb5.two
        go_wp2
        refine wp_obsR 11 (Dr g 225) [[], [], [], [2], [], [], [], [], [6, 7], [5, 6, 7, 8], [1, 2, 3, 4, 5, 6, 7, 8, 9], [0, 1, 2, 3, 4, 5, 6, 7, 8, 9, 10], [0, 1, 2, 3, 4, 5, 6, 7, 8, 9, 10]] [[], [], [], [], [], [], [], [], [99], [], [99]] (fun x => [VIs (.agg #[.int .i64 P, .slice A n c]), VIs (.pointer (some ⟨g, 0, none⟩)), VIs (.pointer (some ⟨w3.heap.size, 0, none⟩)), VIs (.int .i64 (P)), VIs (.int .i64 (n)), VIs (.int .i64 (n)), VIs (.pointer (some ⟨g, 0, none⟩)), VBs 2 #[.int .i64 0, .int .i64 0, .int .i64 1], VIz 2, VNt 1 7, VRm w.heap.size]) (fun w' => Blk w' w.heap.size 26 #[.int .i64 0, .slice none 0 0] ∧ Blk w' w3.heap.size 26 #[.int .i64 P, .slice A n c] ∧ Own w' w.heap.size 2 A n c (ints sq) ∧ Dr g 225 w w') (by kernel_rfl) (by kernel_rfl) (fun x x' j hx => by
            rcases j with _ | _ | _ | _ | _ | _ | _ | _ | _ | _ | _ | j
            · rfl
            · rfl
            · rfl
            · rfl
            · rfl
            · rfl
            · rfl
            · rfl
            · rfl
            · rfl
            · rfl
            · rfl)
          (weak_ofR [0, 1, 2, 3, 4, 5, 6, 7, 8, 9, 10] (by decide) (fun k hk x v w w' hp hr => by
            simp only [List.mem_cons, List.not_mem_nil, or_false] at hk
            rcases hk with rfl | rfl | rfl | rfl | rfl | rfl | rfl | rfl | rfl | rfl | rfl
            · exact hp
            · exact hp
            · exact hp
            · exact hp
            · exact hp
            · exact hp
            · exact hp
            · obtain ⟨g9, e9, k9⟩ := hp; exact ⟨g9, e9, k9.dr hr (by decide)⟩
            · exact hp
            · exact hp
            · exact VRm.dr hp hr (by decide) (by decide))) (fun j _ _ h hb => hb.either (fun hb => ⟨h.1.below hb h.1.lt, h.2.1.below hb h.2.1.lt, h.2.2.1.below hb, h.2.2.2.then hb⟩) (fun hr => ⟨h.1.dr hr (by decide), h.2.1.dr hr (by decide), h.2.2.1.dr hr (by decide), h.2.2.2.trans hr⟩)) (⟨k5.drew, kb5.drew, o5.below (Below.refl _ _).drew, d5.then (Below.refl _ _).drew⟩) (fun x => ?_)
        refine obs_stepR (Eq.trans (by simp only [zA, zC]; exact rfl) rfl) rfl (fun w' hS hV K hK => ?_) ?_
        · obtain ⟨q0, q1⟩ := hS.2.1.two
          go_simp
          exact hK.out _ _ _ rfl rfl rfl (Below.refl _ _)
        simp only [zD, zE, zF]
        refine obs_stepR (Eq.trans (by simp only [zA, zB, zC]; exact rfl) rfl) rfl (fun w' hS hV K hK => ?_) ?_
        · obtain ⟨q0, q1⟩ := hS.2.1.two
          go_simp
          exact hK.out _ _ _ rfl rfl rfl (Below.refl _ _)
        simp only [zD, zE, zF]
        refine obs_stepR (Eq.trans (by simp only [zA, zB, zC]; exact rfl) rfl) rfl (fun w' hS hV K hK => ?_) ?_
        · obtain ⟨q0, q1⟩ := hS.2.1.two
          go_simp
          exact hK.out _ _ _ rfl rfl rfl (Below.refl _ _)
        simp only [zD, zE, zF]
        refine obs_stepR (Eq.trans (by simp only [zA, zB, zC]; exact rfl) rfl) rfl (fun w' hS hV K hK => ?_) ?_
        · have e2 : x 2 = (.pointer (some ⟨w3.heap.size, 0, none⟩)) := hV 2 (by decide)
          obtain ⟨q0, q1⟩ := hS.2.1.two
          go_simp
          exact hK.out _ _ _ rfl rfl rfl (Below.refl _ _)
        simp only [zD, zE, zF]
        refine obs_stepR (Eq.trans (by simp only [zA, zB, zC]; exact rfl) rfl) rfl (fun w' hS hV K hK => ?_) ?_
        · obtain ⟨q0, q1⟩ := hS.2.1.two
          go_simp
          exact hK.out _ _ _ rfl rfl rfl (Below.refl _ _)
        simp only [zD, zE, zF]
        refine obs_stepR (Eq.trans (by simp only [zA, zB, zC]; exact rfl) rfl) rfl (fun w' hS hV K hK => ?_) ?_
        · obtain ⟨q0, q1⟩ := hS.2.1.two
          go_simp
          exact hK.out _ _ _ rfl rfl rfl (Below.refl _ _)
        simp only [zD, zE, zF]
        refine obs_stepR (Eq.trans (by simp only [zA, zB, zC]; exact rfl) rfl) rfl (fun w' hS hV K hK => ?_) ?_
        · obtain ⟨q0, q1⟩ := hS.2.1.two
          go_simp
          exact hK.out _ _ _ rfl rfl rfl (Below.refl _ _)
        simp only [zD, zE, zF]
        refine obs_stepR (Eq.trans (by simp only [zA, zB, zC]; exact rfl) rfl) rfl (fun w' hS hV K hK => ?_) ?_
        · obtain ⟨q0, q1⟩ := hS.2.1.two
          go_simp
          exact hK.out _ _ _ rfl rfl ⟨_, rfl, Blk.new _ _ _⟩ ((Below.refl _ _).alloc (Nat.le_refl _) _)
        simp only [zD, zE, zF]
        refine obs_stepR (Eq.trans (by simp only [zA, zB, zC]; exact rfl) rfl) rfl (fun w' hS hV K hK => ?_) ?_
        · have e6 : x 6 = (.pointer (some ⟨g, 0, none⟩)) := hV 6 (by decide)
          obtain ⟨g7, e7, h7⟩ := hV 7 (by decide)
          obtain ⟨q0, q1⟩ := hS.2.1.two
          go_simp
          refine (pick_any g g7 [0, 0, 1] w' hS.2.2.2.s' h7 (by decide) (by decide)).mono ?_
          rintro e v1 ⟨r9, hr9, rfl, hd9⟩
          exact hK.out _ _ _ rfl rfl ⟨r9, rfl, by simp at hr9; omega, by simp at hr9; omega⟩ hd9
        simp only [zD, zE, zF]
        refine obs_stepR (Eq.trans (by simp only [zA, zB, zC]; exact rfl) rfl) rfl (fun w' hS hV K hK => ?_) ?_
        · have e5 : x 5 = (.int .i64 (n)) := hV 5 (by decide)
          obtain ⟨g7, e7, h7⟩ := hV 7 (by decide)
          obtain ⟨k8, e8, b8, d8⟩ := hV 8 (by decide)
          obtain ⟨q0, q1⟩ := hS.2.1.two
          obtain ⟨j, rfl⟩ : ∃ j : Nat, k8 = (j : Int) := ⟨k8.toNat, by omega⟩
          have W9 : IntKind.i64.wrap ((n : Int) + (j : Int)) = ((n + j : Nat) : Int) := (i64_fit _ (by omega) (by omega)).trans (by omega)
          go_simp
          exact hK.out _ _ _ rfl rfl ⟨n + j, rfl, by omega, by omega⟩ (Below.refl _ _)
        simp only [zD, zE, zF]
        refine obs_stepR (Eq.trans (by simp only [zA, zB, zC]; exact rfl) rfl) rfl (fun w' hS hV K hK => ?_) ?_
        · have e1 : x 1 = (.pointer (some ⟨g, 0, none⟩)) := hV 1 (by decide)
          have e3 : x 3 = (.int .i64 (P)) := hV 3 (by decide)
          have e4 : x 4 = (.int .i64 (n)) := hV 4 (by decide)
          obtain ⟨g7, e7, h7⟩ := hV 7 (by decide)
          obtain ⟨k8, e8, b8, d8⟩ := hV 8 (by decide)
          obtain ⟨k9, e9, b9, d9⟩ := hV 9 (by decide)
          obtain ⟨q0, q1⟩ := hS.2.1.two
          go_simp
          refine (l02Draw_any g P n k9 w' hS.2.2.2.s' (by omega) hp2 (by omega) (by omega)).mono ?_
          rintro e v1 ⟨A9, c9, L9, rfl, hT9, ho9, hd9⟩
          exact hK.out _ _ _ rfl rfl ⟨_, _, _, k9, _, rfl, by omega, by omega, by omega, by omega, Rect.of_tab hT9, ho9.base hS.2.2.2.size⟩ hd9
        simp only [zD, zE, zF]
        refine fun w' hS hV => ?_
        have e0 : x 0 = (.agg #[.int .i64 P, .slice A n c]) := hV 0 (by decide)
        have e1 : x 1 = (.pointer (some ⟨g, 0, none⟩)) := hV 1 (by decide)
        have e2 : x 2 = (.pointer (some ⟨w3.heap.size, 0, none⟩)) := hV 2 (by decide)
        have e3 : x 3 = (.int .i64 (P)) := hV 3 (by decide)
        have e4 : x 4 = (.int .i64 (n)) := hV 4 (by decide)
        have e5 : x 5 = (.int .i64 (n)) := hV 5 (by decide)
        have e6 : x 6 = (.pointer (some ⟨g, 0, none⟩)) := hV 6 (by decide)
        obtain ⟨g7, e7, h7⟩ := hV 7 (by decide)
        obtain ⟨k8, e8, b8, d8⟩ := hV 8 (by decide)
        obtain ⟨k9, e9, b9, d9⟩ := hV 9 (by decide)
        obtain ⟨A10, r10, c10, m10, L10, e10, t10, u10, v10, x10, y10, h10⟩ := hV 10 (by decide)
        simp only [e0, e1, e2, e3, e4, e5, e6, e7, e8, e9, e10]
        clear e0 e1 e2 e3 e4 e5 e6 e7 e8 e9 e10
        clear k5 kb5 o5 d5
        obtain ⟨k5, kb5, o5, d5⟩ := hS
        have l5 := h10
        obtain ⟨w6, rfl⟩ : ∃ W, W = w' := ⟨_, rfl⟩
        clear q0 q1
        obtain ⟨p0, p1⟩ := k5.two
        have f0 := k5.frozen 0
        have f1 := k5.frozen 1
        refine any_one (j := 11) (by kernel_rfl) (Eq.trans (by simp only [zA, zB, zC]; exact rfl) rfl) (fun K hK => ?_)
        go_simp
        refine hK.out _ _ (any_one (j := 12) (by kernel_rfl) (Eq.trans (by simp only [zA, zB, zC]; exact rfl) rfl) (fun K hK => ?_))
        go_simp
        refine hK.out _ _ (wpAny_done (by kernel_rfl) ?_ _)
        obtain ⟨p0, p1⟩ := k5.two
        have f0 := k5.frozen 0
        have f1 := k5.frozen 1
        have hf : ∀ {m d : Nat} {A2 : Option Addr} {xs : List Int}, Own w6 w.heap.size 2 A2 m d (ints xs) → Own ((w6.setCell ⟨w.heap.size, 0, none⟩ (.int .i64 P)).setCell ⟨w.heap.size, 1, none⟩ (.slice A n c)) w.heap.size 2 A2 m d (ints xs) := by
          intro m c' A' xs ho
          exact (ho.far k5 (by decide) 0 _).far (k5.set_ 0 (.int .i64 P)) (by decide) 1 _
        have hfM := l5.relB (g := g) (res := w.heap.size) (.inr ⟨0, none, 0, 0, P, A, n, c, k5, rfl⟩)
        go_wp2
        exact bodyPost_ret (v := .tuple #[.agg #[.int .i64 P, .slice A n c], .slice A10 r10 c10]) (by simp [results, Tryz.results151, go_sem, p0, p1]) rfl ⟨P, A, n, c, sq, A10, r10, c10, m10, L10, rfl, hP, hn, t10, u10, v10, x10, y10, hf o5, hfM, (d5.setNew (Nat.le_refl _) 0 _).setNew (Nat.le_refl _) 1 _⟩
      · have e9 : (r8 == 0) = false := by simp [h8]
        have hus := l07Units_any g P A n c sq 5 w8 d5.s' HPP.out hn2 (o5.base (Nat.zero_le _)) HQ.out (by omega)
        obtain ⟨q0, q1⟩ := kb5.two
        go_wp2_with fail
        refine hus.mono ?_
        rintro e w9 ⟨AU, ml, cu, LU, rfl, hml, hLU, hu9, hd9⟩
        have HLU := Lib.hid hLU
        replace d5 := d5.trans hd9
        replace k5 := k5.dr hd9 (by decide)
        replace kb5 := kb5.dr hd9 (by decide)
        replace o5 := o5.dr hd9 (by decide)
        replace l5 := l5.dr hd9 (by decide) (by decide)
        have u5 := hu9.base (B' := 0) (Nat.zero_le _)
        have HW69 := Lib.hid (show w6.heap.size ≤ w9.heap.size from Nat.le_trans HW68.out hd9.size)
        have HT0 := Lib.hid (unitM_tab (p := P) (show 2 ≤ P by omega) n)
        clear hus hd9 hLU hu9 q0 q1 e9
        go_wp2
        go_loopw [6, 8] (fun mv iv wr => ∃ (i : Nat) (A0 : Option Addr) (c0 : Nat) (M : List (List Int)), i ≤ ml ∧ iv = .int .i64 i ∧ mv = .slice A0 n c0 ∧ Tab P n M ∧ OwnM wr w6.heap.size A0 n c0 M ∧ Below w9.heap.size w9 wr) (fun _ iv _ => ml - (intOf iv).toNat)
        case atStart => exact ⟨0, A0, c0, unitM n, by omega, rfl, rfl, HT0.out, l5, Below.refl _ _⟩
        case round =>
          clear l5 HT0
          obtain ⟨i, A0, c0, M, hi, rfl, rfl, hTM, hL, hbr⟩ := hrel
          have HTM := Lib.hid hTM
          clear hTM
          by_cases hlt : i < ml
          · obtain ⟨gu, ou, hxu, R, f, eA, hou, hrow, hru⟩ := (u5.below hbr).at_ hlt
            subst eA
            have hu3 := HLU.out LU[i] (List.getElem_mem hxu)
            rw [hu3.1] at hrow hru
            obtain ⟨u, hu4⟩ : ∃ u, u = LU[i] := ⟨_, rfl⟩
            rw [← hu4] at hu3 hru
            have HU3 := Lib.hid hu3
            have kk := kb5.below hbr kb5.lt
            have HRF := Lib.hid fun (w' : World) (h : Below wr.heap.size wr w') => l08Reflection_any P A n c sq R f u w' HPP.out hn2 hn1 ((o5.below hbr).below h).rd HQ.out (hru.below h).rd HU3.out.2.1 HU3.out.2.2
            have HTI := Lib.hid fun (w' : World) (B : Option Addr) (d : Nat) (h : Below wr.heap.size wr w') (hb : RdII w' B n (rmatL P sq n u)) => l02Times_any P A0 n c0 M B d (rmatL P sq n u) w' (by omega) hp2 hn1 (by omega) (hL.below h).rd HTM.out hb (rmatL_tab (by omega) sq n u)
            have HTN := Lib.hid (timesM_tab (p := P) (M := M) (by omega) hn1 (rmatL_tab (by omega) sq n u) (rmatL_len (by omega) sq hn1 u))
            have HWB := Lib.hid hL
            have HOU := Lib.hid hou
            clear hu3 hu4 hxu hou hru hL
            go_wp2
            refine wp_obs 10 [[], [0], [], [], [], [], [4, 5], [4, 5, 6], [3, 4, 5, 6, 7], [0, 1, 2, 3, 4, 5, 6, 7, 8], [0, 1, 2, 3, 4, 5, 6, 7, 8, 9]] [VIs (.pointer (some ⟨w3.heap.size, 0, none⟩)), VIs (.int .i64 (P)), VIs (.slice A0 n c0), VIs (.agg #[.int .i64 P, .slice A n c]), VIs (.slice (some ⟨gu, ou, none⟩) ml cu), VIs (.int .i64 (i)), VIs (.pointer (some ⟨gu, ou + i, none⟩)), VIs (.slice R n f), VMat wr n (rmatL P sq n u), VMat wr n (timesM P M (rmatL P sq n u))] (fun w' => RowAt w' ⟨gu, ou + i, none⟩ (.slice R n f) ∧ Blk w' w3.heap.size 26 #[.int .i64 P, .slice A n c] ∧ Below wr.heap.size wr w') (by kernel_rfl) (by kernel_rfl) (fun _ _ h hb => ⟨h.1.below hb, h.2.1.below hb h.2.1.lt, h.2.2.trans (hb.mono h.2.2.size)⟩) (⟨hrow.below (Below.refl _ _).drew, kk.drew, (Below.refl _ _).drew⟩) (fun x => ?_)
            refine obs_step (Eq.trans (by simp only [zA, zC]; exact rfl) rfl) rfl (fun w' hS hV K hK => ?_) ?_
            · have t9 := hS.1.cell; obtain ⟨q0, q1⟩ := hS.2.1.two
              go_simp
              exact hK.out _ _ _ rfl rfl rfl (Below.refl _ _)
            simp only [zD, zE, zF]
            refine obs_step (Eq.trans (by simp only [zA, zB, zC]; exact rfl) rfl) rfl (fun w' hS hV K hK => ?_) ?_
            · have e0 : x 0 = (.pointer (some ⟨w3.heap.size, 0, none⟩)) := hV 0 (by decide)
              have t9 := hS.1.cell; obtain ⟨q0, q1⟩ := hS.2.1.two
              go_simp
              exact hK.out _ _ _ rfl rfl rfl (Below.refl _ _)
            simp only [zD, zE, zF]
            refine obs_step (Eq.trans (by simp only [zA, zB, zC]; exact rfl) rfl) rfl (fun w' hS hV K hK => ?_) ?_
            · have t9 := hS.1.cell; obtain ⟨q0, q1⟩ := hS.2.1.two
              go_simp
              exact hK.out _ _ _ rfl rfl rfl (Below.refl _ _)
            simp only [zD, zE, zF]
            refine obs_step (Eq.trans (by simp only [zA, zB, zC]; exact rfl) rfl) rfl (fun w' hS hV K hK => ?_) ?_
            · have t9 := hS.1.cell; obtain ⟨q0, q1⟩ := hS.2.1.two
              go_simp
              exact hK.out _ _ _ rfl rfl rfl (Below.refl _ _)
            simp only [zD, zE, zF]
            refine obs_step (Eq.trans (by simp only [zA, zB, zC]; exact rfl) rfl) rfl (fun w' hS hV K hK => ?_) ?_
            · have t9 := hS.1.cell; obtain ⟨q0, q1⟩ := hS.2.1.two
              go_simp
              exact hK.out _ _ _ rfl rfl rfl (Below.refl _ _)
            simp only [zD, zE, zF]
            refine obs_step (Eq.trans (by simp only [zA, zB, zC]; exact rfl) rfl) rfl (fun w' hS hV K hK => ?_) ?_
            · have t9 := hS.1.cell; obtain ⟨q0, q1⟩ := hS.2.1.two
              go_simp
              exact hK.out _ _ _ rfl rfl rfl (Below.refl _ _)
            simp only [zD, zE, zF]
            refine obs_step (Eq.trans (by simp only [zA, zB, zC]; exact rfl) rfl) rfl (fun w' hS hV K hK => ?_) ?_
            · have e4 : x 4 = (.slice (some ⟨gu, ou, none⟩) ml cu) := hV 4 (by decide)
              have e5 : x 5 = (.int .i64 (i)) := hV 5 (by decide)
              have t9 := hS.1.cell; obtain ⟨q0, q1⟩ := hS.2.1.two
              go_simp
              exact hK.out _ _ _ rfl rfl rfl (Below.refl _ _)
            simp only [zD, zE, zF]
            refine obs_step (Eq.trans (by simp only [zA, zB, zC]; exact rfl) rfl) rfl (fun w' hS hV K hK => ?_) ?_
            · have e6 : x 6 = (.pointer (some ⟨gu, ou + i, none⟩)) := hV 6 (by decide)
              have t9 := hS.1.cell; obtain ⟨q0, q1⟩ := hS.2.1.two
              go_simp
              exact hK.out _ _ _ rfl rfl rfl (Below.refl _ _)
            simp only [zD, zE, zF]
            refine obs_step (Eq.trans (by simp only [zA, zB, zC]; exact rfl) rfl) rfl (fun w' hS hV K hK => ?_) ?_
            · have e3 : x 3 = (.agg #[.int .i64 P, .slice A n c]) := hV 3 (by decide)
              have e7 : x 7 = (.slice R n f) := hV 7 (by decide)
              have t9 := hS.1.cell; obtain ⟨q0, q1⟩ := hS.2.1.two
              go_simp
              refine (HRF.out w' hS.2.2).mono ?_
              rintro e v1 ⟨A9, c9, rfl, hM⟩
              exact hK.out _ _ _ rfl rfl ⟨_, _, rfl, hM.after hS.2.2⟩ hM.b
            simp only [zD, zE, zF]
            refine obs_step (Eq.trans (by simp only [zA, zB, zC]; exact rfl) rfl) rfl (fun w' hS hV K hK => ?_) ?_
            · have e1 : x 1 = (.int .i64 (P)) := hV 1 (by decide)
              have e2 : x 2 = (.slice A0 n c0) := hV 2 (by decide)
              obtain ⟨A8, c8, e8, h8⟩ := hV 8 (by decide)
              have t9 := hS.1.cell; obtain ⟨q0, q1⟩ := hS.2.1.two
              go_simp
              refine (HTI.out w' _ _ hS.2.2 h8.rd).mono ?_
              rintro e v1 ⟨A9, c9, rfl, hM⟩
              exact hK.out _ _ _ rfl rfl ⟨_, _, rfl, hM.after hS.2.2⟩ hM.b
            simp only [zD, zE, zF]
            refine fun w' hS hV => ?_
            have e0 : x 0 = (.pointer (some ⟨w3.heap.size, 0, none⟩)) := hV 0 (by decide)
            have e1 : x 1 = (.int .i64 (P)) := hV 1 (by decide)
            have e2 : x 2 = (.slice A0 n c0) := hV 2 (by decide)
            have e3 : x 3 = (.agg #[.int .i64 P, .slice A n c]) := hV 3 (by decide)
            have e4 : x 4 = (.slice (some ⟨gu, ou, none⟩) ml cu) := hV 4 (by decide)
            have e5 : x 5 = (.int .i64 (i)) := hV 5 (by decide)
            have e6 : x 6 = (.pointer (some ⟨gu, ou + i, none⟩)) := hV 6 (by decide)
            have e7 : x 7 = (.slice R n f) := hV 7 (by decide)
            obtain ⟨A8, c8, e8, h8⟩ := hV 8 (by decide)
            obtain ⟨A9, c9, e9, h9⟩ := hV 9 (by decide)
            simp only [e0, e1, e2, e3, e4, e5, e6, e7, e8, e9]
            clear e0 e1 e2 e3 e4 e5 e6 e7 e8 e9
            refine any_one (j := 10) (by kernel_rfl) (Eq.trans (by simp only [zA, zB, zC]; exact rfl) rfl) (fun K hK => ?_)
            go_simp
            refine hK.out _ _ (wpAny_done (by kernel_rfl) ?_ _)
            have hb10 := hbr.trans (hS.2.2.mono hbr.size)
            have l10 := (OwnM.of h9).base (B' := w6.heap.size) (Nat.le_trans HW69.out hbr.size)
            obtain ⟨w10, rfl⟩ : ∃ W, W = w' := ⟨_, rfl⟩
            clear hS HRF HTI h8 h9 hrow kk
            go_wp2
            go_roundw
            case rel => exact ⟨i + 1, _, _, _, by omega, by go_num, rfl, HTN.out, l10, hb10⟩
            case measure => simp [intOf]; omega
          · have l5 := hL
            replace d5 := d5.then hbr
            replace k5 := k5.below hbr k5.lt
            replace kb5 := kb5.below hbr kb5.lt
            replace o5 := o5.below hbr
            have hnx := next_any g 20 wr d5.s' (by omega)
            obtain ⟨q0, q1⟩ := kb5.two
            clear u5 hbr
            go_wp2_with fail
            refine hnx.mono ?_
            rintro e w10 ⟨r9, rfl, _, _, hd8⟩
            replace d5 := d5.trans hd8
            replace k5 := k5.dr hd8 (by decide)
            replace kb5 := kb5.dr hd8 (by decide)
            replace o5 := o5.dr hd8 (by decide)
            replace l5 := l5.dr hd8 (by decide) (by decide)
            clear hnx hd8 q0 q1 hL
            by_cases h9 : r9 = 0
            · have e9 : (r9 == 0) = true := by simp [h9]
              have hML : M.length = n := l5.rd.len
              have hM0 : (M.getD 0 []).length = n := (HTM.out.row (show 0 < M.length by omega)).1
              obtain ⟨gm, om, hxm, g0, f0, eA, hom, hrow, hrw, -⟩ := l5.elem hn1 (by omega)
              subst eA
              have HM0 := Lib.hid hM0
              rw [getD_of_lt [] hxm] at hM0
              rw [hM0] at hrow hrw
              rw [Nat.add_zero] at hrow
              have HOM := Lib.hid hom
              have HML := Lib.hid hML
              have HL5 := Lib.hid l5
              clear hom hM0 hML hxm hrw l5
              have b5 : (0 : Int) < (n : Int) := by omega
              have b6 : 0 < n := hn1
              obtain ⟨q0, q1⟩ := kb5.two
              go_wp2
              refine wp_obsR 9 (Dr g 225) [[], [0], [0, 1], [], [], [4], [4, 5], [3, 4, 5, 6], [0, 1, 2], [0, 1, 2, 3, 4, 5, 6, 7, 8]] [[], [], [], [], [], [], [], [99], []] (fun x => [VIs (.slice (some ⟨gm, om, none⟩) n c0), VIs (.pointer (some ⟨gm, om, none⟩)), VIs (.slice (some ⟨g0, 0, none⟩) n f0), VIs (.pointer (some ⟨g, 0, none⟩)), VIs (.pointer (some ⟨w3.heap.size, 0, none⟩)), VIs (.int .i64 (P)), VBs 2 #[.int .i64 (-1), .int .i64 P, .int .i64 0, .int .i64 1], VNum, VIs (.pointer (some ⟨g0, 0, none⟩))]) (fun w' => RowAt w' ⟨gm, om, none⟩ (.slice (some ⟨g0, 0, none⟩) n f0) ∧ Blk w' w3.heap.size 26 #[.int .i64 P, .slice A n c] ∧ Dr g 225 w10 w') (by kernel_rfl) (by kernel_rfl) (fun x x' j hx => by
                  rcases j with _ | _ | _ | _ | _ | _ | _ | _ | _ | j
                  · rfl
                  · rfl
                  · rfl
                  · rfl
                  · rfl
                  · rfl
                  · rfl
                  · rfl
                  · rfl
                  · rfl)
                (weak_ofR [0, 1, 2, 3, 4, 5, 6, 7, 8] (by decide) (fun k hk x v w w' hp hr => by
                  simp only [List.mem_cons, List.not_mem_nil, or_false] at hk
                  rcases hk with rfl | rfl | rfl | rfl | rfl | rfl | rfl | rfl | rfl
                  · exact hp
                  · exact hp
                  · exact hp
                  · exact hp
                  · exact hp
                  · exact hp
                  · obtain ⟨g9, e9, k9⟩ := hp; exact ⟨g9, e9, k9.dr hr (by decide)⟩
                  · exact hp
                  · exact hp)) (fun j _ _ h hb => hb.either (fun hb => ⟨h.1.below hb, h.2.1.below hb h.2.1.lt, h.2.2.then hb⟩) (fun hr => ⟨h.1.dr hr (by decide), h.2.1.dr hr (by decide), h.2.2.trans hr⟩)) (⟨hrow.below (Below.refl _ _).drew, kb5.drew, (Dr.refl d5.s').then (Below.refl _ _).drew⟩) (fun x => ?_)
              refine obs_stepR (Eq.trans (by simp only [zA, zC]; exact rfl) rfl) rfl (fun w' hS hV K hK => ?_) ?_
              · have t9 := hS.1.cell; obtain ⟨q0, q1⟩ := hS.2.1.two
                go_simp
                exact hK.out _ _ _ rfl rfl rfl (Below.refl _ _)
              simp only [zD, zE, zF]
              refine obs_stepR (Eq.trans (by simp only [zA, zB, zC]; exact rfl) rfl) rfl (fun w' hS hV K hK => ?_) ?_
              · have e0 : x 0 = (.slice (some ⟨gm, om, none⟩) n c0) := hV 0 (by decide)
                have t9 := hS.1.cell; obtain ⟨q0, q1⟩ := hS.2.1.two
                go_simp
                exact hK.out _ _ _ rfl rfl rfl (Below.refl _ _)
              simp only [zD, zE, zF]
              refine obs_stepR (Eq.trans (by simp only [zA, zB, zC]; exact rfl) rfl) rfl (fun w' hS hV K hK => ?_) ?_
              · have e1 : x 1 = (.pointer (some ⟨gm, om, none⟩)) := hV 1 (by decide)
                have t9 := hS.1.cell; obtain ⟨q0, q1⟩ := hS.2.1.two
                go_simp
                exact hK.out _ _ _ rfl rfl rfl (Below.refl _ _)
              simp only [zD, zE, zF]
              refine obs_stepR (Eq.trans (by simp only [zA, zB, zC]; exact rfl) rfl) rfl (fun w' hS hV K hK => ?_) ?_
              · have t9 := hS.1.cell; obtain ⟨q0, q1⟩ := hS.2.1.two
                go_simp
                exact hK.out _ _ _ rfl rfl rfl (Below.refl _ _)
              simp only [zD, zE, zF]
              refine obs_stepR (Eq.trans (by simp only [zA, zB, zC]; exact rfl) rfl) rfl (fun w' hS hV K hK => ?_) ?_
              · have t9 := hS.1.cell; obtain ⟨q0, q1⟩ := hS.2.1.two
                go_simp
                exact hK.out _ _ _ rfl rfl rfl (Below.refl _ _)
              simp only [zD, zE, zF]
              refine obs_stepR (Eq.trans (by simp only [zA, zB, zC]; exact rfl) rfl) rfl (fun w' hS hV K hK => ?_) ?_
              · have e4 : x 4 = (.pointer (some ⟨w3.heap.size, 0, none⟩)) := hV 4 (by decide)
                have t9 := hS.1.cell; obtain ⟨q0, q1⟩ := hS.2.1.two
                go_simp
                exact hK.out _ _ _ rfl rfl rfl (Below.refl _ _)
              simp only [zD, zE, zF]
              refine obs_stepR (Eq.trans (by simp only [zA, zB, zC]; exact rfl) rfl) rfl (fun w' hS hV K hK => ?_) ?_
              · have e5 : x 5 = (.int .i64 (P)) := hV 5 (by decide)
                have t9 := hS.1.cell; obtain ⟨q0, q1⟩ := hS.2.1.two
                go_simp
                exact hK.out _ _ _ rfl rfl ⟨_, rfl, Blk.new _ _ _⟩ ((Below.refl _ _).alloc (Nat.le_refl _) _)
              simp only [zD, zE, zF]
              refine obs_stepR (Eq.trans (by simp only [zA, zB, zC]; exact rfl) rfl) rfl (fun w' hS hV K hK => ?_) ?_
              · have e3 : x 3 = (.pointer (some ⟨g, 0, none⟩)) := hV 3 (by decide)
                obtain ⟨g6, e6, h6⟩ := hV 6 (by decide)
                have t9 := hS.1.cell; obtain ⟨q0, q1⟩ := hS.2.1.two
                go_simp
                refine (pick_any g g6 [-1, P, 0, 1] w' hS.2.2.s' h6 (Nat.zero_lt_succ _) (by simp)).mono ?_
                rintro e v1 ⟨r9, -, rfl, hd9⟩
                exact hK.out _ _ _ rfl rfl ⟨r9, rfl⟩ hd9
              simp only [zD, zE, zF]
              refine obs_stepR (Eq.trans (by simp only [zA, zB, zC]; exact rfl) rfl) rfl (fun w' hS hV K hK => ?_) ?_
              · have e2 : x 2 = (.slice (some ⟨g0, 0, none⟩) n f0) := hV 2 (by decide)
                have t9 := hS.1.cell; obtain ⟨q0, q1⟩ := hS.2.1.two
                go_simp
                exact hK.out _ _ _ rfl rfl rfl (Below.refl _ _)
              simp only [zD, zE, zF]
              refine fun w' hS hV => ?_
              have e0 : x 0 = (.slice (some ⟨gm, om, none⟩) n c0) := hV 0 (by decide)
              have e1 : x 1 = (.pointer (some ⟨gm, om, none⟩)) := hV 1 (by decide)
              have e2 : x 2 = (.slice (some ⟨g0, 0, none⟩) n f0) := hV 2 (by decide)
              have e3 : x 3 = (.pointer (some ⟨g, 0, none⟩)) := hV 3 (by decide)
              have e4 : x 4 = (.pointer (some ⟨w3.heap.size, 0, none⟩)) := hV 4 (by decide)
              have e5 : x 5 = (.int .i64 (P)) := hV 5 (by decide)
              obtain ⟨g6, e6, h6⟩ := hV 6 (by decide)
              obtain ⟨k7, e7⟩ := hV 7 (by decide)
              have e8 : x 8 = (.pointer (some ⟨g0, 0, none⟩)) := hV 8 (by decide)
              simp only [e0, e1, e2, e3, e4, e5, e6, e7, e8]
              clear e0 e1 e2 e3 e4 e5 e6 e7 e8
              obtain ⟨hrow6, -, hd14⟩ := hS
              obtain ⟨w11, rfl⟩ : ∃ W, W = w' := ⟨_, rfl⟩
              have hom := HOM.out
              subst hom
              replace d5 := d5.trans hd14
              replace k5 := k5.dr hd14 (by decide)
              replace kb5 := kb5.dr hd14 (by decide)
              replace o5 := o5.dr hd14 (by decide)
              have l11 := HL5.out.dr hd14 (by decide) (by decide)
              obtain ⟨gm2, om2, hxm, g02, f02, eA, hom2, hrow2, hrw, hset⟩ := l11.elem hn1 (by rw [HM0.out]; exact hn1)
              cases eA
              have e12 := hrow6.cell
              have e13 := hrow2.cell
              rw [Nat.add_zero] at e13
              rw [e12] at e13
              obtain rfl : g0 = g02 := by
                injection e13 with e13
                injection e13 with e13
                injection e13 with e13
                injection e13 with e13
              obtain ⟨u9, -, hc9⟩ := hrw.cell_ (show 0 < M[0].length by rw [← getD_of_lt [] hxm, HM0.out]; exact hn1)
              have hf9 := hrw.frozen_ 0
              obtain ⟨l5, hg9⟩ := hset 0 k7
              have k6 := k5.grown hg9 (hrw.ne_blk k5 (by decide))
              have kb6 := kb5.grown hg9 (hrw.ne_blk kb5 (by decide))
              have o6 := o5.grown hg9 (by
                cases hb : (Value.slice A n c).ownBlock with
                | none => exact .inl rfl
                | some gb =>
                  refine .inr fun e => ?_
                  have t1 := HSQ.out gb hb
                  have t2 := (World.ownsRow.lt hrw g0 rfl).1
                  injection e with e
                  omega)
              have d6 := d5.grown (hrw.base HBB.out) hg9
              have HR9 := Lib.hid (show Rect n (M.set 0 (M[0].set 0 k7)) from fun u hu => by
                rcases List.mem_or_eq_of_mem_set hu with hu | rfl
                · exact (HTM.out u hu).1
                · rw [List.length_set, ← getD_of_lt [] hxm]; exact HM0.out)
              have l6 := l5.base HBB.out
              obtain ⟨M2, hM2⟩ : ∃ X, X = M.set 0 (M[0].set 0 k7) := ⟨_, rfl⟩
              rw [← hM2] at HR9 l6
              clear hM2 hset l11 l5 hrow6 hrow2 e12 k5 kb5 o5 d5 hg9 hrw hd14
              refine any_one (j := 9) (by kernel_rfl) (Eq.trans (by simp only [zA, zB, zC]; exact rfl) rfl) (fun K hK => ?_)
              go_simp
              refine hK.out _ _ (wpAny_done (by kernel_rfl) ?_ _)
              clear hc9 hf9
              obtain ⟨w12, hw12⟩ : ∃ W, W = w11.setCell ⟨g0, 0, none⟩ (.int .i64 k7) := ⟨_, rfl⟩
              rw [← hw12] at k6 kb6 o6 d6 l6 ⊢
              clear hw12 q0 q1
              have k5 := k6
              have l5 := l6
              have o5 := o6
              have d5 := d6
              clear k6 l6 o6 d6
              obtain ⟨q0, q1⟩ := kb6.two
              obtain ⟨w6', rfl⟩ : ∃ W, W = w12 := ⟨_, rfl⟩
              obtain ⟨p0, p1⟩ := k5.two
              have f0 := k5.frozen 0
              have f1 := k5.frozen 1
              have hf : ∀ {m d : Nat} {A2 : Option Addr} {xs : List Int}, Own w6' w.heap.size 2 A2 m d (ints xs) → Own ((w6'.setCell ⟨w.heap.size, 0, none⟩ (.int .i64 P)).setCell ⟨w.heap.size, 1, none⟩ (.slice A n c)) w.heap.size 2 A2 m d (ints xs) := by
                intro m c' A' xs ho
                exact (ho.far k5 (by decide) 0 _).far (k5.set_ 0 (.int .i64 P)) (by decide) 1 _
              have hfM := l5.relB (g := g) (res := w.heap.size) (.inr ⟨0, none, 0, 0, P, A, n, c, k5, rfl⟩)
              go_wp2
              exact bodyPost_ret (v := .tuple #[.agg #[.int .i64 P, .slice A n c], .slice (some ⟨gm, 0, none⟩) n c0]) (by simp [results, Tryz.results151, go_sem, p0, p1]) rfl ⟨P, A, n, c, sq, (some ⟨gm, 0, none⟩), n, c0, n, M2, rfl, hP, hn, hn1, by omega, hn1, by omega, HR9.out, hf o5, hfM, (d5.setNew (Nat.le_refl _) 0 _).setNew (Nat.le_refl _) 1 _⟩
            · have e9 : (r9 == 0) = false := by simp [h9]
              have hML : M.length = n := l5.rd.len
              obtain ⟨q0, q1⟩ := kb5.two
              replace l5 := l5.base HBB.out
              obtain ⟨w6', rfl⟩ : ∃ W, W = w10 := ⟨_, rfl⟩
              obtain ⟨p0, p1⟩ := k5.two
              have f0 := k5.frozen 0
              have f1 := k5.frozen 1
              have hf : ∀ {m d : Nat} {A2 : Option Addr} {xs : List Int}, Own w6' w.heap.size 2 A2 m d (ints xs) → Own ((w6'.setCell ⟨w.heap.size, 0, none⟩ (.int .i64 P)).setCell ⟨w.heap.size, 1, none⟩ (.slice A n c)) w.heap.size 2 A2 m d (ints xs) := by
                intro m c' A' xs ho
                exact (ho.far k5 (by decide) 0 _).far (k5.set_ 0 (.int .i64 P)) (by decide) 1 _
              have hfM := l5.relB (g := g) (res := w.heap.size) (.inr ⟨0, none, 0, 0, P, A, n, c, k5, rfl⟩)
              go_wp2
              exact bodyPost_ret (v := .tuple #[.agg #[.int .i64 P, .slice A n c], .slice A0 n c0]) (by simp [results, Tryz.results151, go_sem, p0, p1]) rfl ⟨P, A, n, c, sq, A0, n, c0, n, M, rfl, hP, hn, hn1, by omega, hn1, by omega, Rect.of_tab HTM.out, hf o5, hfM, (d5.setNew (Nat.le_refl _) 0 _).setNew (Nat.le_refl _) 1 _⟩
end Go.Proofs.YtdbibmilicjllaaGreat
namespace Go.Proofs.YtdbibmilicjllaaGreat
open Go.RowKit
set_option maxHeartbeats 400000 in
set_option maxRecDepth 8000 in
theorem likeInts_any (A B : Option Addr) (n m c d : Nat) (xs ys : List Int) (w : World) (hn : n ≤ 1099511627776) (hm : m ≤ 1099511627776)
    (ha : Rd w A n (ints xs)) (hb : Rd w B m (ints ys)) :
    Calls Tryz.prog 44 #[.slice A n c, .slice B m d] w fun e w' => e = .returned (.bool (decide (xs = ys))) ∧ ∃ j, w' = w.drewN j := by
  have hxl : xs.length = n := by have := ha.1; rwa [ints_length] at this
  have hyl : ys.length = m := by have := hb.1; rwa [ints_length] at this
  by_cases hnm : n = m
  · subst hnm
    have Hx := Lib.hid hxl; clear hxl
    have Hy := Lib.hid hyl; clear hyl
    go_enter Tryz.func44, Tryz.ntmps44
    go_wp2
    go_loopw [5] (fun i wr => ∃ k j : Nat, k ≤ n ∧ i = .int .i64 k ∧ xs.take k = ys.take k ∧ wr = w.drewN j) (fun i _ => n - (intOf i).toNat)
    case atStart => exact ⟨0, 0, by omega, rfl, by simp, rfl⟩
    case round =>
      obtain ⟨k, j, hk, rfl, hxy, rfl⟩ := hrel
      have H := Lib.hid hxy; clear hxy
      by_cases hlt : k < n
      · obtain ⟨g, o, rfl, hx, hcx⟩ := ha.int hlt
        obtain ⟨g', o', rfl, hy, hcy⟩ := hb.int hlt
        clear ha hb
        go_wp2
        go_quiet (fail)
        go_wp2
        · go_ret
          exact ⟨ret_bool (ne_of_get xs ys k hx hy (by assumption)).symm, _, World.drewN_drewN _ _ _⟩
        · go_roundw
          case rel => exact ⟨k + 1, _, by omega, by go_num, take_succ_eq xs ys k hx hy H.out (by simpa using (by assumption : (xs[k] != ys[k]) = false)), rfl⟩
          case measure => simp [intOf]; omega
      · go_wp2
        go_ret
        refine ⟨ret_bool ?_, _, rfl⟩
        have := H.out
        rw [List.take_of_length_le (by rw [Hx.out]; omega), List.take_of_length_le (by rw [Hy.out]; omega)] at this
        rw [this]; simp
  · have hne : decide (xs = ys) = false := by
      rw [decide_eq_false_iff_not]; rintro rfl; omega
    have Hne := Lib.hid hne; clear hne hxl hyl
    have hb0 : ((n : Int) != (m : Int)) = true := by rw [bne_iff_ne]; omega
    go_enter Tryz.func44, Tryz.ntmps44
    go_wp2
    go_ret
    exact ⟨ret_bool Hne.out.symm, 0, rfl⟩
end Go.Proofs.YtdbibmilicjllaaGreat
namespace Go.Proofs.YtdbibmilicjllaaGreat
open Go.RowKit
set_option maxHeartbeats 1600000 in
set_option maxRecDepth 8000 in
theorem likeRows5_same (A B : Option Addr) (n c d : Nat) (M : List (List Int)) (w : World) (hn : n ≤ 1000) (ha : RdII w A n M) (hb : RdII w B n M) (hM : ∀ v ∈ M, v.length ≤ 1000000) :
    Calls Tryz.prog 18 #[.slice A n c, .slice B n d] w fun e w' => e = .returned (.bool true) ∧ Below w.heap.size w w' := by
  have t4 : ((n : Int) != (n : Int)) = false := by simp
  have HM := Lib.hid hM
  clear hM
  go_enter Tryz.func18, Tryz.ntmps18
  go_wp2
  go_loopw [5] (fun i wr => ∃ k : Nat, k ≤ n ∧ i = .int .i64 k ∧ Below w.heap.size w wr) (fun i _ => n - (intOf i).toNat)
  case atStart => exact ⟨0, by omega, rfl, Below.refl _ _⟩
  case round =>
    obtain ⟨k, hk, rfl, hB⟩ := hrel
    by_cases hlt : k < n
    · obtain ⟨g, o, rfl, hx1, A1, c1, hc1, hr1, -⟩ := (ha.below hB).at_ hlt
      obtain ⟨g2, o2, rfl, hx2, A2, c2, hc2, hr2, -⟩ := (hb.below hB).at_ hlt
      have hml := HM.out M[k] (List.getElem_mem hx1)
      obtain ⟨v, hv⟩ : ∃ v, v = M[k] := ⟨_, rfl⟩
      rw [← hv] at hc1 hc2 hr1 hr2 hml
      obtain ⟨q, hq⟩ : ∃ q, q = v.length := ⟨_, rfl⟩
      rw [← hq] at hc1 hc2 hr1 hr2 hml
      have hr3 : ∀ w', Below w.heap.size w w' → Rd w' A1 q (ints v) ∧ Rd w' A2 q (ints v) := fun w' h => by
        obtain ⟨_, _, e1, hx3, A3, c3, hc3, hr3, -⟩ := ha.at_ hlt
        obtain ⟨_, _, e2, hx4, A4, c4, hc4, hr4, -⟩ := hb.at_ hlt
        cases e1
        cases e2
        rw [(hB.cell (World.block_lt_of_cell? _ _ hc3)), hc3] at hc1
        rw [(hB.cell (World.block_lt_of_cell? _ _ hc4)), hc4] at hc2
        rw [← hv] at hc1 hc2 hr3 hr4
        rw [← hq] at hc1 hc2 hr3 hr4
        cases hc1
        cases hc2
        exact ⟨hr3.below h, hr4.below h⟩
      have hl := fun (w' : World) (h : Below w.heap.size w w') => likeInts_any A1 A2 q q c1 c2 v v w' (by omega) (by omega) (hr3 w' h).1 (hr3 w' h).2
      rw [decide_eq_true rfl] at hl
      clear hv hq ha hb hr1 hr2 hx1 hx2 hr3
      go_wp2
      refine wp_obs 10 [[], [], [0, 1], [0, 1, 2], [], [], [4, 5], [4, 5, 6], [0, 1, 2, 3, 4, 5, 6, 7], [0, 1, 2, 3, 4, 5, 6, 7, 8]] [VIs (.slice (some ⟨g, o, none⟩) n c), VIs (.int .i64 (k)), VIs (.pointer (some ⟨g, o + k, none⟩)), VIs (.slice A1 q c1), VIs (.slice (some ⟨g2, o2, none⟩) n d), VIs (.int .i64 (k)), VIs (.pointer (some ⟨g2, o2 + k, none⟩)), VIs (.slice A2 q c2), VIs (.bool true), VIs (.bool false)] (fun w' => w'.cell? ⟨g, o + k, none⟩ = some (.slice A1 q c1) ∧ w'.cell? ⟨g2, o2 + k, none⟩ = some (.slice A2 q c2) ∧ Below w.heap.size w w') (by kernel_rfl) (by kernel_rfl) (fun _ _ h hb => ⟨(hb.cell (World.block_lt_of_cell? _ _ h.1)).trans h.1, (hb.cell (World.block_lt_of_cell? _ _ h.2.1)).trans h.2.1, h.2.2.trans (hb.mono h.2.2.size)⟩) (⟨hc1, hc2, hB.drew⟩) (fun x => ?_)
      refine obs_step (Eq.trans (by simp only [zA, zC]; exact rfl) rfl) rfl (fun w' hS hV K hK => ?_) ?_
      · have q0 := hS.1; have q1 := hS.2.1
        go_simp
        exact hK.out _ _ _ rfl rfl rfl (Below.refl _ _)
      simp only [zD, zE, zF]
      refine obs_step (Eq.trans (by simp only [zA, zB, zC]; exact rfl) rfl) rfl (fun w' hS hV K hK => ?_) ?_
      · have q0 := hS.1; have q1 := hS.2.1
        go_simp
        exact hK.out _ _ _ rfl rfl rfl (Below.refl _ _)
      simp only [zD, zE, zF]
      refine obs_step (Eq.trans (by simp only [zA, zB, zC]; exact rfl) rfl) rfl (fun w' hS hV K hK => ?_) ?_
      · have e0 : x 0 = (.slice (some ⟨g, o, none⟩) n c) := hV 0 (by decide)
        have e1 : x 1 = (.int .i64 (k)) := hV 1 (by decide)
        have q0 := hS.1; have q1 := hS.2.1
        go_simp
        exact hK.out _ _ _ rfl rfl rfl (Below.refl _ _)
      simp only [zD, zE, zF]
      refine obs_step (Eq.trans (by simp only [zA, zB, zC]; exact rfl) rfl) rfl (fun w' hS hV K hK => ?_) ?_
      · have e2 : x 2 = (.pointer (some ⟨g, o + k, none⟩)) := hV 2 (by decide)
        have q0 := hS.1; have q1 := hS.2.1
        go_simp
        exact hK.out _ _ _ rfl rfl rfl (Below.refl _ _)
      simp only [zD, zE, zF]
      refine obs_step (Eq.trans (by simp only [zA, zB, zC]; exact rfl) rfl) rfl (fun w' hS hV K hK => ?_) ?_
      · have q0 := hS.1; have q1 := hS.2.1
        go_simp
        exact hK.out _ _ _ rfl rfl rfl (Below.refl _ _)
      simp only [zD, zE, zF]
      refine obs_step (Eq.trans (by simp only [zA, zB, zC]; exact rfl) rfl) rfl (fun w' hS hV K hK => ?_) ?_
      · have q0 := hS.1; have q1 := hS.2.1
        go_simp
        exact hK.out _ _ _ rfl rfl rfl (Below.refl _ _)
      simp only [zD, zE, zF]
      refine obs_step (Eq.trans (by simp only [zA, zB, zC]; exact rfl) rfl) rfl (fun w' hS hV K hK => ?_) ?_
      · have e4 : x 4 = (.slice (some ⟨g2, o2, none⟩) n d) := hV 4 (by decide)
        have e5 : x 5 = (.int .i64 (k)) := hV 5 (by decide)
        have q0 := hS.1; have q1 := hS.2.1
        go_simp
        exact hK.out _ _ _ rfl rfl rfl (Below.refl _ _)
      simp only [zD, zE, zF]
      refine obs_step (Eq.trans (by simp only [zA, zB, zC]; exact rfl) rfl) rfl (fun w' hS hV K hK => ?_) ?_
      · have e6 : x 6 = (.pointer (some ⟨g2, o2 + k, none⟩)) := hV 6 (by decide)
        have q0 := hS.1; have q1 := hS.2.1
        go_simp
        exact hK.out _ _ _ rfl rfl rfl (Below.refl _ _)
      simp only [zD, zE, zF]
      refine obs_step (Eq.trans (by simp only [zA, zB, zC]; exact rfl) rfl) rfl (fun w' hS hV K hK => ?_) ?_
      · have e3 : x 3 = (.slice A1 q c1) := hV 3 (by decide)
        have e7 : x 7 = (.slice A2 q c2) := hV 7 (by decide)
        have q0 := hS.1; have q1 := hS.2.1
        go_simp
        refine (hl _ hS.2.2).mono ?_
        rintro e v1 ⟨rfl, j1, rfl⟩
        exact hK.out _ _ _ rfl rfl rfl (below_drewN (Below.refl _ _) j1)
      simp only [zD, zE, zF]
      refine obs_step (Eq.trans (by simp only [zA, zB, zC]; exact rfl) rfl) rfl (fun w' hS hV K hK => ?_) ?_
      · have e8 : x 8 = (.bool true) := hV 8 (by decide)
        have q0 := hS.1; have q1 := hS.2.1
        go_simp
        exact hK.out _ _ _ rfl rfl rfl (Below.refl _ _)
      simp only [zD, zE, zF]
      refine fun w' hS hV => ?_
      have e0 : x 0 = (.slice (some ⟨g, o, none⟩) n c) := hV 0 (by decide)
      have e1 : x 1 = (.int .i64 (k)) := hV 1 (by decide)
      have e2 : x 2 = (.pointer (some ⟨g, o + k, none⟩)) := hV 2 (by decide)
      have e3 : x 3 = (.slice A1 q c1) := hV 3 (by decide)
      have e4 : x 4 = (.slice (some ⟨g2, o2, none⟩) n d) := hV 4 (by decide)
      have e5 : x 5 = (.int .i64 (k)) := hV 5 (by decide)
      have e6 : x 6 = (.pointer (some ⟨g2, o2 + k, none⟩)) := hV 6 (by decide)
      have e7 : x 7 = (.slice A2 q c2) := hV 7 (by decide)
      have e8 : x 8 = (.bool true) := hV 8 (by decide)
      have e9 : x 9 = (.bool false) := hV 9 (by decide)
      simp only [e0, e1, e2, e3, e4, e5, e6, e7, e8, e9]
      clear e0 e1 e2 e3 e4 e5 e6 e7 e8 e9
      refine wpAny_done (by kernel_rfl) ?_ _
      have hB8 := hS.2.2
      go_wp2
      go_roundw
      case rel => exact ⟨k + 1, by omega, by go_num, hB8⟩
      case measure => simp [intOf]; omega
    · go_wp2
      go_ret
      exact ⟨rfl, hB⟩
end Go.Proofs.YtdbibmilicjllaaGreat
namespace Go.Proofs.YtdbibmilicjllaaGreat
open Go.RowKit
theorem big_any (A : Option Addr) (n c : Nat) (w : World) :
    Calls Tryz.prog 14 #[.slice A n c] w fun e w' => e = .returned (.bool (decide (4096 < n))) ∧ w = w' := by
  go_enter Tryz.func14, Tryz.ntmps14
  by_cases h : 4096 < n
  · have d1 : decide ((4096 : Int) < (n : Int)) = true := by rw [decide_eq_true_eq]; omega
    go_wp2
    go_ret
    exact ⟨ret_bool (by rw [eq_comm, decide_eq_true_eq]; exact h), rfl⟩
  · have d1 : decide ((4096 : Int) < (n : Int)) = false := by rw [decide_eq_false_iff_not]; omega
    go_wp2
    go_ret
    exact ⟨ret_bool (by rw [eq_comm, decide_eq_false_iff_not]; exact h), rfl⟩
end Go.Proofs.YtdbibmilicjllaaGreat
namespace Go.Proofs.YtdbibmilicjllaaGreat
open Go.RowKit
theorem decR_sz (P : Int) (sq : List Int) (M : List (List Int)) : (decR P sq M).1.length ≤ 12 ∧ ∀ v ∈ (decR P sq M).1, v.length ≤ 6 := by
  by_cases hc : codeO P sq M = 0
  · rw [decR_ok hc]
    obtain ⟨h1, h2, h3⟩ := codeO_zero hc
    obtain ⟨-, -, hd2, -⟩ := isSp_dim h1
    obtain ⟨a1, a2, -⟩ := dec_facts h1 h2 h3 rfl
    exact ⟨a1, fun v hv => by have := (a2 v hv).1; omega⟩
  · rw [decR_bad hc]; simp
set_option maxHeartbeats 3200000 in
set_option maxRecDepth 8000 in
theorem DrawDecomposeOrthogonal_any (B : Option Addr) (nb cb : Nat) (bs : List Int) (w : World) (hnb : nb ≤ 4096) (r : Rd w B nb (bs.map (Value.int .u8))) (hbs : ∀ b ∈ bs, 0 ≤ b ∧ b < 256) (hbg : ∀ a, B = some a → a.block < w.heap.size) :
    Calls Tryz.prog 25 #[.slice B nb cb] w (DrewQ w) := by
  have hB0 : Below w.heap.size w (w.alloc (.cells #[.int .i64 0, .slice none 0 0] 26)) := (Below.refl _ _).alloc (Nat.le_refl _) _
  have k0 : Blk (w.alloc (.cells #[.int .i64 0, .slice none 0 0] 26)) w.heap.size 26 #[.int .i64 0, .slice none 0 0] := Blk.new _ _ _
  have hfr := from__any B nb cb bs (w.alloc (.cells #[.int .i64 0, .slice none 0 0] 26)) hnb (r.below hB0) hbs (fun a e => by have := hbg a e; simp; omega)
  go_enter Tryz.func25, Tryz.ntmps25
  go_wp2_with fail
  refine hfr.mono ?_
  rintro e w2 ⟨g, rfl, hg, hs2, hb2⟩
  have k2 := k0.below hb2 k0.lt
  have hB2 := hB0.trans (hb2.mono hB0.size)
  have hw := hB2.size
  have hgw : w.heap.size ≤ g := Nat.le_trans hB0.size hg
  have hdr := l08Draw_any g w2 hs2
  clear hfr hb2 k0 hB0 hg
  go_wp2_with fail
  refine hdr.mono ?_
  rintro e w3 ⟨P, A, n, c, sq, AL, q, cl, m, L, rfl, hP, hn, y1, y2, y3, y4, y5, hO, hL, hd3⟩
  have k3 := k2.dr hd3 (by decide)
  have hB3 := hB2.trans (hd3.b.mono hgw)
  have kb4 : Blk (w3.alloc (.cells #[.int .i64 P, .slice A n c] 26)) w3.heap.size 26 #[.int .i64 P, .slice A n c] := Blk.new _ _ _
  have hres : w.heap.size < w3.heap.size := Nat.lt_of_lt_of_le (show w.heap.size < w2.heap.size from k2.lt) hd3.size
  obtain ⟨q0, q1⟩ := kb4.two
  obtain ⟨p0, p1⟩ := k3.two
  have f0 := k3.frozen 0
  have f1 := k3.frozen 1
  have hf : Own (((w3.setCell ⟨w.heap.size, 0, none⟩ (.int .i64 P)).setCell ⟨w.heap.size, 1, none⟩ (.slice A n c)).alloc (.cells #[.int .i64 P, .slice A n c] 26)) w.heap.size 2 A n c (ints sq) :=
    (((hO.base hw).far k3 (by decide) 0 _).far (k3.set_ 0 (.int .i64 P)) (by decide) 1 _).below ((Below.refl _ _).alloc (Nat.le_refl _) _)
  have hfM : OwnM (((w3.setCell ⟨w.heap.size, 0, none⟩ (.int .i64 P)).setCell ⟨w.heap.size, 1, none⟩ (.slice A n c)).alloc (.cells #[.int .i64 P, .slice A n c] 26)) w.heap.size AL q cl L :=
    ((hL.base hw).relB (g := g) (res := w.heap.size) (.inr ⟨0, none, 0, 0, P, A, n, c, k3, rfl⟩)).below ((Below.refl _ _).alloc (Nat.le_refl _) _)
  have hB5 := (hB3.setCell (p := ⟨w.heap.size, 0, none⟩) (Nat.le_refl _) (.int .i64 P)).setCell (p := ⟨w.heap.size, 1, none⟩) (Nat.le_refl _) (.slice A n c)
  obtain ⟨z0, z1⟩ := ((k3.stored (p' := P) (A' := A) (n' := n) (c' := c)).alloc (.cells #[.int .i64 P, .slice A n c] 26)).two
  clear hdr k2 hO hL hd3 hB3 hB2
  go_wp2
  exact bodyPost_ret (v := .tuple #[.agg #[.int .i64 P, .slice A n c], .slice AL q cl]) (by simp [results, Tryz.results25, go_sem, z0, z1]) rfl ⟨P, A, n, c, sq, AL, q, cl, m, L, rfl, hP, hn, y1, y2, y3, y4, y5, hf, hfM, hB5.alloc (o := .cells #[.int .i64 P, .slice A n c] 26) hB5.size⟩
/-- The value is a list of lists and the code 0. -/
def VTm (w0 : World) (n : Nat) (L : List (List Int)) : VP := ⟨fun v w => ∃ A c, v = .tuple #[.slice A n c, .int .i64 0] ∧ MkII w0 w A n c L, fun _ _ _ ⟨A, c, e, h⟩ hb => ⟨A, c, e, h.below hb⟩⟩
set_option maxHeartbeats 25600000 in
set_option maxRecDepth 40000 in
theorem FnDecompositions_any (B : Option Addr) (nb cb : Nat) (bs : List Int) (w : World) (r : Rd w B nb (bs.map (Value.int .u8))) (hbs : ∀ b ∈ bs, 0 ≤ b ∧ b < 256) (hbg : ∀ a, B = some a → a.block < w.heap.size) :
    Calls Tryz.prog 4 #[.slice B nb cb] w fun e w' => e = .returned (.bool true) ∧ Below w.heap.size w w' := by
  have hbig := big_any B nb cb w
  by_cases hbb : 4096 < nb
  · rw [decide_eq_true hbb] at hbig
    go_enter Tryz.func4, Tryz.ntmps4
    go_wp2_with fail
    refine hbig.mono ?_
    rintro e w1 ⟨rfl, rfl⟩
    go_wp2
    go_ret
    exact ⟨rfl, Below.refl _ _⟩
  · rw [decide_eq_false hbb] at hbig
    go_enter Tryz.func4, Tryz.ntmps4
    go_wp2_with fail
    refine hbig.mono ?_
    rintro e w1 ⟨rfl, rfl⟩
    clear hbig
    have hdr := DrawDecomposeOrthogonal_any B nb cb bs w (by omega) r hbs hbg
    go_wp2_with fail
    refine hdr.mono ?_
    rintro e w2 ⟨P, A, n, c, sq, AL, q, cl, m, L, rfl, hP, hn, hq0, hq, hm1, hm, hRL, ho, hl, hb2⟩
    have hA : Below w2.heap.size w2 (w2.alloc (.cells #[.int .i64 P, .slice A n c] 26)) := (Below.refl _ _).alloc (Nat.le_refl _) _
    have k3 : Blk (w2.alloc (.cells #[.int .i64 P, .slice A n c] 26)) w2.heap.size 26 #[.int .i64 P, .slice A n c] := Blk.new _ _ _
    have hB3 := hb2.alloc (o := .cells #[.int .i64 P, .slice A n c] 26) hb2.size
    have o3 := (ho.below hA).rd
    have l3 := (hl.below hA).rd
    obtain ⟨w3, hw3⟩ : ∃ W, W = w2.alloc (.cells #[.int .i64 P, .slice A n c] 26) := ⟨_, rfl⟩
    have hb1 := DecomposeOrthogonal_any P A n c sq AL q cl L m w3 (by omega) hq0 hq hm1 hm (hw3 ▸ o3) (hw3 ▸ l3) hRL
    obtain ⟨⟨G, z⟩, hGz⟩ : ∃ R, R = decR P sq L := ⟨_, rfl⟩
    obtain ⟨⟨okb, zi⟩, hOK⟩ : ∃ R, R = iorR P sq L := ⟨_, rfl⟩
    have hsz := decR_sz P sq L
    rw [← hGz] at hb1 hsz
    have HSZ : Hid (G.length ≤ 12 ∧ ∀ v ∈ G, v.length ≤ 6) := Lib.hid hsz
    obtain ⟨q0, q1⟩ := k3.two
    clear hdr ho hl hb2 hA hsz r
    go_wp2_with fail
    rw [← hw3] at k3 hB3 o3 l3 ⊢
    clear hw3
    refine hb1.mono ?_
    rintro e w4 ⟨Ag, kg, cg, rfl, hM4⟩
    have hW := hM4.b
    have r_l := l3.below hW
    have r_g : RdII w4 Ag kg G := hM4.rd
    clear q0 q1 hb1 l3 hM4
    have kk := k3.below hW k3.lt
    obtain ⟨q0, q1⟩ := kk.two
    clear kk
    have hcall := specDecomposeOrthogonal_any P A n c sq AL q cl L m w4 (by omega) hq0 hq hm1 hm (o3.below hW) r_l hRL
    rw [← hGz] at hcall
    go_wp2_with fail
    refine hcall.mono ?_
    rintro e w5 ⟨A5, m5, c5, rfl, hM⟩
    replace r_l := r_l.below hM.b
    replace r_g := r_g.below hM.b
    have r_t : RdII w5 A5 m5 G := hM.rd
    replace hW := hW.trans (hM.b.mono hW.size)
    clear hM
    clear hcall q0 q1
    have kk := k3.below hW k3.lt
    obtain ⟨q0, q1⟩ := kk.two
    clear kk
    have hcall := IsOrthogonal_any P A n c sq AL q cl L m w5 (by omega) hq0 hq hm1 hm (o3.below hW) r_l hRL
    rw [← hOK] at hcall
    go_wp2_with fail
    refine hcall.mono ?_
    rintro e w6 ⟨rfl, hb7⟩
    replace r_l := r_l.below hb7
    replace r_g := r_g.below hb7
    replace r_t := r_t.below hb7
    replace hW := hW.trans (hb7.mono hW.size)
    clear hcall q0 q1
    have kk := k3.below hW k3.lt
    obtain ⟨q0, q1⟩ := kk.two
    clear kk
    have hcall := specIsOrthogonal_any P A n c sq AL q cl L m w6 (by omega) hq0 hq hm1 hm (o3.below hW) r_l hRL
    rw [← hOK] at hcall
    go_wp2_with fail
    refine hcall.mono ?_
    rintro e w7 ⟨rfl, hb7⟩
    replace r_l := r_l.below hb7
    replace r_g := r_g.below hb7
    replace r_t := r_t.below hb7
    replace hW := hW.trans (hb7.mono hW.size)
    clear hcall q0 q1
    obtain rfl : kg = m5 := by rw [← r_g.len]; exact r_t.len
    have e0 : (z != z) = false := by simp
    have e01 : (zi != zi) = false := by simp
    have e02 : (okb != okb) = false := by simp
    have hkg : kg ≤ 12 := by rw [← r_g.len]; exact HSZ.out.1
    have kk := k3.below hW k3.lt
    obtain ⟨q0, q1⟩ := kk.two
    clear kk
    have hcall := likeRows5_same Ag A5 kg cg c5 _ w7 (by omega) r_g r_t (fun v hv => by have := HSZ.out.2 v hv; omega)
    go_wp2_with fail
    refine hcall.mono ?_
    rintro e w8 ⟨rfl, hb7⟩
    replace r_l := r_l.below hb7
    replace r_g := r_g.below hb7
    replace r_t := r_t.below hb7
    replace hW := hW.trans (hb7.mono hW.size)
    clear hcall q0 q1 e0 e01 e02 hb7
    clear r_t
    have hsl := o3.lenI
    by_cases hz : codeO P sq L = 0
    · rw [decR_ok hz] at hGz
      obtain rfl : z = 0 := (Prod.mk.inj hGz).2
      obtain rfl : G = decL P sq L := (Prod.mk.inj hGz).1
      rw [codeO_good hz] at hOK
      obtain rfl : okb = true := (Prod.mk.inj hOK).1
      obtain rfl : zi = 0 := (Prod.mk.inj hOK).2
      obtain ⟨hsp, hreg, hiso⟩ := codeO_zero hz
      obtain ⟨HP, hd1, hd2, -⟩ := isSp_dim hsp
      obtain ⟨hp3, hp2⟩ := isP_ge HP
      obtain ⟨hl1, hl2⟩ := isoB_frame hiso
      obtain ⟨a1, a2, a3, a4, a5, PR, b1, b2, b3, b4⟩ := dec_facts hsp hreg hiso hsl
      rw [hsl] at hl1 hl2 hd1 hd2
      obtain rfl : n = q := by rw [← r_l.len]; exact hl1.symm
      obtain ⟨G, hG⟩ : ∃ X, X = decL P sq L := ⟨_, rfl⟩
      rw [← hG] at r_g a1 a2 a3 a4 a5 b4
      have b2' : ∀ (k : Nat) (h : k < G.length), PR (k + 1) = timesM P (PR k) (rmatL P sq n G[k]) := by subst hG; exact b2
      have HPP := Lib.hid HP
      have HSP := Lib.hid hsp
      have HREG := Lib.hid hreg
      have HISO := Lib.hid hiso
      have HLT := Lib.hid hl2
      have HGL := Lib.hid hG
      have HA2 := Lib.hid a2
      have HA3 := Lib.hid a3
      have HA4 := Lib.hid a4
      have HB1 := Lib.hid b1
      have HB2 := Lib.hid b2'
      have HB3 := Lib.hid b3
      have HB4 := Lib.hid b4
      have hgl : G.length = kg := r_g.len
      obtain ⟨pb, dt, hd5, hd6, hd7, hd8⟩ : ∃ (pb : Bool) (dt : Int), detL P L = dt ∧ ((kg % 2 == 0) = pb) ∧ ((dt == 1) = pb) ∧ (pb = false → dt = P - 1) := by
        rw [hgl] at a5
        by_cases hk : kg % 2 = 0
        · exact ⟨true, 1, by rw [a5, if_pos hk], by simp [hk], rfl, fun h => by simp at h⟩
        · exact ⟨false, P - 1, by rw [a5, if_neg hk], by simp [hk], by rw [beq_eq_false_iff_ne]; omega, fun _ => rfl⟩
      have HD5 := Lib.hid hd5
      clear hGz hOK hz hsp hreg hiso hl1 hl2 a1 a2 a3 a4 a5 b1 b2 b2' b3 b4 hG hRL hsl HSZ HP hd5
      have kk := k3.below hW k3.lt
      obtain ⟨q0, q1⟩ := kk.two
      clear kk
      have hcall := VersorOfMatrix_ok P A n c sq AL cl L w8 HSP.out HREG.out (o3.below hW) r_l HISO.out
      rw [← HGL.out] at hcall
      go_wp2_with fail
      refine hcall.mono ?_
      rintro e w9 ⟨Ax, cx, rfl, hM⟩
      replace r_l := r_l.below hM.b
      replace r_g := r_g.below hM.b
      have r_x := hM.rd
      have i_x := hM.2.cap
      replace hW := hW.trans (hM.b.mono hW.size)
      clear hM
      clear hcall q0 q1
      have kk := k3.below hW k3.lt
      obtain ⟨q0, q1⟩ := kk.two
      clear kk
      have hcall := MatrixOfVersor_any P A n c sq Ax (pw n) cx (versL P sq n G) w9 (by omega) (by have : pw n ≤ 64 := pw_le hd2; omega) (o3.below hW) r_x i_x
      rw [HA3.out] at hcall
      go_wp2_with fail
      refine hcall.mono ?_
      rintro e w10 ⟨Ab, kb, cb2, rfl, hM⟩
      replace r_l := r_l.below hM.b
      replace r_g := r_g.below hM.b
      replace r_x := r_x.below hM.b
      have r_b : RdII w10 Ab kb L := hM.rd
      replace hW := hW.trans (hM.b.mono hW.size)
      clear hM
      obtain rfl : n = kb := by rw [← r_l.len]; exact r_b.len
      clear hcall q0 q1
      have kk := k3.below hW k3.lt
      obtain ⟨q0, q1⟩ := kk.two
      clear kk
      have hcall := IsProper_ok P A n c sq AL cl L w10 HSP.out HREG.out (o3.below hW) r_l HISO.out
      rw [HD5.out, hd7] at hcall
      go_wp2_with fail
      refine hcall.mono ?_
      rintro e w11 ⟨rfl, hb7⟩
      replace r_l := r_l.below hb7
      replace r_g := r_g.below hb7
      replace r_x := r_x.below hb7
      replace r_b := r_b.below hb7
      replace hW := hW.trans (hb7.mono hW.size)
      clear hcall q0 q1
      have kk := k3.below hW k3.lt
      obtain ⟨q0, q1⟩ := kk.two
      clear kk
      have hcall := HasSquareNorm_ok P A n c sq AL cl L w11 HSP.out HREG.out (o3.below hW) r_l HISO.out
      rw [← HGL.out] at hcall
      obtain ⟨nm, hnm⟩ : ∃ x, x = nrmP sq G % P := ⟨_, rfl⟩
      rw [← hnm] at hcall
      have hnm2 : 0 ≤ nm ∧ nm < P := by rw [hnm]; exact ⟨Int.emod_nonneg _ (by omega), Int.emod_lt_of_pos _ (by omega)⟩
      have HNM := Lib.hid hnm
      obtain ⟨sb, hsb⟩ : ∃ x, x = (rootF P nm P.toNat 0).isSome := ⟨_, rfl⟩
      rw [← hsb] at hcall
      have HSB := Lib.hid hsb
      clear hnm hsb
      go_wp2_with fail
      refine hcall.mono ?_
      rintro e w12 ⟨rfl, hb7⟩
      replace r_l := r_l.below hb7
      replace r_g := r_g.below hb7
      replace r_x := r_x.below hb7
      replace r_b := r_b.below hb7
      replace hW := hW.trans (hb7.mono hW.size)
      clear hcall q0 q1
      have kk := k3.below hW k3.lt
      obtain ⟨q0, q1⟩ := kk.two
      clear kk
      have hcall := SpinorNormOf_ok P A n c sq Ax cx (versL P sq n G) w12 HSP.out HREG.out (o3.below hW) r_x i_x (versL_nums (by omega) sq n G)
      rw [HA4.out, ← HNM.out] at hcall
      go_wp2_with fail
      refine hcall.mono ?_
      rintro e w13 ⟨rfl, hb7⟩
      replace r_l := r_l.below hb7
      replace r_g := r_g.below hb7
      replace r_x := r_x.below hb7
      replace r_b := r_b.below hb7
      replace hW := hW.trans (hb7.mono hW.size)
      clear hcall q0 q1
      have kk := k3.below hW k3.lt
      obtain ⟨q0, q1⟩ := kk.two
      clear kk
      have hcall := IsSquare_ok P nm w13 HPP.out hnm2.1 hnm2.2
      rw [← HSB.out] at hcall
      go_wp2_with fail
      refine hcall.mono ?_
      rintro e w14 ⟨rfl, hb7⟩
      replace r_l := r_l.below hb7
      replace r_g := r_g.below hb7
      replace r_x := r_x.below hb7
      replace r_b := r_b.below hb7
      replace hW := hW.trans (hb7.mono hW.size)
      clear hcall q0 q1
      have kk := k3.below hW k3.lt
      obtain ⟨q0, q1⟩ := kk.two
      clear kk
      have hcall := Determinant_ok P AL n cl L w14 HPP.out hd1 (by omega) r_l HLT.out
      rw [HD5.out] at hcall
      go_wp2_with fail
      refine hcall.mono ?_
      rintro e w15 ⟨rfl, hb7⟩
      replace r_l := r_l.below hb7
      replace r_g := r_g.below hb7
      replace r_x := r_x.below hb7
      replace r_b := r_b.below hb7
      replace hW := hW.trans (hb7.mono hW.size)
      clear hcall q0 q1
      clear r_x
      cases pb
      · skip
        obtain rfl : dt = P - 1 := hd8 rfl
        have m3 : kg % 2 = 1 := by
          have : ¬ kg % 2 = 0 := by simpa using hd6
          omega
        have m2 : (kg : Int) % 2 = 1 := by omega
        have m1 : (kg : Int).tmod 2 = 1 := by rw [Int.tmod_eq_emod_of_nonneg (by omega)]; exact m2
        have W1 : IntKind.i64.wrap (P - 1) = P - 1 := i64_fit _ (by omega) (by omega)
        have W2 : (P - 1 != P - 1) = false := by simp
        have W3 : (P - 1 == 1) = false := hd7
        clear hd6 hd7 hd8
        have esb : (sb != sb) = false := by simp
        have kk := k3.below hW k3.lt
        obtain ⟨q0, q1⟩ := kk.two
        have hcall := likeRows5_same Ab AL n cb2 cl L w15 (by omega) r_b r_l (fun v hv => by rw [(HLT.out v hv).1]; omega)
        go_wp2_with fail
        refine hcall.mono ?_
        rintro e w16 ⟨rfl, hb7⟩
        replace kk := kk.below hb7 kk.lt
        replace hW := hW.trans (hb7.mono hW.size)
        replace r_l := r_l.below hb7
        replace r_g := r_g.below hb7
        clear hcall q0 q1 r_b
        obtain ⟨q0, q1⟩ := kk.two
        go_wp2_with fail
        clear q0 q1 kk m1 m2 m3 esb W1 W2 W3
        refine (unit5_any n _ (by omega)).mono ?_
        rintro e w18 ⟨A0, c0, rfl, hU⟩
        have r0 : RdII w18 A0 n (PR 0) := by rw [HB1.out]; exact hU.rd
        have hbu := hU.b
        replace hW := hW.trans (hbu.mono hW.size)
        replace r_l := r_l.below hbu
        replace r_g := r_g.below hbu
        clear hU hbu
        go_wp2
        go_loopw [27, 28] (fun nv iv wr => ∃ (k : Nat) (A0 : Option Addr) (c0 : Nat), k ≤ kg ∧ iv = .int .i64 k ∧ nv = .slice A0 n c0 ∧ RdII wr A0 n (PR k) ∧ Below w18.heap.size w18 wr) (fun _ iv _ => kg - (intOf iv).toNat)
        case atStart => exact ⟨0, A0, c0, by omega, rfl, rfl, r0, Below.refl _ _⟩
        case round =>
          obtain ⟨k, A0, c0, hk, rfl, rfl, hr, hbr⟩ := hrel
          clear r0
          by_cases hlt : k < kg
          · have kk := k3.below (hW.trans (hbr.mono hW.size)) k3.lt
            obtain ⟨gz, oz, rfl, hxi, B1, d1, hcell, hr1, hcap⟩ := (r_g.below hbr).at_ hlt
            have hv := HA2.out G[k] (List.getElem_mem hxi)
            rw [hv.1] at hcell hr1 hcap
            have oo := o3.below (hW.trans (hbr.mono hW.size))
            have HPK : Hid (PR (k + 1) = timesM P (PR k) (rmatL P sq n G[k])) := Lib.hid (HB2.out k hxi)
            obtain ⟨v, hve⟩ : ∃ v, v = G[k] := ⟨_, rfl⟩
            rw [← hve] at hv hr1 HPK
            have HRM := Lib.hid fun (w' : World) (h : Below wr.heap.size wr w') => ReflectionMatrix_ok P A n c sq B1 d1 v w' HSP.out HREG.out (oo.below h) (hr1.below h) hcap hv.2.1 hv.2.2
            have hTK := HB3.out k
            have HTK := Lib.hid hTK
            have HRT := Lib.hid (rmatL_tab (P := P) (show 2 ≤ P by omega) sq n v)
            have HR := Lib.hid hr
            clear hve hv hr1 hcap hxi oo hTK hr
            obtain ⟨q0, q1⟩ := kk.two
            go_wp2
            refine wp_obs 11 [[], [], [], [1, 2], [1, 2, 3], [0, 1, 2, 3, 4], [0, 1, 2, 3, 4, 5], [0, 1, 2, 3, 4, 5, 6], [0, 1, 2, 3, 4, 5, 6], [0, 1, 2, 3, 4, 5, 6, 7], [0, 1, 2, 3, 4, 5, 6, 8]] [VIs (.agg #[.int .i64 P, .slice A n c]), VIs (.slice (some ⟨gz, oz, none⟩) kg cg), VIs (.int .i64 (k)), VIs (.pointer (some ⟨gz, oz + k, none⟩)), VIs (.slice B1 n d1), VTm wr n (rmatL P sq n v), VTm wr n (rmatL P sq n v), VMat wr n (rmatL P sq n v), VIs (.int .i64 (0)), VMat wr n (rmatL P sq n v), VIs (.int .i64 (0))] (fun w' => w'.cell? ⟨gz, oz + k, none⟩ = some (.slice B1 n d1) ∧ Blk w' w2.heap.size 26 #[.int .i64 P, .slice A n c] ∧ Below wr.heap.size wr w') (by kernel_rfl) (by kernel_rfl) (fun _ _ h hb => ⟨(hb.cell (World.block_lt_of_cell? _ _ h.1)).trans h.1, h.2.1.below hb h.2.1.lt, h.2.2.trans (hb.mono h.2.2.size)⟩) (⟨hcell, kk.drew, (Below.refl _ _).drew⟩) (fun x => ?_)
            refine obs_step (Eq.trans (by simp only [zA, zC]; exact rfl) rfl) rfl (fun w' hS hV K hK => ?_) ?_
            · have q2 := hS.1; obtain ⟨q0, q1⟩ := hS.2.1.two
              go_simp
              exact hK.out _ _ _ rfl rfl rfl (Below.refl _ _)
            simp only [zD, zE, zF]
            refine obs_step (Eq.trans (by simp only [zA, zB, zC]; exact rfl) rfl) rfl (fun w' hS hV K hK => ?_) ?_
            · have q2 := hS.1; obtain ⟨q0, q1⟩ := hS.2.1.two
              go_simp
              exact hK.out _ _ _ rfl rfl rfl (Below.refl _ _)
            simp only [zD, zE, zF]
            refine obs_step (Eq.trans (by simp only [zA, zB, zC]; exact rfl) rfl) rfl (fun w' hS hV K hK => ?_) ?_
            · have q2 := hS.1; obtain ⟨q0, q1⟩ := hS.2.1.two
              go_simp
              exact hK.out _ _ _ rfl rfl rfl (Below.refl _ _)
            simp only [zD, zE, zF]
            refine obs_step (Eq.trans (by simp only [zA, zB, zC]; exact rfl) rfl) rfl (fun w' hS hV K hK => ?_) ?_
            · have e1 : x 1 = (.slice (some ⟨gz, oz, none⟩) kg cg) := hV 1 (by decide)
              have e2 : x 2 = (.int .i64 (k)) := hV 2 (by decide)
              have q2 := hS.1; obtain ⟨q0, q1⟩ := hS.2.1.two
              go_simp
              exact hK.out _ _ _ rfl rfl rfl (Below.refl _ _)
            simp only [zD, zE, zF]
            refine obs_step (Eq.trans (by simp only [zA, zB, zC]; exact rfl) rfl) rfl (fun w' hS hV K hK => ?_) ?_
            · have e3 : x 3 = (.pointer (some ⟨gz, oz + k, none⟩)) := hV 3 (by decide)
              have q2 := hS.1; obtain ⟨q0, q1⟩ := hS.2.1.two
              go_simp
              exact hK.out _ _ _ rfl rfl rfl (Below.refl _ _)
            simp only [zD, zE, zF]
            refine obs_step (Eq.trans (by simp only [zA, zB, zC]; exact rfl) rfl) rfl (fun w' hS hV K hK => ?_) ?_
            · have e0 : x 0 = (.agg #[.int .i64 P, .slice A n c]) := hV 0 (by decide)
              have e4 : x 4 = (.slice B1 n d1) := hV 4 (by decide)
              have q2 := hS.1; obtain ⟨q0, q1⟩ := hS.2.1.two
              go_simp
              refine (HRM.out w' hS.2.2).mono ?_
              rintro e v1 ⟨A9, c9, rfl, hM⟩
              exact hK.out _ _ _ rfl rfl ⟨_, _, rfl, hM.after hS.2.2⟩ hM.b
            simp only [zD, zE, zF]
            refine obs_step (Eq.trans (by simp only [zA, zB, zC]; exact rfl) rfl) rfl (fun w' hS hV K hK => ?_) ?_
            · obtain ⟨A5, c5, e5, h5⟩ := hV 5 (by decide)
              have q2 := hS.1; obtain ⟨q0, q1⟩ := hS.2.1.two
              go_simp
              exact hK.out _ _ _ rfl rfl ⟨_, _, rfl, h5⟩ (Below.refl _ _)
            simp only [zD, zE, zF]
            refine obs_step (Eq.trans (by simp only [zA, zB, zC]; exact rfl) rfl) rfl (fun w' hS hV K hK => ?_) ?_
            · obtain ⟨A5, c5, e5, h5⟩ := hV 5 (by decide)
              obtain ⟨A6, c6, e6, h6⟩ := hV 6 (by decide)
              have q2 := hS.1; obtain ⟨q0, q1⟩ := hS.2.1.two
              go_simp
              exact hK.out _ _ _ rfl rfl ⟨_, _, rfl, h6⟩ (Below.refl _ _)
            simp only [zD, zE, zF]
            refine obs_step (Eq.trans (by simp only [zA, zB, zC]; exact rfl) rfl) rfl (fun w' hS hV K hK => ?_) ?_
            · obtain ⟨A5, c5, e5, h5⟩ := hV 5 (by decide)
              obtain ⟨A6, c6, e6, h6⟩ := hV 6 (by decide)
              have q2 := hS.1; obtain ⟨q0, q1⟩ := hS.2.1.two
              go_simp
              exact hK.out _ _ _ rfl rfl rfl (Below.refl _ _)
            simp only [zD, zE, zF]
            refine obs_step (Eq.trans (by simp only [zA, zB, zC]; exact rfl) rfl) rfl (fun w' hS hV K hK => ?_) ?_
            · obtain ⟨A5, c5, e5, h5⟩ := hV 5 (by decide)
              obtain ⟨A6, c6, e6, h6⟩ := hV 6 (by decide)
              obtain ⟨A7, c7, e7, h7⟩ := hV 7 (by decide)
              have q2 := hS.1; obtain ⟨q0, q1⟩ := hS.2.1.two
              go_simp
              exact hK.out _ _ _ rfl rfl ⟨_, _, rfl, h7⟩ (Below.refl _ _)
            simp only [zD, zE, zF]
            refine obs_step (Eq.trans (by simp only [zA, zB, zC]; exact rfl) rfl) rfl (fun w' hS hV K hK => ?_) ?_
            · obtain ⟨A5, c5, e5, h5⟩ := hV 5 (by decide)
              obtain ⟨A6, c6, e6, h6⟩ := hV 6 (by decide)
              have e8 : x 8 = (.int .i64 (0)) := hV 8 (by decide)
              have q2 := hS.1; obtain ⟨q0, q1⟩ := hS.2.1.two
              go_simp
              exact hK.out _ _ _ rfl rfl rfl (Below.refl _ _)
            simp only [zD, zE, zF]
            refine fun w' hS hV => ?_
            have e0 : x 0 = (.agg #[.int .i64 P, .slice A n c]) := hV 0 (by decide)
            have e1 : x 1 = (.slice (some ⟨gz, oz, none⟩) kg cg) := hV 1 (by decide)
            have e2 : x 2 = (.int .i64 (k)) := hV 2 (by decide)
            have e3 : x 3 = (.pointer (some ⟨gz, oz + k, none⟩)) := hV 3 (by decide)
            have e4 : x 4 = (.slice B1 n d1) := hV 4 (by decide)
            obtain ⟨A5, c5, e5, h5⟩ := hV 5 (by decide)
            obtain ⟨A6, c6, e6, h6⟩ := hV 6 (by decide)
            obtain ⟨A7, c7, e7, h7⟩ := hV 7 (by decide)
            have e8 : x 8 = (.int .i64 (0)) := hV 8 (by decide)
            obtain ⟨A9, c9, e9, h9⟩ := hV 9 (by decide)
            have e10 : x 10 = (.int .i64 (0)) := hV 10 (by decide)
            simp only [e0, e1, e2, e3, e4, e5, e6, e7, e8, e9, e10]
            clear e0 e1 e2 e3 e4 e5 e6 e7 e8 e9 e10
            refine wpAny_done (by kernel_rfl) ?_ _
            have kk2 := hS.2.1
            have hb9 := hS.2.2
            obtain ⟨w19, rfl⟩ : ∃ W, W = w' := ⟨_, rfl⟩
            clear hS q0 q1 HRM kk
            obtain ⟨q0, q1⟩ := kk2.two
            have hcall := MultiplyMatrices_ok P A0 n c0 (PR k) A9 c9 (rmatL P sq n v) w19 HPP.out hd1 (by omega) (HR.out.below hb9) HTK.out.1 h9.rd HRT.out
            rw [← HPK.out] at hcall
            clear hcell
            go_wp2_with fail
            refine hcall.mono ?_
            rintro e w20 ⟨A9, c9, rfl, hM9⟩
            have r9 := hM9.rd
            have hb10 := hbr.trans ((hb9.trans (hM9.b.mono hb9.size)).mono hbr.size)
            clear hM9 hcall q0 q1 kk2 hb9 h9
            go_wp2
            go_roundw
            case rel => exact ⟨k + 1, A9, c9, by omega, by go_num, rfl, r9, hb10⟩
            case measure => simp [intOf]; omega
          · obtain rfl : k = kg := by omega
            rw [← hgl, HB4.out] at hr
            have hW9 := hW.trans (hbr.mono hW.size)
            have hcall := likeRows5_same A0 AL n c0 cl L wr (by omega) hr (r_l.below hbr) (fun v hv => by rw [(HLT.out v hv).1]; omega)
            go_wp2_with fail
            refine hcall.mono ?_
            rintro e w20 ⟨rfl, hb7⟩
            go_wp2
            go_ret
            exact ⟨rfl, hB3.trans ((hW9.trans (hb7.mono hW9.size)).mono hB3.size)⟩
      · skip
        obtain rfl : dt = 1 := by simpa using hd7
        have m3 : kg % 2 = 0 := by simpa using hd6
        have m2 : (kg : Int) % 2 = 0 := by omega
        have m1 : (kg : Int).tmod 2 = 0 := by rw [Int.tmod_eq_emod_of_nonneg (by omega)]; exact m2
        clear hd6 hd7 hd8
        have esb : (sb != sb) = false := by simp
        have kk := k3.below hW k3.lt
        obtain ⟨q0, q1⟩ := kk.two
        have hcall := likeRows5_same Ab AL n cb2 cl L w15 (by omega) r_b r_l (fun v hv => by rw [(HLT.out v hv).1]; omega)
        go_wp2_with fail
        refine hcall.mono ?_
        rintro e w16 ⟨rfl, hb7⟩
        replace kk := kk.below hb7 kk.lt
        replace hW := hW.trans (hb7.mono hW.size)
        replace r_l := r_l.below hb7
        replace r_g := r_g.below hb7
        clear hcall q0 q1 r_b
        obtain ⟨q0, q1⟩ := kk.two
        go_wp2_with fail
        clear q0 q1 kk m1 m2 m3 esb
        refine (unit5_any n _ (by omega)).mono ?_
        rintro e w18 ⟨A0, c0, rfl, hU⟩
        have r0 : RdII w18 A0 n (PR 0) := by rw [HB1.out]; exact hU.rd
        have hbu := hU.b
        replace hW := hW.trans (hbu.mono hW.size)
        replace r_l := r_l.below hbu
        replace r_g := r_g.below hbu
        clear hU hbu
        go_wp2
        go_loopw [27, 28] (fun nv iv wr => ∃ (k : Nat) (A0 : Option Addr) (c0 : Nat), k ≤ kg ∧ iv = .int .i64 k ∧ nv = .slice A0 n c0 ∧ RdII wr A0 n (PR k) ∧ Below w18.heap.size w18 wr) (fun _ iv _ => kg - (intOf iv).toNat)
        case atStart => exact ⟨0, A0, c0, by omega, rfl, rfl, r0, Below.refl _ _⟩
        case round =>
          obtain ⟨k, A0, c0, hk, rfl, rfl, hr, hbr⟩ := hrel
          clear r0
          by_cases hlt : k < kg
          · have kk := k3.below (hW.trans (hbr.mono hW.size)) k3.lt
            obtain ⟨gz, oz, rfl, hxi, B1, d1, hcell, hr1, hcap⟩ := (r_g.below hbr).at_ hlt
            have hv := HA2.out G[k] (List.getElem_mem hxi)
            rw [hv.1] at hcell hr1 hcap
            have oo := o3.below (hW.trans (hbr.mono hW.size))
            have HPK : Hid (PR (k + 1) = timesM P (PR k) (rmatL P sq n G[k])) := Lib.hid (HB2.out k hxi)
            obtain ⟨v, hve⟩ : ∃ v, v = G[k] := ⟨_, rfl⟩
            rw [← hve] at hv hr1 HPK
            have HRM := Lib.hid fun (w' : World) (h : Below wr.heap.size wr w') => ReflectionMatrix_ok P A n c sq B1 d1 v w' HSP.out HREG.out (oo.below h) (hr1.below h) hcap hv.2.1 hv.2.2
            have hTK := HB3.out k
            have HTK := Lib.hid hTK
            have HRT := Lib.hid (rmatL_tab (P := P) (show 2 ≤ P by omega) sq n v)
            have HR := Lib.hid hr
            clear hve hv hr1 hcap hxi oo hTK hr
            obtain ⟨q0, q1⟩ := kk.two
            go_wp2
            refine wp_obs 11 [[], [], [], [1, 2], [1, 2, 3], [0, 1, 2, 3, 4], [0, 1, 2, 3, 4, 5], [0, 1, 2, 3, 4, 5, 6], [0, 1, 2, 3, 4, 5, 6], [0, 1, 2, 3, 4, 5, 6, 7], [0, 1, 2, 3, 4, 5, 6, 8]] [VIs (.agg #[.int .i64 P, .slice A n c]), VIs (.slice (some ⟨gz, oz, none⟩) kg cg), VIs (.int .i64 (k)), VIs (.pointer (some ⟨gz, oz + k, none⟩)), VIs (.slice B1 n d1), VTm wr n (rmatL P sq n v), VTm wr n (rmatL P sq n v), VMat wr n (rmatL P sq n v), VIs (.int .i64 (0)), VMat wr n (rmatL P sq n v), VIs (.int .i64 (0))] (fun w' => w'.cell? ⟨gz, oz + k, none⟩ = some (.slice B1 n d1) ∧ Blk w' w2.heap.size 26 #[.int .i64 P, .slice A n c] ∧ Below wr.heap.size wr w') (by kernel_rfl) (by kernel_rfl) (fun _ _ h hb => ⟨(hb.cell (World.block_lt_of_cell? _ _ h.1)).trans h.1, h.2.1.below hb h.2.1.lt, h.2.2.trans (hb.mono h.2.2.size)⟩) (⟨hcell, kk.drew, (Below.refl _ _).drew⟩) (fun x => ?_)
            refine obs_step (Eq.trans (by simp only [zA, zC]; exact rfl) rfl) rfl (fun w' hS hV K hK => ?_) ?_
            · have q2 := hS.1; obtain ⟨q0, q1⟩ := hS.2.1.two
              go_simp
              exact hK.out _ _ _ rfl rfl rfl (Below.refl _ _)
            simp only [zD, zE, zF]
            refine obs_step (Eq.trans (by simp only [zA, zB, zC]; exact rfl) rfl) rfl (fun w' hS hV K hK => ?_) ?_
            · have q2 := hS.1; obtain ⟨q0, q1⟩ := hS.2.1.two
              go_simp
              exact hK.out _ _ _ rfl rfl rfl (Below.refl _ _)
            simp only [zD, zE, zF]
            refine obs_step (Eq.trans (by simp only [zA, zB, zC]; exact rfl) rfl) rfl (fun w' hS hV K hK => ?_) ?_
            · have q2 := hS.1; obtain ⟨q0, q1⟩ := hS.2.1.two
              go_simp
              exact hK.out _ _ _ rfl rfl rfl (Below.refl _ _)
            simp only [zD, zE, zF]
            refine obs_step (Eq.trans (by simp only [zA, zB, zC]; exact rfl) rfl) rfl (fun w' hS hV K hK => ?_) ?_
            · have e1 : x 1 = (.slice (some ⟨gz, oz, none⟩) kg cg) := hV 1 (by decide)
              have e2 : x 2 = (.int .i64 (k)) := hV 2 (by decide)
              have q2 := hS.1; obtain ⟨q0, q1⟩ := hS.2.1.two
              go_simp
              exact hK.out _ _ _ rfl rfl rfl (Below.refl _ _)
            simp only [zD, zE, zF]
            refine obs_step (Eq.trans (by simp only [zA, zB, zC]; exact rfl) rfl) rfl (fun w' hS hV K hK => ?_) ?_
            · have e3 : x 3 = (.pointer (some ⟨gz, oz + k, none⟩)) := hV 3 (by decide)
              have q2 := hS.1; obtain ⟨q0, q1⟩ := hS.2.1.two
              go_simp
              exact hK.out _ _ _ rfl rfl rfl (Below.refl _ _)
            simp only [zD, zE, zF]
            refine obs_step (Eq.trans (by simp only [zA, zB, zC]; exact rfl) rfl) rfl (fun w' hS hV K hK => ?_) ?_
            · have e0 : x 0 = (.agg #[.int .i64 P, .slice A n c]) := hV 0 (by decide)
              have e4 : x 4 = (.slice B1 n d1) := hV 4 (by decide)
              have q2 := hS.1; obtain ⟨q0, q1⟩ := hS.2.1.two
              go_simp
              refine (HRM.out w' hS.2.2).mono ?_
              rintro e v1 ⟨A9, c9, rfl, hM⟩
              exact hK.out _ _ _ rfl rfl ⟨_, _, rfl, hM.after hS.2.2⟩ hM.b
            simp only [zD, zE, zF]
            refine obs_step (Eq.trans (by simp only [zA, zB, zC]; exact rfl) rfl) rfl (fun w' hS hV K hK => ?_) ?_
            · obtain ⟨A5, c5, e5, h5⟩ := hV 5 (by decide)
              have q2 := hS.1; obtain ⟨q0, q1⟩ := hS.2.1.two
              go_simp
              exact hK.out _ _ _ rfl rfl ⟨_, _, rfl, h5⟩ (Below.refl _ _)
            simp only [zD, zE, zF]
            refine obs_step (Eq.trans (by simp only [zA, zB, zC]; exact rfl) rfl) rfl (fun w' hS hV K hK => ?_) ?_
            · obtain ⟨A5, c5, e5, h5⟩ := hV 5 (by decide)
              obtain ⟨A6, c6, e6, h6⟩ := hV 6 (by decide)
              have q2 := hS.1; obtain ⟨q0, q1⟩ := hS.2.1.two
              go_simp
              exact hK.out _ _ _ rfl rfl ⟨_, _, rfl, h6⟩ (Below.refl _ _)
            simp only [zD, zE, zF]
            refine obs_step (Eq.trans (by simp only [zA, zB, zC]; exact rfl) rfl) rfl (fun w' hS hV K hK => ?_) ?_
            · obtain ⟨A5, c5, e5, h5⟩ := hV 5 (by decide)
              obtain ⟨A6, c6, e6, h6⟩ := hV 6 (by decide)
              have q2 := hS.1; obtain ⟨q0, q1⟩ := hS.2.1.two
              go_simp
              exact hK.out _ _ _ rfl rfl rfl (Below.refl _ _)
            simp only [zD, zE, zF]
            refine obs_step (Eq.trans (by simp only [zA, zB, zC]; exact rfl) rfl) rfl (fun w' hS hV K hK => ?_) ?_
            · obtain ⟨A5, c5, e5, h5⟩ := hV 5 (by decide)
              obtain ⟨A6, c6, e6, h6⟩ := hV 6 (by decide)
              obtain ⟨A7, c7, e7, h7⟩ := hV 7 (by decide)
              have q2 := hS.1; obtain ⟨q0, q1⟩ := hS.2.1.two
              go_simp
              exact hK.out _ _ _ rfl rfl ⟨_, _, rfl, h7⟩ (Below.refl _ _)
            simp only [zD, zE, zF]
            refine obs_step (Eq.trans (by simp only [zA, zB, zC]; exact rfl) rfl) rfl (fun w' hS hV K hK => ?_) ?_
            · obtain ⟨A5, c5, e5, h5⟩ := hV 5 (by decide)
              obtain ⟨A6, c6, e6, h6⟩ := hV 6 (by decide)
              have e8 : x 8 = (.int .i64 (0)) := hV 8 (by decide)
              have q2 := hS.1; obtain ⟨q0, q1⟩ := hS.2.1.two
              go_simp
              exact hK.out _ _ _ rfl rfl rfl (Below.refl _ _)
            simp only [zD, zE, zF]
            refine fun w' hS hV => ?_
            have e0 : x 0 = (.agg #[.int .i64 P, .slice A n c]) := hV 0 (by decide)
            have e1 : x 1 = (.slice (some ⟨gz, oz, none⟩) kg cg) := hV 1 (by decide)
            have e2 : x 2 = (.int .i64 (k)) := hV 2 (by decide)
            have e3 : x 3 = (.pointer (some ⟨gz, oz + k, none⟩)) := hV 3 (by decide)
            have e4 : x 4 = (.slice B1 n d1) := hV 4 (by decide)
            obtain ⟨A5, c5, e5, h5⟩ := hV 5 (by decide)
            obtain ⟨A6, c6, e6, h6⟩ := hV 6 (by decide)
            obtain ⟨A7, c7, e7, h7⟩ := hV 7 (by decide)
            have e8 : x 8 = (.int .i64 (0)) := hV 8 (by decide)
            obtain ⟨A9, c9, e9, h9⟩ := hV 9 (by decide)
            have e10 : x 10 = (.int .i64 (0)) := hV 10 (by decide)
            simp only [e0, e1, e2, e3, e4, e5, e6, e7, e8, e9, e10]
            clear e0 e1 e2 e3 e4 e5 e6 e7 e8 e9 e10
            refine wpAny_done (by kernel_rfl) ?_ _
            have kk2 := hS.2.1
            have hb9 := hS.2.2
            obtain ⟨w19, rfl⟩ : ∃ W, W = w' := ⟨_, rfl⟩
            clear hS q0 q1 HRM kk
            obtain ⟨q0, q1⟩ := kk2.two
            have hcall := MultiplyMatrices_ok P A0 n c0 (PR k) A9 c9 (rmatL P sq n v) w19 HPP.out hd1 (by omega) (HR.out.below hb9) HTK.out.1 h9.rd HRT.out
            rw [← HPK.out] at hcall
            clear hcell
            go_wp2_with fail
            refine hcall.mono ?_
            rintro e w20 ⟨A9, c9, rfl, hM9⟩
            have r9 := hM9.rd
            have hb10 := hbr.trans ((hb9.trans (hM9.b.mono hb9.size)).mono hbr.size)
            clear hM9 hcall q0 q1 kk2 hb9 h9
            go_wp2
            go_roundw
            case rel => exact ⟨k + 1, A9, c9, by omega, by go_num, rfl, r9, hb10⟩
            case measure => simp [intOf]; omega
          · obtain rfl : k = kg := by omega
            rw [← hgl, HB4.out] at hr
            have hW9 := hW.trans (hbr.mono hW.size)
            have hcall := likeRows5_same A0 AL n c0 cl L wr (by omega) hr (r_l.below hbr) (fun v hv => by rw [(HLT.out v hv).1]; omega)
            go_wp2_with fail
            refine hcall.mono ?_
            rintro e w20 ⟨rfl, hb7⟩
            go_wp2
            go_ret
            exact ⟨rfl, hB3.trans ((hW9.trans (hb7.mono hW9.size)).mono hB3.size)⟩
    · rw [decR_bad hz] at hGz
      have hv := (Prod.mk.inj hGz).2
      have e1 : (z != 0) = true := by rw [hv, bne_iff_ne]; exact hz
      rcases codeO_bad hz hOK with ⟨h1, h2, h3⟩ | ⟨h1, h2⟩
      · rw [h3] at hv
        subst hv h1 h2
        clear hz h3 hGz hOK hRL hsl HSZ
        go_wp2
        go_ret
        exact ⟨rfl, hB3.trans (hW.mono hB3.size)⟩
      · rw [h2] at hv
        subst hv
        have e2 : (z == z) = true := by simp
        clear hz h2 hGz hOK hRL hsl HSZ h1
        go_wp2
        go_ret
        exact ⟨rfl, hB3.trans (hW.mono hB3.size)⟩
end Go.Proofs.YtdbibmilicjllaaGreat
