/-
  LawFnCentres: part 6 of the texts that the proof needs. No condition.
-/
import Derived.Test.YtmkjdpnoloofjaaGreatU5
namespace Go.Proofs.YtmkjdpnoloofjaaGreat
open Go.RowKit
theorem nums_drawn {P : Int} {xs : List Int} (h : nums P xs = true) : NumsL P xs := fun x hx => by
 have := List.all_eq_true.1 h x hx
 simp [inR] at this
 omega
set_option maxHeartbeats 6400000 in
set_option maxRecDepth 8000 in
theorem l04Spoil_any (g : Nat) (P : Int) (A : Option Addr) (n c : Nat) (sq : List Int) (w : World) (hs : Src w g 144) (hn : n ≤ 1048576) (ho : Own w 0 2 A n c (ints sq)) :
    Calls Tryz.prog 169 #[.pointer (some ⟨g, 0, none⟩), .agg #[.int .i64 P, .slice A n c]] w fun e w' => ∃ (A' : Option Addr) (m c' : Nat), e = .returned (.slice A' m c') ∧ m ≤ 100 ∧ (∃ xs : List Int, Own w' w.heap.size 2 A' m c' (ints xs)) ∧ Dr g 144 w w' := by
 have hsl : sq.length = n := ho.rd.lenI
 have k0 : Blk (w.alloc (.cells #[.int .i64 P, .slice A n c] 26)) w.heap.size 26 #[.int .i64 P, .slice A n c] := Blk.new _ _ _
 have d0 := (Dr.refl hs).alloc (.cells #[.int .i64 P, .slice A n c] 26)
 have o0 := ho.below (zG.alloc (Nat.le_refl _) (.cells #[.int .i64 P, .slice A n c] 26))
 have hSQ : ∀ gb, (Value.slice A n c).ownBlock = some gb → gb < w.heap.size := fun gb e => (World.ownsRow.lt ho gb e).2
 cases h1 : isSp P sq
 · have H1 := Lib.hid h1
   clear h1
   go_enter Tryz.func169, Tryz.ntmps169
   go_wp2_with fail
   refine (l03Is_b _ _ _ _ _ _ (by omega) o0.rd H1.out).mono ?_
   rintro e w2 ⟨rfl, hb⟩
   have d2 := d0.then hb
   have hM := (Mk.lit (E := 2) (Below.refl w2.heap.size w2) #[.int .i64 1, .int .i64 0] (by simp [maxLen])).2.base (B' := w.heap.size) d2.size
   have d3 := d2.alloc (.cells #[.int .i64 1, .int .i64 0] 2)
   clear hb d2 d0 o0 k0
   go_wp2
   go_ret
   exact ⟨_, 2, _, rfl, by omega, ⟨[1, 0], by simpa [ints] using hM⟩, d3⟩
 · obtain ⟨hP, hn1, hn2, hq⟩ := isSp_dim h1
   obtain ⟨hp3, hp2⟩ := isP_ge hP
   have HQ := Lib.hid (nums_drawn hq)
   have H1 := Lib.hid h1
   rw [hsl] at hn1 hn2
   have hpw : pw n ≤ 64 := pw_le hn2
   have hpn := pw_pos n
   clear h1 hP hq
   go_enter Tryz.func169, Tryz.ntmps169
   go_wp2_with fail
   refine (l03Is_b _ _ _ _ _ _ (by omega) o0.rd H1.out).mono ?_
   rintro e w2 ⟨rfl, hb⟩
   have d2 := d0.then hb
   have k2 := k0.below hb k0.lt
   have o2 := o0.below hb
   have hdr := l04Draw_any g P A n c sq w2 d2.s' (by omega) hp2 hn2 hn1 o2 HQ.out
   clear hb d0 o0 k0
   obtain ⟨q0, q1⟩ := k2.two
   go_wp2_with fail
   refine hdr.mono ?_
   rintro e w3 ⟨A2, c2, rfl, ⟨X5, h3⟩, hd3⟩
   have d3 := d2.trans hd3
   have k3 := k2.dr hd3 (by decide)
   have o3 := o2.dr hd3 (by decide)
   have h3' := h3.base (B' := w.heap.size) d2.size
   have hnx := next_any g 30 w3 d3.s' (by omega)
   clear hdr d2 k2 o2 h3 hd3 q0 q1
   go_wp2_with fail
   refine hnx.mono ?_
   rintro e w4 ⟨r, rfl, hr1, hr2, hd4⟩
   have d5 := d3.trans hd4
   have k5 := k3.dr hd4 (by decide)
   have o5 := o3.dr hd4 (by decide)
   have h5 := h3'.dr hd4 (by decide)
   clear hnx d3 k3 o3 h3' hd4
   by_cases h0 : r = 0
   · have e0 : (r == 0) = true := by simp [h0]
     have H5 := Lib.hid h5
     clear h5
     go_wp2_with (first
      | (at_builtin; (refine wpList_app1 (cutW w4 w.heap.size) w4 24 2 _ _ Tryz.underlying24 info_i rfl (by omega) rfl _ _ rfl A2 (pw n) c2 _ _ (H5.out.mk_ d5.size) (by omega) rfl rfl rfl ?_; intro A9 c9 w9 hM9 hg9 _)))
     have hO9 := hM9.own_ (cutW_size d5.size)
     have d9 := d5.grown H5.out hg9
     clear hM9 hg9
     go_wp2
     go_ret
     exact ⟨A9, pw n + 1, c9, rfl, by omega, ⟨X5 ++ [0], by simpa [ints] using hO9⟩, d9⟩
   · have e0 : (r == 0) = false := by simp [h0]
     by_cases h1 : r = 1
     · have e1 : (r == 1) = true := by simp [h1]
       rcases h5.form with ⟨_, hzz⟩ | ⟨g2, rfl, hga, hgb⟩
       · omega
       obtain ⟨q0, q1⟩ := k5.two
       go_wp2
       refine wp_obsR 11 (Dr g 144) [[], [], [], [2], [1, 2, 3], [], [], [6], [6, 7], [1, 2, 3, 4, 5, 6, 7, 8], [0, 1, 2, 3, 4], [0, 1, 2, 3, 4, 5, 6, 7, 8, 9, 10]] [[], [], [], [], [99], [], [], [], [], [8], []] (fun x => [VIs (.slice (some ⟨g2, 0, none⟩) (pw n) c2), VIs (.pointer (some ⟨g, 0, none⟩)), VIs (.agg #[.int .i64 P, .slice A n c]), VIs (.int .i64 (pw n)), VIx (pw n), VIs (.pointer (some ⟨g, 0, none⟩)), VIs (.pointer (some ⟨w.heap.size, 0, none⟩)), VIs (.int .i64 (P)), VBs 2 #[.int .i64 (-1), .int .i64 P], VNum, VPt g2 (pw n) (x 4)]) (fun w' => Blk w' w.heap.size 26 #[.int .i64 P, .slice A n c] ∧ Own w' 0 2 A n c (ints sq) ∧ Dr g 144 w w' ∧ Own w' w.heap.size 2 (some ⟨g2, 0, none⟩) (pw n) c2 (ints X5)) (by kernel_rfl) (by kernel_rfl) (fun x x' j hx => by
           rcases j with _ | _ | _ | _ | _ | _ | _ | _ | _ | _ | _ | j
           · rfl
           · rfl
           · rfl
           · rfl
           · rfl
           · rfl
           · rfl
           · rfl
           · rfl
           · rfl
           · rw [hx 4 (by decide)]
           · rfl)
        (weak_ofR [0, 1, 2, 3, 4, 5, 6, 7, 8, 9, 10] (by decide) (fun k hk x v w w' hp hr => by
         simp only [List.mem_cons, zJ, or_false] at hk
         rcases hk with rfl | rfl | rfl | rfl | rfl | rfl | rfl | rfl | rfl | rfl | rfl
         · exact hp
         · exact hp
         · exact hp
         · exact hp
         · exact hp
         · exact hp
         · exact hp
         · exact hp
         · obtain ⟨G9, e9, b9⟩ := hp; exact ⟨G9, e9, b9.dr hr (by decide)⟩
         · exact hp
         · exact hp)) (fun j _ _ h hb => hb.either (fun hb => ⟨h.1.below hb h.1.lt, h.2.1.below hb, h.2.2.1.then hb, h.2.2.2.below hb⟩) (fun hr => ⟨h.1.dr hr (by decide), h.2.1.dr hr (by decide), h.2.2.1.trans hr, h.2.2.2.dr hr (by decide)⟩)) (⟨k5.drew, o5.below zG.drew, d5.then zG.drew, h5.below zG.drew⟩) (fun x => ?_)
       refine zSR (fun w' hS hV K hK => ?_) ?_
       · obtain ⟨q0, q1⟩ := hS.1.two; go_simp; exact hK.out _ _ _ rfl rfl rfl zG
       refine zSR (fun w' hS hV K hK => ?_) ?_
       · obtain ⟨q0, q1⟩ := hS.1.two; go_simp; exact hK.out _ _ _ rfl rfl rfl zG
       refine zSR (fun w' hS hV K hK => ?_) ?_
       · obtain ⟨q0, q1⟩ := hS.1.two; go_simp; exact hK.out _ _ _ rfl rfl rfl zG
       refine zSR (fun w' hS hV K hK => ?_) ?_
       · have e2 := zQ hV 2; obtain ⟨q0, q1⟩ := hS.1.two; go_simp; refine (l04Size_any P A n c w' (by omega)).mono ?_; rintro e v1 ⟨rfl, hb⟩; exact hK.out _ _ _ rfl rfl rfl hb
       refine zSR (fun w' hS hV K hK => ?_) ?_
       · have e1 := zQ hV 1; have e3 := zQ hV 3; obtain ⟨q0, q1⟩ := hS.1.two; go_simp; refine (next_any g ((pw n : Nat) : Int) w' hS.2.2.1.s' (by omega)).mono ?_; rintro e v1 ⟨rr, rfl, t1, t2, hd9⟩; have t3 := t2 (by omega); obtain ⟨rn2, rfl⟩ : ∃ k : Nat, rr = k := ⟨rr.toNat, by omega⟩; exact hK.out _ _ _ rfl rfl ⟨rn2, rfl, by omega⟩ hd9
       refine zSR (fun w' hS hV K hK => ?_) ?_
       · obtain ⟨q0, q1⟩ := hS.1.two; go_simp; exact hK.out _ _ _ rfl rfl rfl zG
       refine zSR (fun w' hS hV K hK => ?_) ?_
       · obtain ⟨q0, q1⟩ := hS.1.two; go_simp; exact hK.out _ _ _ rfl rfl rfl zG
       refine zSR (fun w' hS hV K hK => ?_) ?_
       · have e6 := zQ hV 6; obtain ⟨q0, q1⟩ := hS.1.two; go_simp; exact hK.out _ _ _ rfl rfl rfl zG
       refine zSR (fun w' hS hV K hK => ?_) ?_
       · have e7 := zQ hV 7; obtain ⟨q0, q1⟩ := hS.1.two; go_simp; exact hK.out _ _ _ rfl rfl ⟨_, rfl, Blk.new _ _ _⟩ (zG.alloc (Nat.le_refl _) _)
       refine zSR (fun w' hS hV K hK => ?_) ?_
       · obtain ⟨rx, e4, lx⟩ := hV 4 (by decide); have e5 := zQ hV 5; obtain ⟨G5, e5, b5⟩ := hV 8 (by decide); obtain ⟨q0, q1⟩ := hS.1.two; go_simp; refine (pick_any g G5 [-1, P] _ hS.2.2.1.s' (by rw [ints2]; exact b5) (by simp) (by simp)).mono ?_; rintro e v1 ⟨r1, _, rfl, hr⟩; exact hK.out _ _ _ rfl rfl ⟨_, rfl⟩ hr
       refine zSR (fun w' hS hV K hK => ?_) ?_
       · have e0 := zQ hV 0
         obtain ⟨rx, e4, lx⟩ := hV 4 (by decide)
         obtain ⟨q0, q1⟩ := hS.1.two
         have b1 : (0 : Int) ≤ (rx : Int) := by omega
         have b2 : (rx : Int) < ((pw n : Nat) : Int) := by omega
         go_simp
         exact hK.out _ _ _ rfl rfl ⟨rx, e4, lx, rfl⟩ zG
       refine fun w' hS hV => ?_
       have e0 := zQ hV 0
       have e1 := zQ hV 1
       have e2 := zQ hV 2
       have e3 := zQ hV 3
       obtain ⟨rx, e4, lx⟩ := hV 4 (by decide)
       have e5 := zQ hV 5
       have e6 := zQ hV 6
       have e7 := zQ hV 7
       obtain ⟨rv, e9⟩ := hV 9 (by decide)
       obtain ⟨ry, f10, ly, e10⟩ := hV 10 (by decide)
       simp only [e0, e1, e2, e3, e4, e5, e6, e7, e9, e10]
       clear e0 e1 e2 e3 e4 e5 e6 e7 e9 e10
       obtain ⟨k6, o6, d6, h6⟩ := hS
       obtain ⟨w6, rfl⟩ : ∃ W, W = w' := ⟨_, rfl⟩
       obtain ⟨u1, hc1⟩ := h6.cellI ly
       have hf1 := h6.frozen_ ry
       refine any_one (j := 11) (by kernel_rfl) (Eq.trans (by simp only [zA, zB, zC]; exact rfl) rfl) (fun K hK => ?_)
       go_simp
       refine hK.out _ _ (wpAny_done (by kernel_rfl) ?_ _)
       obtain ⟨h7, hg7⟩ := h6.set_ ry (.int .i64 rv)
       rw [ints_set] at h7
       have d7 := d6.grown h6 hg7
       clear k6 o6 d6 h6 hg7 hc1 hf1 k5 o5 d5 h5 q0 q1
       go_wp2
       go_ret
       exact ⟨_, _, _, rfl, by omega, ⟨_, h7⟩, d7⟩
     · have e1 : (r == 1) = false := by simp [h1]
       go_wp2
       go_ret
       exact ⟨A2, pw n, c2, rfl, by omega, ⟨X5, h5⟩, d5⟩
/-- A list of lists of the call's own, in blocks from B on. -/
def OwnM (w : World) (B : Nat) (A : Option Addr) (n c : Nat) (xss : List (List Int)) : Prop := ∃ rows, Own w B 24 A n c rows ∧ Nest w B rows xss
section
variable {w w' w0 W : World} {B B' g : Nat} {T : TypeId} {A : Option Addr} {n c : Nat} {xss : List (List Int)}
theorem OwnM.dr (h : OwnM w B A n c xss) (d : Dr g T w w') (h1 : 24 ≠ T) (h2 : 2 ≠ T) : OwnM w' B A n c xss := by
 obtain ⟨rows, ho, hn⟩ := h
 exact ⟨rows, ho.dr d h1, hn.len, fun k hk => by obtain ⟨A1, c1, e, h3⟩ := hn.row k hk; exact ⟨A1, c1, e, h3.dr d h2⟩, hn.apart⟩
theorem OwnM.below (h : OwnM w B A n c xss) (hb : Below w.heap.size w w') : OwnM w' B A n c xss := by
 obtain ⟨rows, ho, hn⟩ := h; exact ⟨rows, ho.below hb, hn.below hb⟩
theorem OwnM.base (h : OwnM w B A n c xss) (hB : B' ≤ B) : OwnM w B' A n c xss := by
 obtain ⟨rows, ho, hn⟩ := h; exact ⟨rows, ho.base hB, hn.base hB⟩
theorem OwnM.rd (h : OwnM w B A n c xss) : RdII w A n xss := by
 obtain ⟨rows, ho, hn⟩ := h
 exact ⟨rows, ho.rd, hn.len, fun k hk => by obtain ⟨A', c', e, ho⟩ := hn.row k hk; exact ⟨A', c', e, ho.rd, ho.cap⟩⟩
end
section
variable {w w' : World} {g res : Nat}
theorem Blk.stored {p' : Int} {A' : Option Addr} {n' c' : Nat} {a b : Value} (k : Blk w res 26 #[a, b]) : Blk ((w.setCell ⟨res, 0, none⟩ (.int .i64 p')).setCell ⟨res, 1, none⟩ (.slice A' n' c')) res 26 #[.int .i64 p', .slice A' n' c'] := by
 simpa using (k.set_ 0 (.int .i64 p')).set_ 1 (.slice A' n' c')
end
/-- A cell of a list of lists. -/
def RowAt (w : World) (a : Addr) (v : Value) : Prop := ∃ (g k n c : Nat) (us : List Value), a = ⟨g, k, none⟩ ∧ Own w 0 24 (some ⟨g, 0, none⟩) n c us ∧ k < n ∧ us[k]? = some v
section
variable {w w' : World} {a : Addr} {v : Value}
theorem RowAt.cell (h : RowAt w a v) : w.cell? a = some v := by
 obtain ⟨g, k, n, c, us, rfl, ho, hk, e⟩ := h
 obtain ⟨u, e1, e2⟩ := ho.cell_ hk
 rw [e] at e1
 rw [e2, Option.some.inj e1]
theorem RowAt.below (h : RowAt w a v) (hb : Below w.heap.size w w') : RowAt w' a v := by
 obtain ⟨g, k, n, c, us, e, ho, hk, h2⟩ := h
 exact ⟨g, k, n, c, us, e, ho.below hb, hk, h2⟩
theorem RowAt.dr {g : Nat} {T : TypeId} (h : RowAt w a v) (d : Dr g T w w') (h1 : 24 ≠ T) : RowAt w' a v := by
 obtain ⟨g, k, n, c, us, e, ho, hk, h2⟩ := h
 exact ⟨g, k, n, c, us, e, ho.dr d h1, hk, h2⟩
end
theorem OwnM.of {w0 w : World} {A : Option Addr} {n c : Nat} {xss : List (List Int)} (h : MkII w0 w A n c xss) : OwnM w w0.heap.size A n c xss := by
 obtain ⟨rows, hm, hn⟩ := h
 exact ⟨rows, hm.2, hn⟩
/-- A row of a list of lists of the call's own. -/
theorem OwnM.at_ {w : World} {B : Nat} {A : Option Addr} {n c : Nat} {xss : List (List Int)} (h : OwnM w B A n c xss) {k : Nat} (hk : k < n) : ∃ (g o : Nat) (hx : k < xss.length) (A1 : Option Addr) (c1 : Nat), A = some ⟨g, o, none⟩ ∧ o = 0 ∧ RowAt w ⟨g, o + k, none⟩ (.slice A1 xss[k].length c1) ∧ Own w B 2 A1 xss[k].length c1 (ints xss[k]) := by
 obtain ⟨rows, ho, hn⟩ := h
 have hx : k < xss.length := by rw [← hn.len, ho.len]; exact hk
 rcases ho.form with ⟨_, hz⟩ | ⟨g, rfl, _, _⟩
 · omega
 obtain ⟨A1, c1, e, h3⟩ := hn.row k hx
 exact ⟨g, 0, hx, A1, c1, rfl, rfl, ⟨g, k, n, c, rows, by rw [Nat.zero_add], ho.base (Nat.zero_le _), hk, e⟩, h3⟩
end Go.Proofs.YtmkjdpnoloofjaaGreat
namespace Go.Proofs.YtmkjdpnoloofjaaGreat
section
variable {p : Int} {sq : List Int}
theorem reg_ne (hp : 0 < p) (hs : NumsL p sq) (hr : regB sq = true) {i : Nat} (hi : i < sq.length) : sq.getD i 0 % p ≠ 0 := by
 have h := hs.getD hp i
 rw [Int.emod_eq_of_lt h.1 h.2]
 exact regB_at hr (getD_mem 0 hi)
theorem facZ_ne (hr : ∀ i, i < sq.length → sq.getD i 0 % p ≠ 0) {i : Nat} (hi : i < sq.length) (m : Nat) : facZ sq (2 ^ i) (2 ^ i ^^^ m) % p ≠ 0 := fun h => by
 have h1 := facZ_cocycle sq (2 ^ i) (2 ^ i) m
 rw [facZ_same sq hi, Nat.xor_self, facZ_zero_left, Int.mul_one] at h1
 apply hr i hi
 rw [h1, Int.mul_emod, h, Int.mul_zero, Int.zero_emod]
theorem neg_same {a : Int} (hP : isP p = true) (h : (-a) % p = a % p) : a % p = 0 := by
 have h3 := isP_ge hP
 by_cases h0 : a % p = 0
 · exact h0
 · refine absurd ?_ (neg_ne hP ⟨Int.emod_nonneg a (by omega), Int.emod_lt_of_pos a (by omega)⟩ h0)
   obtain ⟨k, hk⟩ := cg_wit.1 h
   obtain ⟨j, hj⟩ := cg_wit.1 (cg_self p a)
   exact cg_wit.2 ⟨2 * j - k, by grind⟩
def d4 (p a b x0 x1 x2 x3 y0 y1 y2 y3 : Int) : List Int :=
 [(x0 * y0 + a * (x1 * y1) + b * (x2 * y2) - a * b * (x3 * y3)) % p, (x0 * y1 + x1 * y0 - b * (x2 * y3) + b * (x3 * y2)) % p, (x0 * y2 + x2 * y0 + a * (x1 * y3) - a * (x3 * y1)) % p, (x0 * y3 + x3 * y0 + x1 * y2 - x2 * y1) % p]
end
section
variable {p : Int} {sq : List Int}
/-- The left and the right matrix of a multivector, and their transposes. -/
def lcolL (p : Int) (sq : List Int) (n : Nat) (xs : List Int) : List (List Int) := tab (pw n) fun m => mulL p sq xs (unitRow (pw n) m)
def rcmL (p : Int) (sq : List Int) (n : Nat) (xs : List Int) : List (List Int) := tab (pw n) fun m => mulL p sq (unitRow (pw n) m) xs
def lmL (p : Int) (sq : List Int) (n : Nat) (xs : List Int) : List (List Int) := transL (lcolL p sq n xs)
def rmL (p : Int) (sq : List Int) (n : Nat) (xs : List Int) : List (List Int) := transL (rcmL p sq n xs)
theorem lcol_tab (hp : 2 ≤ p) (x : Cl p sq) : Tab p (pw sq.length) (lcolL p sq sq.length x.l) := Tab.tab fun m hm => by
 rw [← Cl.at_l (sq := sq) (by omega) hp hm, ← Cl.mul_l]
 exact ⟨Cl.len _, Cl.nums _⟩
theorem rcm_tab (hp : 2 ≤ p) (x : Cl p sq) : Tab p (pw sq.length) (rcmL p sq sq.length x.l) := Tab.tab fun m hm => by
 rw [← Cl.at_l (sq := sq) (by omega) hp hm, ← Cl.mul_l]
 exact ⟨Cl.len _, Cl.nums _⟩
theorem lcol_len (n : Nat) (xs : List Int) : (lcolL p sq n xs).length = pw n := tab_len _ _
theorem rcm_len (n : Nat) (xs : List Int) : (rcmL p sq n xs).length = pw n := tab_len _ _
theorem Cl.mul_sumr (hp : 0 < p) (x : Cl p sq) (f : Nat → Cl p sq) (n : Nat) : x * Cl.sum hp n f = Cl.sum hp n fun i => x * f i := by
 have h := Cl.mul_sum hp x (Cl.one hp) f n
 simp only [Cl.mul_one] at h
 exact h
theorem Cl.mul_suml (hp : 0 < p) (x : Cl p sq) (f : Nat → Cl p sq) (n : Nat) : Cl.sum hp n f * x = Cl.sum hp n fun i => f i * x := by
 have h := Cl.mul_sum hp (Cl.one hp) x f n
 simp only [Cl.one_mul] at h
 exact h
theorem lm_co (hp : 2 ≤ p) (x z : Cl p sq) {r : Nat} (hr : r < pw sq.length) : (x * z).co r % p = (sumTo (pw sq.length) fun q => ent (lmL p sq sq.length x.l) r q * z.co q) % p := by
 have hp0 : 0 < p := by omega
 have e : x * z = Cl.sum hp0 (pw sq.length) fun m => x * (z.co m * Cl.at_ hp0 m) := by
  rw [← Cl.mul_sumr, ← Cl.at_sum]
 rw [e, Cl.sum_co hp0 _ hr]
 refine sumTo_mod p fun q hq => ?_
 rw [Cl.mul_sm, Cl.sm_co _ _ hr, Int.mul_comm]
 have h1 : ent (lmL p sq sq.length x.l) r q = (x * Cl.at_ hp0 q : Cl p sq).co r := by
  unfold lmL
  refine (trans_at (lcol_tab hp x) (lcol_len _ _) (pw_pos _) hr hq).trans ?_
  unfold ent lcolL
  rw [tab_getD hq, ← Cl.at_l hp0 hp hq, ← Cl.mul_l]; rfl
 rw [h1]
theorem rm_co (hp : 2 ≤ p) (x z : Cl p sq) {r : Nat} (hr : r < pw sq.length) : (z * x).co r % p = (sumTo (pw sq.length) fun q => ent (rmL p sq sq.length x.l) r q * z.co q) % p := by
 have hp0 : 0 < p := by omega
 have e : z * x = Cl.sum hp0 (pw sq.length) fun m => (z.co m * Cl.at_ hp0 m) * x := by
  rw [← Cl.mul_suml, ← Cl.at_sum]
 rw [e, Cl.sum_co hp0 _ hr]
 refine sumTo_mod p fun q hq => ?_
 rw [Cl.sm_mul, Cl.sm_co _ _ hr, Int.mul_comm]
 have h1 : ent (rmL p sq sq.length x.l) r q = (Cl.at_ hp0 q * x : Cl p sq).co r := by
  unfold rmL
  refine (trans_at (rcm_tab hp x) (rcm_len _ _) (pw_pos _) hr hq).trans ?_
  unfold ent rcmL
  rw [tab_getD hq, ← Cl.at_l hp0 hp hq, ← Cl.mul_l]; rfl
 rw [h1]
/-- The rows of the conditions of the centre. -/
def ctrB (p : Int) (sq : List Int) (n i : Nat) : List (List Int) := tab (pw n) fun r => plusL p ((lmL p sq n (vecTo n (unitRow n i) n)).getD r []) ((rmL p sq n (vecTo n (unitRow n i) n)).getD r []) (-1)
def ctrTo (p : Int) (sq : List Int) (n : Nat) : Nat → List (List Int)
 | 0 => []
 | i + 1 => ctrTo p sq n i ++ ctrB p sq n i
def ctrL (p : Int) (sq : List Int) (n : Nat) : List (List Int) := kernL p (ctrTo p sq n n) (pw n)
theorem unitV (hp : 0 < p) (h2 : 2 ≤ p) (i : Nat) : (Cl.vec hp (unitRow sq.length i) : Cl p sq).l = vecTo sq.length (unitRow sq.length i) sq.length := Cl.vec_l hp (unitRow_nums h2 _ _)
theorem ctrB_tab (hp : 2 ≤ p) (i : Nat) : Tab p (pw sq.length) (ctrB p sq sq.length i) := Tab.tab fun r hr => by
 have h := (trans_ok (show 0 < p by omega) (lcol_tab hp (Cl.vec (by omega) (unitRow sq.length i) : Cl p sq)) (lcol_len _ _) (pw_pos _))
 rw [unitV (by omega) hp i] at h
 refine ⟨?_, plusL_nums (by omega) _ _ _⟩
 rw [plusL_len]
 exact (h.1.row (by rw [h.2]; exact hr)).1
theorem ctrTo_tab (hp : 2 ≤ p) : ∀ k, Tab p (pw sq.length) (ctrTo p sq sq.length k)
 | 0 => fun x hx => by simp [ctrTo] at hx
 | k + 1 => fun x hx => by
  rcases List.mem_append.1 (show x ∈ ctrTo p sq sq.length k ++ ctrB p sq sq.length k from hx) with h | h
  · exact ctrTo_tab hp k x h
  · exact ctrB_tab hp k x h
theorem ctrB_orth (hp : 2 ≤ p) (i : Nat) (z : Cl p sq) : Orth p (pw sq.length) (ctrB p sq sq.length i) (fun q => z.co q) ↔ Cl.vec (by omega) (unitRow sq.length i) * z = z * Cl.vec (by omega) (unitRow sq.length i) := by
 have hp0 : 0 < p := by omega
 have hN : (ctrB p sq sq.length i).length = pw sq.length := tab_len _ _
 obtain ⟨x, hx⟩ : ∃ x : Cl p sq, x = Cl.vec hp0 (unitRow sq.length i) := ⟨_, rfl⟩
 have hxl : x.l = vecTo sq.length (unitRow sq.length i) sq.length := by rw [hx]; exact unitV hp0 hp i
 have key : ∀ r, r < pw sq.length → (sumTo (pw sq.length) fun q => ent (ctrB p sq sq.length i) r q * z.co q) % p = ((x * z).co r + -1 * (z * x).co r) % p := fun r hr => by
  have e1 := lm_co hp x z hr
  have e2 := rm_co hp x z hr
  rw [cg_add e1 (cg_mul rfl e2), ← sumTo_mul, ← sumTo_add]
  refine sumTo_mod p fun q hq => ?_
  have h := (trans_ok hp0 (lcol_tab hp x) (lcol_len _ _) (pw_pos _))
  have hrow := h.1.row (show r < (transL (lcolL p sq sq.length x.l)).length by rw [h.2]; exact hr)
  have hent : ent (ctrB p sq sq.length i) r q = (ent (lmL p sq sq.length x.l) r q + -1 * ent (rmL p sq sq.length x.l) r q) % p := by
   unfold ent ctrB
   rw [tab_getD hr, ← hxl, plusL_getD _ _ (by unfold lmL; rw [hrow.1]; exact hq)]
  rw [hent, cg_mul (cg_self p _) rfl]
  congr 1; grind
 rw [← hx]
 constructor
 · intro h
   refine Cl.same fun r hr => ?_
   have h1 := h r (by rw [hN]; exact hr)
   rw [key r hr] at h1
   obtain ⟨t, ht⟩ := cg_wit.1 (h1.trans (Int.zero_emod p).symm)
   exact cg_wit.2 ⟨t, by omega⟩
 · intro h r hr
   rw [hN] at hr
   rw [key r hr, h]
   exact (cg_wit.2 ⟨0, by omega⟩ : _ % p = 0 % p).trans (Int.zero_emod p)
theorem ctr_orth (hp : 2 ≤ p) (z : Cl p sq) : ∀ k, Orth p (pw sq.length) (ctrTo p sq sq.length k) (fun q => z.co q) ↔ ∀ i, i < k → Cl.vec (by omega) (unitRow sq.length i) * z = z * Cl.vec (by omega) (unitRow sq.length i)
 | 0 => ⟨fun _ i hi => absurd hi (by omega), fun _ i hi => absurd hi (by simp [ctrTo])⟩
 | k + 1 => by
  show Orth p _ (ctrTo p sq sq.length k ++ ctrB p sq sq.length k) _ ↔ _
  rw [Orth.append, ctr_orth hp z k, ctrB_orth hp k z]
  constructor
  · rintro ⟨h1, h2⟩ i hi
    rcases Nat.lt_or_ge i k with h | h
    · exact h1 i h
    · obtain rfl : i = k := by omega
      exact h2
  · exact fun h => ⟨fun i hi => h i (by omega), h k (by omega)⟩
/-- What lies in the span of the centre's basis. -/
theorem ctr_sp (hP : isP p = true) (hp : 2 ≤ p) (z : Cl p sq) : Sp p (pw sq.length) (ctrL p sq sq.length) (fun q => z.co q) ↔ ∀ i, i < sq.length → Cl.vec (by omega) (unitRow sq.length i) * z = z * Cl.vec (by omega) (unitRow sq.length i) := by
 unfold ctrL
 rw [kernL_sp hP (ctrTo_tab hp _), ctr_orth hp z]
theorem unit_mul_co (hp : 0 < p) (z : Cl p sq) {i m : Nat} (hi : i < sq.length) (hm : m < pw sq.length) : (Cl.vec hp (unitRow sq.length i) * z : Cl p sq).co m % p = (z.co (2 ^ i ^^^ m) * facZ sq (2 ^ i) (2 ^ i ^^^ m)) % p := by
 rw [Cl.vec_mul_co hp _ _ hm, sumTo_one i hi fun k hk hne => by rw [unitRow_getD hk, if_neg fun e => hne e.symm, Int.zero_mul, Int.zero_mul], unitRow_getD hi, if_pos rfl, Int.one_mul]
theorem mul_unit_co (hp : 0 < p) (z : Cl p sq) {i m : Nat} (hi : i < sq.length) (hm : m < pw sq.length) : (z * Cl.vec hp (unitRow sq.length i) : Cl p sq).co m % p = (z.co (2 ^ i ^^^ m) * facZ sq (2 ^ i ^^^ m) (2 ^ i)) % p := by
 rw [Cl.mul_vec_co hp _ _ hm, sumTo_one i hi fun k hk hne => by rw [unitRow_getD hk, if_neg fun e => hne e.symm, Int.zero_mul, Int.zero_mul], unitRow_getD hi, if_pos rfl, Int.one_mul]
theorem pc_full_n : ∀ n : Nat, n < 7 → pc (2 ^ n - 1) = n := by decide +kernel
theorem full_bit {n i : Nat} (hi : i < n) : (2 ^ n - 1).testBit i = true := by
 rw [Nat.testBit_two_pow_sub_one]; simpa using hi
theorem full_of {n m : Nat} (hm : m < 2 ^ n) (h : ∀ i, i < n → m.testBit i = true) : m = 2 ^ n - 1 := by
 refine Nat.eq_of_testBit_eq fun i => ?_
 rw [Nat.testBit_two_pow_sub_one]
 by_cases hi : i < n
 · rw [h i hi]; simp [hi]
 · rw [Nat.testBit_lt_two_pow (Nat.lt_of_lt_of_le hm (Nat.pow_le_pow_right (by decide) (by omega)))]; simp [hi]
/-- A central multivector has nothing but a number, and the full blade where the squares are oddly many. -/
theorem ctr_zero (hP : isP p = true) (hp : 0 < p) (h6 : sq.length ≤ 6) (hr : ∀ i, i < sq.length → sq.getD i 0 % p ≠ 0) {z : Cl p sq}
    (h : ∀ i, i < sq.length → Cl.vec hp (unitRow sq.length i) * z = z * Cl.vec hp (unitRow sq.length i)) {m : Nat} (hm : m < pw sq.length) (h0 : m ≠ 0) (hf : ¬ (m = pw sq.length - 1 ∧ sq.length % 2 = 1)) : z.co m = 0 := by
 have hex : ∃ i, i < sq.length ∧ sgI m * (if m.testBit i then -1 else 1) = -1 := by
  by_cases ho : pc m % 2 = 1
  · have hs : sgI m = -1 := by unfold sgI oddT; simp [ho]
    refine Classical.byContradiction fun hne => hf ?_
    have hall : ∀ i, i < sq.length → m.testBit i = true := fun i hi => by
     cases hb : m.testBit i
     · exact absurd ⟨i, hi, by rw [hs, hb]; rfl⟩ hne
     · rfl
    have hm' := full_of hm hall
    refine ⟨hm', ?_⟩
    rw [hm', pc_full_n _ (by omega)] at ho
    exact ho
  · have hs : sgI m = 1 := by unfold sgI oddT; simp [ho]
    obtain ⟨i, hi⟩ := Nat.exists_testBit_of_ne_zero h0
    have hin : i < sq.length := by
     rcases Nat.lt_or_ge i sq.length with h1 | h1
     · exact h1
     · rw [Nat.testBit_lt_two_pow (Nat.lt_of_lt_of_le hm (Nat.pow_le_pow_right (by decide) h1))] at hi
       cases hi
    exact ⟨i, hin, by rw [hs, hi]; rfl⟩
 obtain ⟨i, hi, hsg⟩ := hex
 have hm2 : 2 ^ i ^^^ m < pw sq.length := xor_lt (two_lt hi) hm
 have hx : 2 ^ i ^^^ (2 ^ i ^^^ m) = m := xor_self_left _ _
 have hfn := facZ_ne hr hi (2 ^ i ^^^ m)
 rw [hx] at hfn
 have e := congrArg (fun y : Cl p sq => y.co (2 ^ i ^^^ m) % p) (h i hi)
 rw [unit_mul_co hp z hi hm2, mul_unit_co hp z hi hm2, hx] at e
 have hv := facZ_vec h6 hm hi
 have hfac : facZ sq m (2 ^ i) = -(facZ sq (2 ^ i) m) := by
  have h1 : sgI m * (sgI m * facZ sq m (2 ^ i)) = sgI m * ((if m.testBit i then -1 else 1) * facZ sq (2 ^ i) m) := by rw [hv]
  rw [← Int.mul_assoc, sgI_two, Int.one_mul, ← Int.mul_assoc, hsg] at h1
  rw [h1, Int.neg_mul, Int.one_mul]
 rw [hfac, Int.mul_neg] at e
 have e2 := neg_same hP e.symm
 by_cases hc : z.co m % p = 0
 · rwa [Cl.co_mod] at hc
 · exact absurd e2 (mul_ne hP hc hfn)
theorem at_co (hp : 0 < p) (m : Nat) {q : Nat} (hq : q < pw sq.length) : (Cl.at_ hp m : Cl p sq).co q % p = (if q = m then 1 else 0) % p := Cl.of_cg hp _ hq
/-- The full blade is central where the squares are oddly many. -/
theorem ctr_full (hp : 0 < p) (h6 : sq.length ≤ 6) (ho : sq.length % 2 = 1) {i : Nat} (hi : i < sq.length) :
    (Cl.vec hp (unitRow sq.length i) * Cl.at_ hp (pw sq.length - 1) : Cl p sq) = Cl.at_ hp (pw sq.length - 1) * Cl.vec hp (unitRow sq.length i) := Cl.same fun q hq => by
 rw [unit_mul_co hp _ hi hq, mul_unit_co hp _ hi hq]
 have hq2 : 2 ^ i ^^^ q < pw sq.length := xor_lt (two_lt hi) hq
 by_cases hF : 2 ^ i ^^^ q = pw sq.length - 1
 · rw [hF]
   have hFl : pw sq.length - 1 < pw sq.length := by have := pw_pos sq.length; omega
   have hv := facZ_vec h6 hFl hi
   have hb : (pw sq.length - 1).testBit i = true := full_bit hi
   have hs : sgI (pw sq.length - 1) = -1 := by
    unfold sgI oddT
    rw [show pc (pw sq.length - 1) = sq.length from pc_full_n _ (by omega)]
    simp [ho]
   rw [hb, hs] at hv
   simp only [if_true, Int.neg_mul, Int.one_mul] at hv
   rw [show facZ sq (pw sq.length - 1) (2 ^ i) = facZ sq (2 ^ i) (pw sq.length - 1) by omega]
 · rw [cg_mul (show (Cl.at_ hp (pw sq.length - 1) : Cl p sq).co (2 ^ i ^^^ q) % p = 0 % p by rw [at_co hp _ hq2, if_neg hF]) rfl, cg_mul (show (Cl.at_ hp (pw sq.length - 1) : Cl p sq).co (2 ^ i ^^^ q) % p = 0 % p by rw [at_co hp _ hq2, if_neg hF]) rfl, Int.zero_mul, Int.zero_mul]
theorem one_at (hp : 0 < p) : (Cl.one hp : Cl p sq) = Cl.at_ hp 0 := rfl
theorem comZ_disj (sq : List Int) {i b : Nat} (hb : bit b i = 0) : ∀ k, comZ sq (2 ^ i) b k = 1 := by
 intro k
 induction k with
 | zero => rfl
 | succ k ih =>
  simp only [comZ]
  rw [ih, bit_pow, Int.one_mul, if_neg]
  rintro ⟨h1, h2⟩
  split at h2
  · rename_i e; subst e; omega
  · cases h2
/-- What commutes with all vectors commutes with all multivectors. -/
theorem ctr_at (hp : 0 < p) {z : Cl p sq} (h : ∀ i, i < sq.length → Cl.vec hp (unitRow sq.length i) * z = z * Cl.vec hp (unitRow sq.length i)) : ∀ k, k ≤ sq.length → ∀ m, m < 2 ^ k → Cl.at_ hp m * z = z * Cl.at_ hp m
 | 0, _, m, hm => by
  obtain rfl : m = 0 := by simpa using hm
  rw [← one_at, Cl.one_mul, Cl.mul_one]
 | k + 1, hk, m, hm => by
  rcases Nat.lt_or_ge m (2 ^ k) with hlt | hge
  · exact ctr_at hp h k (by omega) m hlt
  have hdiv : m / 2 ^ k = 1 := by
   refine Nat.div_eq_of_lt_le (by omega) ?_
   rw [Nat.pow_succ] at hm; omega
  have hb : m.testBit k = true := by
   rw [Nat.testBit_eq_decide_div_mod_eq, hdiv]; rfl
  obtain ⟨m', hm'⟩ : ∃ m', m' = 2 ^ k ^^^ m := ⟨_, rfl⟩
  have hb' : m'.testBit k = false := by rw [hm', testBit_own, hb]; rfl
  have hmN : m < pw sq.length := Nat.lt_of_lt_of_le hm (Nat.pow_le_pow_right (by decide) hk)
  have hlt : m' < 2 ^ k := by
   refine Nat.lt_pow_two_of_testBit m' fun i hi => ?_
   rcases Nat.lt_or_ge k i with h1 | h1
   · rw [hm', Nat.testBit_xor, Nat.testBit_two_pow_of_ne (by omega), Nat.testBit_lt_two_pow (Nat.lt_of_lt_of_le hm (Nat.pow_le_pow_right (by decide) (by omega)))]; rfl
   · obtain rfl : i = k := by omega
     exact hb'
  have ih := ctr_at hp h k (by omega) m' hlt
  have hx : 2 ^ k ^^^ m' = m := by rw [hm']; exact xor_self_left _ _
  have hfac : facZ sq (2 ^ k) m' * facZ sq (2 ^ k) m' = 1 := by
   unfold facZ
   rw [comZ_disj sq (by rw [bit_eq, hb']; rfl), Int.mul_one, sg_two]
  have e : (Cl.vec hp (unitRow sq.length k) * Cl.at_ hp m' : Cl p sq) = facZ sq (2 ^ k) m' * Cl.at_ hp m := Cl.same fun q hq => by
   rw [unit_mul_co hp _ (by omega) hq, Cl.sm_co _ _ hq, cg_mul rfl (at_co hp m hq), cg_mul (at_co hp m' (xor_lt (two_lt (by omega)) hq)) rfl]
   by_cases hqm : q = m
   · have hqq : 2 ^ k ^^^ q = m' := by rw [hqm, hm']
     rw [if_pos hqm, if_pos hqq, hqq, Int.one_mul, Int.mul_one]
   · rw [if_neg hqm, if_neg (fun e => hqm (by rw [← hx, ← e, xor_self_left])), Int.zero_mul, Int.mul_zero]
  have e2 : (Cl.at_ hp m : Cl p sq) = facZ sq (2 ^ k) m' * (Cl.vec hp (unitRow sq.length k) * Cl.at_ hp m') := by
   rw [e, Cl.sm_sm, hfac, Cl.one_sm]
  rw [e2, Cl.sm_mul, Cl.mul_assoc, ih, ← Cl.mul_assoc, h k (by omega), Cl.mul_sm, Cl.mul_assoc]
theorem Cl.sum_congr (hp : 0 < p) {f g : Nat → Cl p sq} : ∀ n, (∀ i, i < n → f i = g i) → Cl.sum hp n f = Cl.sum hp n g
 | 0, _ => rfl
 | n + 1, h => by
  show Cl.sum hp n f + f n = Cl.sum hp n g + g n
  rw [Cl.sum_congr hp n fun i hi => h i (by omega), h n (by omega)]
theorem ctr_all (hp : 0 < p) {z : Cl p sq} (h : ∀ i, i < sq.length → Cl.vec hp (unitRow sq.length i) * z = z * Cl.vec hp (unitRow sq.length i)) (y : Cl p sq) : z * y = y * z := by
 have e := Cl.at_sum hp y
 have e2 : z * Cl.sum hp (pw sq.length) (fun m => y.co m * Cl.at_ hp m) = Cl.sum hp (pw sq.length) (fun m => y.co m * Cl.at_ hp m) * z := by
  rw [Cl.mul_sumr, Cl.mul_suml]
  exact Cl.sum_congr hp _ fun m hm => by rw [Cl.mul_sm, Cl.sm_mul, ctr_at hp h sq.length (Nat.le_refl _) m hm]
 rw [← e] at e2
 exact e2
/-- What the centre of a regular space is made of. -/
def ctrC (n : Nat) : List (List Int) := if n % 2 = 0 then [unitRow (pw n) 0] else [unitRow (pw n) 0, unitRow (pw n) (pw n - 1)]
theorem ctr_len (hP : isP p = true) (h1 : 1 ≤ sq.length) (h6 : sq.length ≤ 6) (hr : ∀ i, i < sq.length → sq.getD i 0 % p ≠ 0) : (ctrL p sq sq.length).length = if sq.length % 2 = 0 then 1 else 2 := by
 have h3 := isP_ge hP
 have hp : 2 ≤ p := by omega
 have hp0 : 0 < p := by omega
 have hN : 2 ≤ pw sq.length := Nat.pow_le_pow_right (n := 2) (by decide) h1
 obtain ⟨K, hK⟩ : ∃ K, K = ctrL p sq sq.length := ⟨_, rfl⟩
 have hR : Red (pw sq.length) K := by rw [hK]; exact kernL_red hP _ _
 have hT : Tab p (pw sq.length) K := by rw [hK]; exact kernL_tab hp _ _
 have hsp : ∀ z : Cl p sq, Sp p (pw sq.length) K (fun q => z.co q) ↔ ∀ i, i < sq.length → Cl.vec hp0 (unitRow sq.length i) * z = z * Cl.vec hp0 (unitRow sq.length i) := by rw [hK]; exact ctr_sp hP hp
 have hlen : (ctrC sq.length).length = if sq.length % 2 = 0 then 1 else 2 := by unfold ctrC; split <;> rfl
 rw [← hK, ← hlen]
 have e00 : (unitRow (pw sq.length) 0).getD 0 0 = 1 := by rw [unitRow_getD (by omega), if_pos rfl]
 have e01 : (unitRow (pw sq.length) 0).getD (pw sq.length - 1) 0 = 0 := by rw [unitRow_getD (by omega), if_neg (by omega)]
 have e10 : (unitRow (pw sq.length) (pw sq.length - 1)).getD 0 0 = 0 := by rw [unitRow_getD (by omega), if_neg (by omega)]
 have e11 : (unitRow (pw sq.length) (pw sq.length - 1)).getD (pw sq.length - 1) 0 = 1 := by rw [unitRow_getD (by omega), if_pos rfl]
 have hat : ∀ m, m < pw sq.length → ∀ q, (unitRow (pw sq.length) m).getD q 0 = (Cl.at_ hp0 m : Cl p sq).co q := fun m hm q => by rw [← Cl.at_l (sq := sq) hp0 hp hm]; rfl
 have hC : Ind p (pw sq.length) (ctrC sq.length) := fun c hc i hi => by
  unfold ctrC at hc hi
  by_cases he : sq.length % 2 = 0
  · rw [if_pos he] at hc hi
    obtain rfl : i = 0 := by simpa using hi
    have := hc 0 (by omega)
    have e : (sumTo [unitRow (pw sq.length) 0].length fun i => c i * ent [unitRow (pw sq.length) 0] i 0) = 0 + c 0 * (unitRow (pw sq.length) 0).getD 0 0 := rfl
    rw [e, e00, Int.mul_one, Int.zero_add] at this
    exact this
  · rw [if_neg he] at hc hi
    have e : ∀ q, (sumTo [unitRow (pw sq.length) 0, unitRow (pw sq.length) (pw sq.length - 1)].length fun i => c i * ent [unitRow (pw sq.length) 0, unitRow (pw sq.length) (pw sq.length - 1)] i q) = 0 + c 0 * (unitRow (pw sq.length) 0).getD q 0 + c 1 * (unitRow (pw sq.length) (pw sq.length - 1)).getD q 0 := fun q => rfl
    have a := hc 0 (by omega)
    have b := hc (pw sq.length - 1) (by omega)
    rw [e, e00, e10, Int.mul_one, Int.zero_add, Int.mul_zero, Int.add_zero] at a
    rw [e, e01, e11, Int.mul_one, Int.zero_add, Int.mul_zero, Int.zero_add] at b
    have hi2 : i < 2 := hi
    rcases (show i = 0 ∨ i = 1 by omega) with rfl | rfl
    · exact a
    · exact b
 refine hR.ind.same hP hC (fun i hi => ?_) (InSp.of_mem fun x hx => ?_)
 · obtain ⟨z, hz⟩ : ∃ z : Cl p sq, z.l = K.getD i [] := ⟨⟨K.getD i [], (hT.row hi).1, (hT.row hi).2, hp0⟩, rfl⟩
   have hzc : ∀ q, ent K i q = z.co q := fun q => by unfold Cl.co; rw [hz]; rfl
   have hcm := (hsp z).1 (Sp.congr (Sp.row hi) fun q _ => by rw [hzc])
   refine ⟨fun j => if j = 0 then z.co 0 else z.co (pw sq.length - 1), fun q hq => ?_⟩
   show ent K i q % p = (sumTo (ctrC sq.length).length fun i => (if i = 0 then z.co 0 else z.co (pw sq.length - 1)) * ent (ctrC sq.length) i q) % p
   rw [hzc]
   unfold ctrC
   by_cases he : sq.length % 2 = 0
   · rw [if_pos he]
     have e : (sumTo [unitRow (pw sq.length) 0].length fun i => (if i = 0 then z.co 0 else z.co (pw sq.length - 1)) * ent [unitRow (pw sq.length) 0] i q) = 0 + z.co 0 * (unitRow (pw sq.length) 0).getD q 0 := rfl
     rw [e, unitRow_getD hq, Int.zero_add]
     by_cases h0 : q = 0
     · subst h0; rw [if_pos rfl, Int.mul_one]
     · rw [if_neg fun e => h0 e.symm, Int.mul_zero, ctr_zero hP hp0 h6 hr hcm hq h0 (by omega)]
   · rw [if_neg he]
     have e : (sumTo [unitRow (pw sq.length) 0, unitRow (pw sq.length) (pw sq.length - 1)].length fun i => (if i = 0 then z.co 0 else z.co (pw sq.length - 1)) * ent [unitRow (pw sq.length) 0, unitRow (pw sq.length) (pw sq.length - 1)] i q) = 0 + z.co 0 * (unitRow (pw sq.length) 0).getD q 0 + z.co (pw sq.length - 1) * (unitRow (pw sq.length) (pw sq.length - 1)).getD q 0 := rfl
     rw [e, unitRow_getD hq, unitRow_getD hq, Int.zero_add]
     by_cases h0 : q = 0
     · subst h0; rw [if_pos rfl, if_neg (by omega), Int.mul_one, Int.mul_zero, Int.add_zero]
     · by_cases hf : q = pw sq.length - 1
       · subst hf; rw [if_neg (by omega), if_pos rfl, Int.mul_one, Int.mul_zero, Int.zero_add]
       · rw [if_neg fun e => h0 e.symm, if_neg fun e => hf e.symm, Int.mul_zero, Int.mul_zero, ctr_zero hP hp0 h6 hr hcm hq h0 (by omega)]; rfl
 · have key : ∀ m, m < pw sq.length → (∀ i, i < sq.length → (Cl.vec hp0 (unitRow sq.length i) * Cl.at_ hp0 m : Cl p sq) = Cl.at_ hp0 m * Cl.vec hp0 (unitRow sq.length i)) → Sp p (pw sq.length) K fun q => (unitRow (pw sq.length) m).getD q 0 := fun m hm h =>
    Sp.congr ((hsp (Cl.at_ hp0 m)).2 h) fun q _ => by rw [hat m hm]
   unfold ctrC at hx
   by_cases he : sq.length % 2 = 0
   · rw [if_pos he] at hx
     rw [List.mem_singleton.1 hx]
     exact key 0 (by omega) fun i _ => by rw [← one_at, Cl.mul_one, Cl.one_mul]
   · rw [if_neg he] at hx
     rcases List.mem_cons.1 hx with rfl | hx
     · exact key 0 (by omega) fun i _ => by rw [← one_at, Cl.mul_one, Cl.one_mul]
     · rw [List.mem_singleton.1 hx]
       exact key _ (by omega) fun i hi => ctr_full hp0 h6 (by omega) hi
/-- What the law asks of each row of the centre's basis. -/
theorem ctr_row (hP : isP p = true) {i : Nat} (hi : i < (ctrL p sq sq.length).length) : ((ctrL p sq sq.length).getD i []).length = pw sq.length ∧ NumsL p ((ctrL p sq sq.length).getD i []) ∧
    (∀ y : List Int, y.length = pw sq.length → NumsL p y → mulL p sq ((ctrL p sq sq.length).getD i []) y = mulL p sq y ((ctrL p sq sq.length).getD i [])) := by
 have h3 := isP_ge hP
 have hp : 2 ≤ p := by omega
 have hp0 : 0 < p := by omega
 have hT : Tab p (pw sq.length) (ctrL p sq sq.length) := kernL_tab hp _ _
 obtain ⟨h1, h2⟩ := hT.row hi
 refine ⟨h1, h2, fun y hy hyn => ?_⟩
 obtain ⟨z, hz⟩ : ∃ z : Cl p sq, z.l = (ctrL p sq sq.length).getD i [] := ⟨⟨_, h1, h2, hp0⟩, rfl⟩
 obtain ⟨Y, hY⟩ : ∃ Y : Cl p sq, Y.l = y := ⟨⟨_, hy, hyn, hp0⟩, rfl⟩
 have hcm := (ctr_sp hP hp z).1 (Sp.congr (Sp.row hi) fun q _ => by unfold Cl.co; rw [hz]; rfl)
 have := ctr_all hp0 hcm Y
 rw [← hz, ← hY, ← Cl.mul_l, ← Cl.mul_l, this]
end
end Go.Proofs.YtmkjdpnoloofjaaGreat
namespace Go.Proofs.YtmkjdpnoloofjaaGreat
open Go.RowKit
/-- The code of a space of at most four squares and multivectors. -/
def codeA (P : Int) (sq : List Int) (yss : List (List Int)) : Int := if codeM P sq yss = 0 then (if 4 < sq.length then 3 else 0) else codeM P sq yss
theorem codeA_zero {P : Int} {sq : List Int} {yss : List (List Int)} (h : codeA P sq yss = 0) : codeM P sq yss = 0 ∧ sq.length ≤ 4 := by
 unfold codeA at h
 by_cases h1 : codeM P sq yss = 0
 · rw [if_pos h1] at h
   by_cases h2 : 4 < sq.length
   · rw [if_pos h2] at h; omega
   · exact ⟨h1, by omega⟩
 · rw [if_neg h1] at h; exact absurd h h1
theorem codeA_mk {P : Int} {sq : List Int} {yss : List (List Int)} (h : codeM P sq yss = 0) (h4 : sq.length ≤ 4) : codeA P sq yss = 0 := by
 unfold codeA; rw [if_pos h, if_neg (by omega)]
set_option maxHeartbeats 800000 in
set_option maxRecDepth 8000 in
theorem checkAlgebra_any (P : Int) (A B : Option Addr) (n c m d : Nat) (sq : List Int) (ms : List (List Int)) (w : World) (hn : n ≤ 1048576) (hm : m ≤ 1048576) (ha : Rd w A n (ints sq)) (hb : RdII w B m ms) (hms : ∀ ys ∈ ms, ys.length ≤ 1048576) :
    Calls Tryz.prog 133 #[.agg #[.int .i64 P, .slice A n c], .slice B m d] w fun e w' => e = .returned (.int .i64 (codeA P sq ms)) ∧ Below w.heap.size w w' := by
 have hB0 : Below w.heap.size w (w.alloc (.cells #[.int .i64 P, .slice A n c] 26)) := zG.alloc (Nat.le_refl _) _
 have k0 : Blk (w.alloc (.cells #[.int .i64 P, .slice A n c] 26)) w.heap.size 26 #[.int .i64 P, .slice A n c] := Blk.new _ _ _
 have hcm := checkMultis_any P A B n c m d sq ms _ hn hm (ha.below hB0) (hb.below hB0) hms
 have hsl := ha.lenI
 have HL := Lib.hid hsl
 clear hsl
 by_cases e1 : codeM P sq ms = 0
 · rw [e1] at hcm
   have E1 := Lib.hid e1
   clear e1
   by_cases h4 : 4 < n
   · have d4 : decide (4 < (n : Int)) = true := by simp; omega
     go_enter Tryz.func133, Tryz.ntmps133
     go_wp2_with fail
     refine hcm.mono ?_
     rintro e w1 ⟨rfl, hb1⟩
     have hB1 := hB0.trans (hb1.mono (by simp))
     have k1 := k0.below hb1 k0.lt
     clear k0
     obtain ⟨q0, q1⟩ := k1.two
     go_wp2_with fail
     refine (dim_any _ _ _ _ _).mono ?_
     rintro e w2 ⟨rfl, hb2⟩
     go_wp2
     go_ret
     exact ⟨ret_int (by unfold codeA; rw [if_pos E1.out, HL.out, if_pos h4]), hB1.trans (hb2.mono hB1.size)⟩
   · have d4 : decide (4 < (n : Int)) = false := by simp; omega
     go_enter Tryz.func133, Tryz.ntmps133
     go_wp2_with fail
     refine hcm.mono ?_
     rintro e w1 ⟨rfl, hb1⟩
     have hB1 := hB0.trans (hb1.mono (by simp))
     have k1 := k0.below hb1 k0.lt
     clear k0
     obtain ⟨q0, q1⟩ := k1.two
     go_wp2_with fail
     refine (dim_any _ _ _ _ _).mono ?_
     rintro e w2 ⟨rfl, hb2⟩
     go_wp2
     go_ret
     exact ⟨ret_int (by unfold codeA; rw [if_pos E1.out, HL.out, if_neg h4]), hB1.trans (hb2.mono hB1.size)⟩
 · obtain ⟨r, hr⟩ : ∃ r, r = codeM P sq ms := ⟨_, rfl⟩
   have HR := Lib.hid hr
   have E1 := Lib.hid e1
   have b0 : (r != 0) = true := code_ne (by rw [hr]; exact e1)
   have b1 : (r == 0) = false := by simpa using b0
   rw [← hr] at hcm
   clear hr e1
   go_enter Tryz.func133, Tryz.ntmps133
   go_wp2_with fail
   refine hcm.mono ?_
   rintro e w1 ⟨rfl, hb1⟩
   have k1 := k0.below hb1 k0.lt
   obtain ⟨q0, q1⟩ := k1.two
   clear k0
   go_wp2
   go_ret
   exact ⟨ret_int (by unfold codeA; rw [if_neg E1.out, HR.out]), hB0.trans (hb1.mono (by simp))⟩
set_option maxHeartbeats 800000 in
set_option maxRecDepth 8000 in
theorem l09Code_any (P : Int) (A B : Option Addr) (n c m d : Nat) (sq : List Int) (ms : List (List Int)) (w : World) (hn : n ≤ 1048576) (hm : m ≤ 1048576) (ha : Rd w A n (ints sq)) (hb : RdII w B m ms) (hms : ∀ ys ∈ ms, ys.length ≤ 1048576) :
    Calls Tryz.prog 137 #[.agg #[.int .i64 P, .slice A n c], .slice B m d] w fun e w' => e = .returned (.int .i64 (codeA P sq ms)) ∧ Below w.heap.size w w' := by
 have hB0 : Below w.heap.size w (w.alloc (.cells #[.int .i64 P, .slice A n c] 26)) := zG.alloc (Nat.le_refl _) _
 have k0 : Blk (w.alloc (.cells #[.int .i64 P, .slice A n c] 26)) w.heap.size 26 #[.int .i64 P, .slice A n c] := Blk.new _ _ _
 have hcm := l04Code_any P A B n c m d sq ms _ hn hm (ha.below hB0) (hb.below hB0) hms
 have hsl := ha.lenI
 have HL := Lib.hid hsl
 clear hsl
 by_cases e1 : codeM P sq ms = 0
 · rw [e1] at hcm
   have E1 := Lib.hid e1
   clear e1
   by_cases h4 : 4 < n
   · have d4 : decide (4 < (n : Int)) = true := by simp; omega
     go_enter Tryz.func137, Tryz.ntmps137
     go_wp2_with fail
     refine hcm.mono ?_
     rintro e w1 ⟨rfl, hb1⟩
     have hB1 := hB0.trans (hb1.mono (by simp))
     have k1 := k0.below hb1 k0.lt
     clear k0
     obtain ⟨q0, q1⟩ := k1.two
     go_wp2
     go_ret
     exact ⟨ret_int (by unfold codeA; rw [if_pos E1.out, HL.out, if_pos h4]), hB1⟩
   · have d4 : decide (4 < (n : Int)) = false := by simp; omega
     go_enter Tryz.func137, Tryz.ntmps137
     go_wp2_with fail
     refine hcm.mono ?_
     rintro e w1 ⟨rfl, hb1⟩
     have hB1 := hB0.trans (hb1.mono (by simp))
     have k1 := k0.below hb1 k0.lt
     clear k0
     obtain ⟨q0, q1⟩ := k1.two
     go_wp2
     go_ret
     exact ⟨ret_int (by unfold codeA; rw [if_pos E1.out, HL.out, if_neg h4]), hB1⟩
 · obtain ⟨r, hr⟩ : ∃ r, r = codeM P sq ms := ⟨_, rfl⟩
   have HR := Lib.hid hr
   have E1 := Lib.hid e1
   have b0 : (r != 0) = true := code_ne (by rw [hr]; exact e1)
   have b1 : (r == 0) = false := by simpa using b0
   rw [← hr] at hcm
   clear hr e1
   go_enter Tryz.func137, Tryz.ntmps137
   go_wp2_with fail
   refine hcm.mono ?_
   rintro e w1 ⟨rfl, hb1⟩
   have k1 := k0.below hb1 k0.lt
   obtain ⟨q0, q1⟩ := k1.two
   clear k0
   go_wp2
   go_ret
   exact ⟨ret_int (by unfold codeA; rw [if_neg E1.out, HR.out]), hB0.trans (hb1.mono (by simp))⟩
set_option maxHeartbeats 6400000 in
set_option maxRecDepth 8000 in
theorem leftMatrix_any (P : Int) (A : Option Addr) (n c : Nat) (sq : List Int) (X : Option Addr) (cx : Nat) (xs : List Int) (w : World) (hp : 2 ≤ P) (hp2 : P ≤ 13) (hn : n ≤ 6) (ha : Rd w A n (ints sq)) (hs : NumsL P sq) (hx : Rd w X (pw n) (ints xs)) (hxs : NumsL P xs) (hcx : pw n ≤ cx) :
    Calls Tryz.prog 135 #[.agg #[.int .i64 P, .slice A n c], .slice X (pw n) cx] w fun e w' => ∃ (A' : Option Addr) (c' : Nat), e = .returned (.slice A' (pw n) c') ∧ MkII w w' A' (pw n) c' (transL (lcolL P sq n xs)) := by
 have hB0 : Below w.heap.size w (w.alloc (.cells #[.int .i64 P, .slice A n c] 26)) := zG.alloc (Nat.le_refl _) _
 have k0 : Blk (w.alloc (.cells #[.int .i64 P, .slice A n c] 26)) w.heap.size 26 #[.int .i64 P, .slice A n c] := Blk.new _ _ _
 have HCT : Hid (Tab P (pw n) (lcolL P sq n xs)) := Lib.hid (by
     have hsl := ha.lenI
     subst hsl
     exact lcol_tab hp ⟨xs, hx.lenI, hxs, by omega⟩)
 have HXL := Lib.hid hx.lenI
 have HXS := Lib.hid hxs
 have HS := Lib.hid hs
 have hpw : pw n ≤ 64 := pw_le hn
 have hpn := pw_pos n
 have hB4 := hB0.alloc hB0.size (.cells #[] 24)
 have k4 := k0.alloc (.cells #[] 24)
 have hM4 : MkII w ((w.alloc (.cells #[.int .i64 P, .slice A n c] 26)).alloc (.cells #[] 24)) (some ⟨(w.alloc (.cells #[.int .i64 P, .slice A n c] 26)).heap.size, 0, none⟩) 0 0 [] := MkII.empty hB0
 have hz3 : (w.alloc (.cells #[.int .i64 P, .slice A n c] 26)).heap.size < ((w.alloc (.cells #[.int .i64 P, .slice A n c] 26)).alloc (.cells #[] 24)).heap.size := by simp
 have hz1 : (w.alloc (.cells #[.int .i64 P, .slice A n c] 26)).heap.size = w.heap.size + 1 := by simp
 rw [hz1] at hM4 hz3
 clear hz1
 obtain ⟨q0, q1⟩ := k4.two
 have hbl := blades_any P A n c ((w.alloc (.cells #[.int .i64 P, .slice A n c] 26)).alloc (.cells #[] 24)) (by omega)
 clear hxs hs
 go_enter Tryz.func135, Tryz.ntmps135
 go_wp2_with fail
 obtain ⟨w4, hw4⟩ : ∃ W, W = (w.alloc (.cells #[.int .i64 P, .slice A n c] 26)).alloc (.cells #[] 24) := ⟨_, rfl⟩
 rw [← hw4] at hbl hM4 hB4 k4 hz3 q0 q1 ⊢
 refine hbl.mono ?_
 rintro e w5 ⟨U, cU, rfl, hU⟩
 have hM5 := hM4.below hU.b
 have k5 := k4.below hU.b k4.lt
 have hKp : Keeps w4 w5 w5 (.slice (some ⟨w.heap.size + 1, 0, none⟩) 0 0) := ⟨Nat.le_refl _, fun _ _ _ => rfl, fun gb e => .inl (lt_of_own e hz3)⟩
 clear hbl hM4 hB4 k4 hz3 hw4 q0 q1 k0
 go_wp2
 go_loopw [5, 12] (fun out i wr => ∃ (k : Nat) (A' : Option Addr) (c' : Nat), k ≤ pw n ∧ i = .int .i64 k ∧ out = .slice A' k c' ∧ MkII w wr A' k c' (tab k fun m => mulL P sq xs (unitRow (pw n) m)) ∧ Keeps w4 w5 wr (.slice A' k c') ∧ Blk wr w.heap.size 26 #[.int .i64 P, .slice A n c]) (fun _ i _ => pw n - (intOf i).toNat)
 case atStart => exact ⟨0, _, _, by omega, rfl, rfl, by simpa [tab] using hM5, hKp, k5⟩
 case round =>
  obtain ⟨k, A', c', hk, rfl, rfl, hM, hKp', k6⟩ := hrel
  clear hM5 hKp k5
  obtain ⟨q0, q1⟩ := k6.two
  by_cases hlt : k < pw n
  · obtain ⟨gu, ou, rfl, hxk, A1, c1, hcu, hru, hcc⟩ := (hU.keep hKp'.2.1).at_ hlt
    have hrow := unitM_get (pw n) k hxk
    rw [hrow, unitRow_len] at hru hcu hcc
    have hAl : Below wr.heap.size wr (wr.alloc (.cells #[.slice X (pw n) cx, .slice A1 (pw n) c1] 24)) := zG.alloc (Nat.le_refl _) _
    have hBr := hM.b.trans (hAl.mono hM.b.size)
    have hcall := times_any P A n c sq (some ⟨wr.heap.size, 0, none⟩) 2 2 [xs, unitRow (pw n) k] (wr.alloc (.cells #[.slice X (pw n) cx, .slice A1 (pw n) c1] 24)) (by omega) hp2 hn (by omega) (ha.below hBr) HS.out (rdII_two (Blk.new wr 24 _) (hx.below hBr) (hru.below hAl) hcx hcc) (all_two ⟨HXS.out, HXL.out⟩ ⟨unitRow_nums hp _ k, unitRow_len _ k⟩)
    rw [timesL_two P sq n xs (unitRow (pw n) k) HXL.out HXS.out] at hcall
    have HM := Lib.hid hM
    have HK := Lib.hid hKp'
    have HAL := Lib.hid hAl
    have hcc' : Hid ((tab (k + 1) fun m => mulL P sq xs (unitRow (pw n) m)) = (tab k fun m => mulL P sq xs (unitRow (pw n) m)) ++ [mulL P sq xs (unitRow (pw n) k)]) := Lib.hid (by rw [tab_succ])
    have i1 : (0 : Int) ≤ (k : Int) := by omega
    have i2 : (k : Int) < (pw n : Int) := by omega
    clear hM hru hrow hKp' hAl hBr
    go_wp2_with fail
    refine hcall.mono ?_
    rintro e w7 ⟨A7, c7, rfl, hM7⟩
    have hM7' := hM7.after HAL.out
    have k7 := k6.below hM7'.b k6.lt
    clear hcall q0 q1 hM7
    go_wp2_with (at_builtin; refine wpList_appRowG w wr _ rfl _ _ rfl A' k c' _ A7 (pw n) c7 _ HM.out hM7' (by omega) rfl ?_ ?_; (go_simp); intro A8 c8 w8 hM8 hg8 hat8)
    have k8 := k7.grown hg8 ((HM.out.below hM7'.b).ne_blk k7 (by decide))
    have hK8 := HK.out.step (n' := k + 1) (c' := c8) hM7'.b hg8 hat8
    clear hg8 hat8 k7 k6
    go_roundw
    case rel => exact ⟨k + 1, A8, c8, by omega, by go_num, rfl, by rw [hcc'.out]; exact hM8, hK8, k8⟩
    case measure => simp [intOf]; omega
  · obtain rfl : k = pw n := by omega
    have htr := transpose_any P A' (pw n) c' (lcolL P sq n xs) (pw n) wr (by omega) (by omega) (by omega) hM.rd HCT.out
    go_wp2_with fail
    refine htr.mono ?_
    rintro e w7 ⟨A7, c7, rfl, hM7⟩
    have hM7' := hM7.after hM.b
    go_wp2
    go_ret
    exact ⟨_, _, rfl, hM7'⟩
set_option maxHeartbeats 6400000 in
set_option maxRecDepth 8000 in
theorem rightMatrix_any (P : Int) (A : Option Addr) (n c : Nat) (sq : List Int) (X : Option Addr) (cx : Nat) (xs : List Int) (w : World) (hp : 2 ≤ P) (hp2 : P ≤ 13) (hn : n ≤ 6) (ha : Rd w A n (ints sq)) (hs : NumsL P sq) (hx : Rd w X (pw n) (ints xs)) (hxs : NumsL P xs) (hcx : pw n ≤ cx) :
    Calls Tryz.prog 136 #[.agg #[.int .i64 P, .slice A n c], .slice X (pw n) cx] w fun e w' => ∃ (A' : Option Addr) (c' : Nat), e = .returned (.slice A' (pw n) c') ∧ MkII w w' A' (pw n) c' (transL (rcmL P sq n xs)) := by
 have hB0 : Below w.heap.size w (w.alloc (.cells #[.int .i64 P, .slice A n c] 26)) := zG.alloc (Nat.le_refl _) _
 have k0 : Blk (w.alloc (.cells #[.int .i64 P, .slice A n c] 26)) w.heap.size 26 #[.int .i64 P, .slice A n c] := Blk.new _ _ _
 have HCT : Hid (Tab P (pw n) (rcmL P sq n xs)) := Lib.hid (by
     have hsl := ha.lenI
     subst hsl
     exact rcm_tab hp ⟨xs, hx.lenI, hxs, by omega⟩)
 have HXL := Lib.hid hx.lenI
 have HXS := Lib.hid hxs
 have HS := Lib.hid hs
 have hpw : pw n ≤ 64 := pw_le hn
 have hpn := pw_pos n
 have hB4 := hB0.alloc hB0.size (.cells #[] 24)
 have k4 := k0.alloc (.cells #[] 24)
 have hM4 : MkII w ((w.alloc (.cells #[.int .i64 P, .slice A n c] 26)).alloc (.cells #[] 24)) (some ⟨(w.alloc (.cells #[.int .i64 P, .slice A n c] 26)).heap.size, 0, none⟩) 0 0 [] := MkII.empty hB0
 have hz3 : (w.alloc (.cells #[.int .i64 P, .slice A n c] 26)).heap.size < ((w.alloc (.cells #[.int .i64 P, .slice A n c] 26)).alloc (.cells #[] 24)).heap.size := by simp
 have hz1 : (w.alloc (.cells #[.int .i64 P, .slice A n c] 26)).heap.size = w.heap.size + 1 := by simp
 rw [hz1] at hM4 hz3
 clear hz1
 obtain ⟨q0, q1⟩ := k4.two
 have hbl := blades_any P A n c ((w.alloc (.cells #[.int .i64 P, .slice A n c] 26)).alloc (.cells #[] 24)) (by omega)
 clear hxs hs
 go_enter Tryz.func136, Tryz.ntmps136
 go_wp2_with fail
 obtain ⟨w4, hw4⟩ : ∃ W, W = (w.alloc (.cells #[.int .i64 P, .slice A n c] 26)).alloc (.cells #[] 24) := ⟨_, rfl⟩
 rw [← hw4] at hbl hM4 hB4 k4 hz3 q0 q1 ⊢
 refine hbl.mono ?_
 rintro e w5 ⟨U, cU, rfl, hU⟩
 have hM5 := hM4.below hU.b
 have k5 := k4.below hU.b k4.lt
 have hKp : Keeps w4 w5 w5 (.slice (some ⟨w.heap.size + 1, 0, none⟩) 0 0) := ⟨Nat.le_refl _, fun _ _ _ => rfl, fun gb e => .inl (lt_of_own e hz3)⟩
 clear hbl hM4 hB4 k4 hz3 hw4 q0 q1 k0
 go_wp2
 go_loopw [5, 12] (fun out i wr => ∃ (k : Nat) (A' : Option Addr) (c' : Nat), k ≤ pw n ∧ i = .int .i64 k ∧ out = .slice A' k c' ∧ MkII w wr A' k c' (tab k fun m => mulL P sq (unitRow (pw n) m) xs) ∧ Keeps w4 w5 wr (.slice A' k c') ∧ Blk wr w.heap.size 26 #[.int .i64 P, .slice A n c]) (fun _ i _ => pw n - (intOf i).toNat)
 case atStart => exact ⟨0, _, _, by omega, rfl, rfl, by simpa [tab] using hM5, hKp, k5⟩
 case round =>
  obtain ⟨k, A', c', hk, rfl, rfl, hM, hKp', k6⟩ := hrel
  clear hM5 hKp k5
  obtain ⟨q0, q1⟩ := k6.two
  by_cases hlt : k < pw n
  · obtain ⟨gu, ou, rfl, hxk, A1, c1, hcu, hru, hcc⟩ := (hU.keep hKp'.2.1).at_ hlt
    have hrow := unitM_get (pw n) k hxk
    rw [hrow, unitRow_len] at hru hcu hcc
    have hAl : Below wr.heap.size wr (wr.alloc (.cells #[.slice A1 (pw n) c1, .slice X (pw n) cx] 24)) := zG.alloc (Nat.le_refl _) _
    have hBr := hM.b.trans (hAl.mono hM.b.size)
    have hcall := times_any P A n c sq (some ⟨wr.heap.size, 0, none⟩) 2 2 [unitRow (pw n) k, xs] (wr.alloc (.cells #[.slice A1 (pw n) c1, .slice X (pw n) cx] 24)) (by omega) hp2 hn (by omega) (ha.below hBr) HS.out (rdII_two (Blk.new wr 24 _) (hru.below hAl) (hx.below hBr) hcc hcx) (all_two ⟨unitRow_nums hp _ k, unitRow_len _ k⟩ ⟨HXS.out, HXL.out⟩)
    rw [timesL_two P sq n (unitRow (pw n) k) xs (unitRow_len _ k) (unitRow_nums hp _ k)] at hcall
    have HM := Lib.hid hM
    have HK := Lib.hid hKp'
    have HAL := Lib.hid hAl
    have hcc' : Hid ((tab (k + 1) fun m => mulL P sq (unitRow (pw n) m) xs) = (tab k fun m => mulL P sq (unitRow (pw n) m) xs) ++ [mulL P sq (unitRow (pw n) k) xs]) := Lib.hid (by rw [tab_succ])
    have i1 : (0 : Int) ≤ (k : Int) := by omega
    have i2 : (k : Int) < (pw n : Int) := by omega
    clear hM hru hrow hKp' hAl hBr
    go_wp2_with fail
    refine hcall.mono ?_
    rintro e w7 ⟨A7, c7, rfl, hM7⟩
    have hM7' := hM7.after HAL.out
    have k7 := k6.below hM7'.b k6.lt
    clear hcall q0 q1 hM7
    go_wp2_with (at_builtin; refine wpList_appRowG w wr _ rfl _ _ rfl A' k c' _ A7 (pw n) c7 _ HM.out hM7' (by omega) rfl ?_ ?_; (go_simp); intro A8 c8 w8 hM8 hg8 hat8)
    have k8 := k7.grown hg8 ((HM.out.below hM7'.b).ne_blk k7 (by decide))
    have hK8 := HK.out.step (n' := k + 1) (c' := c8) hM7'.b hg8 hat8
    clear hg8 hat8 k7 k6
    go_roundw
    case rel => exact ⟨k + 1, A8, c8, by omega, by go_num, rfl, by rw [hcc'.out]; exact hM8, hK8, k8⟩
    case measure => simp [intOf]; omega
  · obtain rfl : k = pw n := by omega
    have htr := transpose_any P A' (pw n) c' (rcmL P sq n xs) (pw n) wr (by omega) (by omega) (by omega) hM.rd HCT.out
    go_wp2_with fail
    refine htr.mono ?_
    rintro e w7 ⟨A7, c7, rfl, hM7⟩
    have hM7' := hM7.after hM.b
    go_wp2
    go_ret
    exact ⟨_, _, rfl, hM7'⟩
set_option maxHeartbeats 6400000 in
set_option maxRecDepth 8000 in
theorem l04Left_any (P : Int) (A : Option Addr) (n c : Nat) (sq : List Int) (X : Option Addr) (cx : Nat) (xs : List Int) (w : World) (hp : 2 ≤ P) (hp2 : P ≤ 13) (hn : n ≤ 6) (ha : Rd w A n (ints sq)) (hs : NumsL P sq) (hx : Rd w X (pw n) (ints xs)) (hxs : NumsL P xs) (hcx : pw n ≤ cx) :
    Calls Tryz.prog 139 #[.agg #[.int .i64 P, .slice A n c], .slice X (pw n) cx] w fun e w' => ∃ (A' : Option Addr) (c' : Nat), e = .returned (.slice A' (pw n) c') ∧ MkII w w' A' (pw n) c' (transL (lcolL P sq n xs)) := by
 have hB0 : Below w.heap.size w (w.alloc (.cells #[.int .i64 P, .slice A n c] 26)) := zG.alloc (Nat.le_refl _) _
 have k0 : Blk (w.alloc (.cells #[.int .i64 P, .slice A n c] 26)) w.heap.size 26 #[.int .i64 P, .slice A n c] := Blk.new _ _ _
 have HCT : Hid (Tab P (pw n) (lcolL P sq n xs)) := Lib.hid (by
     have hsl := ha.lenI
     subst hsl
     exact lcol_tab hp ⟨xs, hx.lenI, hxs, by omega⟩)
 have HXL := Lib.hid hx.lenI
 have HXS := Lib.hid hxs
 have HS := Lib.hid hs
 have hpw : pw n ≤ 64 := pw_le hn
 have hpn := pw_pos n
 have hB4 := hB0.alloc hB0.size (.cells #[] 24)
 have k4 := k0.alloc (.cells #[] 24)
 have hM4 : MkII w ((w.alloc (.cells #[.int .i64 P, .slice A n c] 26)).alloc (.cells #[] 24)) (some ⟨(w.alloc (.cells #[.int .i64 P, .slice A n c] 26)).heap.size, 0, none⟩) 0 0 [] := MkII.empty hB0
 clear hxs hs
 go_enter Tryz.func139, Tryz.ntmps139
 go_wp2
 go_loopw [5, 6] (fun out i wr => ∃ (k : Nat) (A' : Option Addr) (c' : Nat), k ≤ pw n ∧ i = .int .i64 k ∧ out = .slice A' k c' ∧ MkII w wr A' k c' (tab k fun m => mulL P sq xs (unitRow (pw n) m)) ∧ Blk wr w.heap.size 26 #[.int .i64 P, .slice A n c]) (fun _ i _ => pw n - (intOf i).toNat)
 case atStart => exact ⟨0, _, _, by omega, rfl, rfl, by simpa [tab] using hM4, k4⟩
 case round =>
  obtain ⟨k, A', c', hk, rfl, rfl, hM, k6⟩ := hrel
  clear hM4 k4 hB4 k0
  obtain ⟨q0, q1⟩ := k6.two
  have hsz := l04Size_any P A n c wr (by omega)
  by_cases hlt : k < pw n
  · have hdl : decide ((k : Int) < ((pw n : Nat) : Int)) = true := by simp; omega
    go_wp2_with fail
    refine hsz.mono ?_
    rintro e w1 ⟨rfl, hb1⟩
    have k7 := k6.below hb1 k6.lt
    clear q0 q1
    obtain ⟨q0, q1⟩ := k7.two
    go_wp2_with fail
    refine (l04Zero_any P A n c _ (by omega)).mono ?_
    rintro e w2 ⟨A9, c9, rfl, hM9⟩
    have hM9' := hM9.after hb1
    have k8 := k7.below hM9.b k7.lt
    clear q0 q1 hM9 hsz k7
    rcases hM9'.2.form with ⟨_, hz⟩ | ⟨g9, rfl, hg9, _⟩
    · omega
    obtain ⟨u1, hc1⟩ := hM9'.2.cellI hlt
    have hf1 := hM9'.2.frozen_ k
    have hset := (hM9'.set k (.int .i64 1)).1
    rw [ints_set] at hset
    have HSET : Hid (MkI wr (w2.setCell ⟨g9, k, none⟩ (.int .i64 1)) (some ⟨g9, 0, none⟩) (pw n) c9 (unitRow (pw n) k)) := Lib.hid hset
    have k9 := k8.far (p := ⟨g9, k, none⟩) (show w.heap.size ≠ g9 by have := k6.lt; omega) (.int .i64 1)
    have HM := Lib.hid hM
    have i1 : (0 : Int) ≤ (k : Int) := by omega
    have i2 : (k : Int) < (pw n : Int) := by omega
    have hcall := l04Times_any P A n c sq X cx xs (some ⟨g9, 0, none⟩) c9 (unitRow (pw n) k) _ (by omega) hp2 hn (ha.below (hM.b.trans (HSET.out.b.mono hM.b.size))) HS.out (hx.below (hM.b.trans (HSET.out.b.mono hM.b.size))) HXS.out HSET.out.rd (unitRow_nums hp _ k)
    have hcc' : Hid ((tab (k + 1) fun m => mulL P sq xs (unitRow (pw n) m)) = (tab k fun m => mulL P sq xs (unitRow (pw n) m)) ++ [mulL P sq xs (unitRow (pw n) k)]) := Lib.hid (by rw [tab_succ])
    obtain ⟨q0, q1⟩ := k9.two
    clear hset hM9' k8 hM hb1
    go_wp2_with fail
    refine hcall.mono ?_
    rintro e w7 ⟨A7, c7, rfl, hM7⟩
    have hM7' := hM7.after HSET.out.b
    have k10 := k9.below hM7.b k9.lt
    clear hcall q0 q1 hM7 hc1 hf1
    go_wp2_with (at_builtin; refine wpList_appRowG w wr _ rfl _ _ rfl A' k c' _ A7 (pw n) c7 _ HM.out hM7' (by omega) rfl ?_ ?_; (go_simp); intro A8 c8 w8 hM8 hg8 hat8)
    have k11 := k10.grown hg8 ((HM.out.below hM7'.b).ne_blk k10 (by decide))
    clear hg8 hat8 k10 k9 k6
    go_roundw
    case rel => exact ⟨k + 1, A8, c8, by omega, by go_num, rfl, by rw [hcc'.out]; exact hM8, k11⟩
    case measure => simp [intOf]; omega
  · obtain rfl : k = pw n := by omega
    have hdl : decide (((pw n : Nat) : Int) < ((pw n : Nat) : Int)) = false := by simp
    go_wp2_with fail
    refine hsz.mono ?_
    rintro e w1 ⟨rfl, hb1⟩
    have htr := l02Turn_any P A' (pw n) c' (lcolL P sq n xs) (pw n) w1 (by omega) (by omega) (by omega) (hM.rd.below hb1) HCT.out
    have hM1 := hM.b.trans (hb1.mono hM.b.size)
    go_wp2_with fail
    refine htr.mono ?_
    rintro e w7 ⟨A7, c7, rfl, hM7⟩
    have hM7' := hM7.after hM1
    go_wp2
    go_ret
    exact ⟨_, _, rfl, hM7'⟩
set_option maxHeartbeats 6400000 in
set_option maxRecDepth 8000 in
theorem l09Right_any (P : Int) (A : Option Addr) (n c : Nat) (sq : List Int) (X : Option Addr) (cx : Nat) (xs : List Int) (w : World) (hp : 2 ≤ P) (hp2 : P ≤ 13) (hn : n ≤ 6) (ha : Rd w A n (ints sq)) (hs : NumsL P sq) (hx : Rd w X (pw n) (ints xs)) (hxs : NumsL P xs) (hcx : pw n ≤ cx) :
    Calls Tryz.prog 140 #[.agg #[.int .i64 P, .slice A n c], .slice X (pw n) cx] w fun e w' => ∃ (A' : Option Addr) (c' : Nat), e = .returned (.slice A' (pw n) c') ∧ MkII w w' A' (pw n) c' (transL (rcmL P sq n xs)) := by
 have hB0 : Below w.heap.size w (w.alloc (.cells #[.int .i64 P, .slice A n c] 26)) := zG.alloc (Nat.le_refl _) _
 have k0 : Blk (w.alloc (.cells #[.int .i64 P, .slice A n c] 26)) w.heap.size 26 #[.int .i64 P, .slice A n c] := Blk.new _ _ _
 have HCT : Hid (Tab P (pw n) (rcmL P sq n xs)) := Lib.hid (by
     have hsl := ha.lenI
     subst hsl
     exact rcm_tab hp ⟨xs, hx.lenI, hxs, by omega⟩)
 have HXL := Lib.hid hx.lenI
 have HXS := Lib.hid hxs
 have HS := Lib.hid hs
 have hpw : pw n ≤ 64 := pw_le hn
 have hpn := pw_pos n
 have hB4 := hB0.alloc hB0.size (.cells #[] 24)
 have k4 := k0.alloc (.cells #[] 24)
 have hM4 : MkII w ((w.alloc (.cells #[.int .i64 P, .slice A n c] 26)).alloc (.cells #[] 24)) (some ⟨(w.alloc (.cells #[.int .i64 P, .slice A n c] 26)).heap.size, 0, none⟩) 0 0 [] := MkII.empty hB0
 clear hxs hs
 go_enter Tryz.func140, Tryz.ntmps140
 go_wp2
 go_loopw [5, 6] (fun out i wr => ∃ (k : Nat) (A' : Option Addr) (c' : Nat), k ≤ pw n ∧ i = .int .i64 k ∧ out = .slice A' k c' ∧ MkII w wr A' k c' (tab k fun m => mulL P sq (unitRow (pw n) m) xs) ∧ Blk wr w.heap.size 26 #[.int .i64 P, .slice A n c]) (fun _ i _ => pw n - (intOf i).toNat)
 case atStart => exact ⟨0, _, _, by omega, rfl, rfl, by simpa [tab] using hM4, k4⟩
 case round =>
  obtain ⟨k, A', c', hk, rfl, rfl, hM, k6⟩ := hrel
  clear hM4 k4 hB4 k0
  obtain ⟨q0, q1⟩ := k6.two
  have hsz := l04Size_any P A n c wr (by omega)
  by_cases hlt : k < pw n
  · have hdl : decide ((k : Int) < ((pw n : Nat) : Int)) = true := by simp; omega
    go_wp2_with fail
    refine hsz.mono ?_
    rintro e w1 ⟨rfl, hb1⟩
    have k7 := k6.below hb1 k6.lt
    clear q0 q1
    obtain ⟨q0, q1⟩ := k7.two
    go_wp2_with fail
    refine (l04Zero_any P A n c _ (by omega)).mono ?_
    rintro e w2 ⟨A9, c9, rfl, hM9⟩
    have hM9' := hM9.after hb1
    have k8 := k7.below hM9.b k7.lt
    clear q0 q1 hM9 hsz k7
    rcases hM9'.2.form with ⟨_, hz⟩ | ⟨g9, rfl, hg9, _⟩
    · omega
    obtain ⟨u1, hc1⟩ := hM9'.2.cellI hlt
    have hf1 := hM9'.2.frozen_ k
    have hset := (hM9'.set k (.int .i64 1)).1
    rw [ints_set] at hset
    have HSET : Hid (MkI wr (w2.setCell ⟨g9, k, none⟩ (.int .i64 1)) (some ⟨g9, 0, none⟩) (pw n) c9 (unitRow (pw n) k)) := Lib.hid hset
    have k9 := k8.far (p := ⟨g9, k, none⟩) (show w.heap.size ≠ g9 by have := k6.lt; omega) (.int .i64 1)
    have HM := Lib.hid hM
    have i1 : (0 : Int) ≤ (k : Int) := by omega
    have i2 : (k : Int) < (pw n : Int) := by omega
    have hcall := l04Times_any P A n c sq (some ⟨g9, 0, none⟩) c9 (unitRow (pw n) k) X cx xs _ (by omega) hp2 hn (ha.below (hM.b.trans (HSET.out.b.mono hM.b.size))) HS.out HSET.out.rd (unitRow_nums hp _ k) (hx.below (hM.b.trans (HSET.out.b.mono hM.b.size))) HXS.out
    have hcc' : Hid ((tab (k + 1) fun m => mulL P sq (unitRow (pw n) m) xs) = (tab k fun m => mulL P sq (unitRow (pw n) m) xs) ++ [mulL P sq (unitRow (pw n) k) xs]) := Lib.hid (by rw [tab_succ])
    obtain ⟨q0, q1⟩ := k9.two
    clear hset hM9' k8 hM hb1
    go_wp2_with fail
    refine hcall.mono ?_
    rintro e w7 ⟨A7, c7, rfl, hM7⟩
    have hM7' := hM7.after HSET.out.b
    have k10 := k9.below hM7.b k9.lt
    clear hcall q0 q1 hM7 hc1 hf1
    go_wp2_with (at_builtin; refine wpList_appRowG w wr _ rfl _ _ rfl A' k c' _ A7 (pw n) c7 _ HM.out hM7' (by omega) rfl ?_ ?_; (go_simp); intro A8 c8 w8 hM8 hg8 hat8)
    have k11 := k10.grown hg8 ((HM.out.below hM7'.b).ne_blk k10 (by decide))
    clear hg8 hat8 k10 k9 k6
    go_roundw
    case rel => exact ⟨k + 1, A8, c8, by omega, by go_num, rfl, by rw [hcc'.out]; exact hM8, k11⟩
    case measure => simp [intOf]; omega
  · obtain rfl : k = pw n := by omega
    have hdl : decide (((pw n : Nat) : Int) < ((pw n : Nat) : Int)) = false := by simp
    go_wp2_with fail
    refine hsz.mono ?_
    rintro e w1 ⟨rfl, hb1⟩
    have htr := l02Turn_any P A' (pw n) c' (rcmL P sq n xs) (pw n) w1 (by omega) (by omega) (by omega) (hM.rd.below hb1) HCT.out
    have hM1 := hM.b.trans (hb1.mono hM.b.size)
    go_wp2_with fail
    refine htr.mono ?_
    rintro e w7 ⟨A7, c7, rfl, hM7⟩
    have hM7' := hM7.after hM1
    go_wp2
    go_ret
    exact ⟨_, _, rfl, hM7'⟩
end Go.Proofs.YtmkjdpnoloofjaaGreat
namespace Go.Proofs.YtmkjdpnoloofjaaGreat
section
variable {p : Int} {n : Nat} {M : List (List Int)}
/-- Powers in the ring. -/
def Mt.pw (x : Mt p n) : Nat → Mt p n
 | 0 => Mt.one x.pos
 | k + 1 => Mt.pw x k * x
end
section
variable {p : Int} {sq : List Int} {M : List (List Int)}
end
end Go.Proofs.YtmkjdpnoloofjaaGreat
namespace Go.Proofs.YtmkjdpnoloofjaaGreat
open Go.RowKit
set_option maxHeartbeats 400000 in
set_option maxRecDepth 8000 in
theorem likeInts_any (A B : Option Addr) (n m c d : Nat) (xs ys : List Int) (w : World) (hn : n ≤ 1099511627776) (hm : m ≤ 1099511627776)
    (ha : Rd w A n (ints xs)) (hb : Rd w B m (ints ys)) :
    Calls Tryz.prog 16 #[.slice A n c, .slice B m d] w fun e w' => e = .returned (.bool (decide (xs = ys))) ∧ ∃ j, w' = w.drewN j := by
 have hxl : xs.length = n := by have := ha.1; rwa [ints_length] at this
 have hyl : ys.length = m := by have := hb.1; rwa [ints_length] at this
 by_cases hnm : n = m
 · subst hnm
   have Hx := Lib.hid hxl; clear hxl
   have Hy := Lib.hid hyl; clear hyl
   go_enter Tryz.func16, Tryz.ntmps16
   go_wp2
   go_loopw [5] (fun i wr => ∃ k j : Nat, k ≤ n ∧ i = .int .i64 k ∧ xs.take k = ys.take k ∧ wr = w.drewN j) (fun i _ => n - (intOf i).toNat)
   case atStart => exact ⟨0, 0, by omega, rfl, by simp, rfl⟩
   case round =>
    obtain ⟨k, j, hk, rfl, hxy, rfl⟩ := hrel
    have H := Lib.hid hxy; clear hxy
    by_cases hlt : k < n
    · obtain ⟨g, o, rfl, hx, hcx⟩ := ha.int hlt
      obtain ⟨g', o', rfl, hy, hcy⟩ := hb.int hlt
      clear ha hb
      go_wp2
      go_quiet (fail)
      go_wp2
      · go_ret
        exact ⟨ret_bool (ne_of_get xs ys k hx hy (by assumption)).symm, _, World.drewN_drewN _ _ _⟩
      · go_roundw
        case rel => exact ⟨k + 1, _, by omega, by go_num, take_succ_eq xs ys k hx hy H.out (by simpa using (by assumption : (xs[k] != ys[k]) = false)), rfl⟩
        case measure => simp [intOf]; omega
    · go_wp2
      go_ret
      refine ⟨ret_bool ?_, _, rfl⟩
      have := H.out
      rw [List.take_of_length_le (by rw [Hx.out]; omega), List.take_of_length_le (by rw [Hy.out]; omega)] at this
      rw [this]; simp
 · have hne : decide (xs = ys) = false := by
    rw [decide_eq_false_iff_not]; rintro rfl; omega
   have Hne := Lib.hid hne; clear hne hxl hyl
   have hb0 : ((n : Int) != (m : Int)) = true := by rw [bne_iff_ne]; omega
   go_enter Tryz.func16, Tryz.ntmps16
   go_wp2
   go_ret
   exact ⟨ret_bool Hne.out.symm, 0, rfl⟩
/-- The sum of a matrix and a multiple of another one. -/
def sumL (p : Int) (U M : List (List Int)) (k : Int) : List (List Int) := tab U.length fun i => plusL p (U.getD i []) (M.getD i []) k
theorem sumL_len (p : Int) (U M : List (List Int)) (k : Int) : (sumL p U M k).length = U.length := tab_len _ _
theorem sumL_take {p : Int} {U M : List (List Int)} {k : Nat} {j : Int} (h : k < U.length) : (sumL p U M j).take (k + 1) = (sumL p U M j).take k ++ [plusL p (U.getD k []) (M.getD k []) j] := by
 have hl : k < (sumL p U M j).length := by rw [sumL_len]; exact h
 rw [List.take_succ_eq_append_getElem hl]
 congr 2
 rw [← getD_of_lt [] hl]
 unfold sumL
 rw [tab_getD h]
set_option maxHeartbeats 3200000 in
set_option maxRecDepth 8000 in
theorem sumG_any (p : Int) (U : Option Addr) (n cu : Nat) (U0 : List (List Int)) (A : Option Addr) (c : Nat) (M : List (List Int)) (kk : Int) (w : World) (hp : 2 ≤ p) (hp2 : p ≤ 13) (hn : n ≤ 65536) (hu : RdII w U n U0) (hU : Tab p n U0) (ha : RdII w A n M) (hT : Tab p n M) (hk1 : -1000 ≤ kk) (hk2 : kk ≤ 1000) :
    Calls Tryz.prog 77 #[.int .i64 p, .slice U n cu, .slice A n c, .int .i64 kk] w fun e w' => ∃ (A' : Option Addr) (c' : Nat), e = .returned (.slice A' n c') ∧ MkII w w' A' n c' (sumL p U0 M kk) := by
 have HM := Lib.hid hT
 have HU := Lib.hid hU
 have HOL : Hid ((sumL p U0 M kk).length = n) := Lib.hid ((sumL_len p U0 M kk).trans hu.len)
 obtain ⟨w3, hw3⟩ : ∃ W, W = w.alloc (.cells #[] 24) := ⟨_, rfl⟩
 have hA0 : Below w.heap.size w w3 := by rw [hw3]; exact zG.alloc (Nat.le_refl _) _
 have hO3 : MkII w w3 (some ⟨w.heap.size, 0, none⟩) 0 0 [] := by rw [hw3]; exact MkII.empty zG
 have hE3 : Blk w3 w.heap.size 24 #[] := by rw [hw3]; exact Blk.new _ _ _
 have a3 := ha.below hA0
 have u3 := hu.below hA0
 have hgr0 : Grows w3 w3 w.heap.size (.slice (some ⟨w.heap.size, 0, none⟩) 0 0) := ⟨CK.refl _, Nat.le_refl _, fun gb h => .inl (by simpa [Value.ownBlock] using h.symm)⟩
 clear hT hU ha hu
 go_enter Tryz.func77, Tryz.ntmps77
 go_wp2
 rw [← hw3]
 obtain ⟨g3, hg3⟩ : ∃ g, g = w.heap.size := ⟨_, rfl⟩
 rw [← hg3] at hO3 hE3 hgr0 ⊢
 clear hw3 hg3
 go_loopw [9, 14] (fun out i wr => ∃ (k : Nat) (A' : Option Addr) (c' : Nat), k ≤ n ∧ i = .int .i64 k ∧ out = .slice A' k c' ∧ MkII w wr A' k c' ((sumL p U0 M kk).take k) ∧ Grows w3 wr g3 (.slice A' k c')) (fun _ i _ => n - (intOf i).toNat)
 case atStart => exact ⟨0, _, _, by omega, rfl, rfl, by simpa using hO3, hgr0⟩
 case round =>
  obtain ⟨k, A', c', hk, rfl, rfl, hM, hgr⟩ := hrel
  clear hO3 hgr0
  by_cases hlt : k < n
  · obtain ⟨ga, oa, rfl, hxk, Ak, ck, hck, hrk, hcc⟩ := (a3.ck hgr.1).at_ hlt
    obtain ⟨gu, ou, rfl, hxu, Uk, cu2, hcu, hru, hcuc⟩ := (u3.ck hgr.1).at_ hlt
    have hnk := HM.out M[k] (List.getElem_mem hxk)
    have hnu := HU.out U0[k] (List.getElem_mem hxu)
    rw [hnk.1] at hck hrk hcc
    rw [hnu.1] at hcu hru hcuc
    have HGD : Hid (M.getD k [] = M[k]) := Lib.hid (getD_of_lt [] hxk)
    have HGU : Hid (U0.getD k [] = U0[k]) := Lib.hid (getD_of_lt [] hxu)
    obtain ⟨X, hX⟩ : ∃ X, X = M[k] := ⟨_, rfl⟩
    obtain ⟨V, hV0⟩ : ∃ X, X = U0[k] := ⟨_, rfl⟩
    rw [← hX] at hrk hnk HGD
    rw [← hV0] at hru hnu HGU
    have HXL : Hid (k < U0.length) := Lib.hid hxu
    clear hX hV0 hxk hxu hcc hcuc
    have HPL := Lib.hid fun (w' : World) (h : Below wr.heap.size wr w') => plus_any p Uk n cu2 Ak n ck kk V X w' hp hp2 hn (Nat.le_refl _) (hru.below h) hnu.2 (hrk.below h) hnk.2 hk1 hk2
    obtain ⟨Y, hY⟩ : ∃ Y, Y = plusL p V X kk := ⟨_, rfl⟩
    have HAP : Hid ((sumL p U0 M kk).take (k + 1) = (sumL p U0 M kk).take k ++ [Y]) := Lib.hid (by rw [sumL_take HXL.out, HGU.out, HGD.out, hY])
    rw [← hY] at HPL
    have HMM := Lib.hid hM
    have HGR := Lib.hid hgr
    clear hrk hru hY hM hgr hnk hnu
    go_wp2
    refine wp_obs 13 [[],[],[],[],[2,3],[2,3,4],[],[],[6,7],[6,7,8],[],[1,2,3,4,5,6,7,8,9,10],[1,2,3,4,5,6,7,8,9,10,11],[0,1,2,3,4,5,6,7,8,9,10,11,12],[0,1,2,3,4,5,6,7,8,9,10,11,12,13]] [VIs (.slice A' k c'), VIs (.int .i64 (p)), VIs (.slice (some ⟨gu, ou, none⟩) n cu), VIs (.int .i64 (k)), VIs (.pointer (some ⟨gu, ou + k, none⟩)), VIs (.slice Uk n cu2), VIs (.slice (some ⟨ga, oa, none⟩) n c), VIs (.int .i64 (k)), VIs (.pointer (some ⟨ga, oa + k, none⟩)), VIs (.slice Ak n ck), VIs (.int .i64 (kk)), VSl wr n Y, VNew wr n Y] (fun w' => w'.cell? ⟨gu, ou + k, none⟩ = some (.slice Uk n cu2) ∧ w'.cell? ⟨ga, oa + k, none⟩ = some (.slice Ak n ck) ∧ Below wr.heap.size wr w') (by kernel_rfl) (by kernel_rfl) (fun _ _ h hb => ⟨(hb.cell (World.block_lt_of_cell? _ _ h.1)).trans h.1, (hb.cell (World.block_lt_of_cell? _ _ h.2.1)).trans h.2.1, h.2.2.trans (hb.mono h.2.2.size)⟩) (⟨hcu, hck, zG.drew⟩) (fun x => ?_)
    refine zS (fun w' hS hV K hK => ?_) ?_
    · have q0 := hS.1; have q1 := hS.2.1; go_simp; exact zO hK
    refine zS (fun w' hS hV K hK => ?_) ?_
    · have q0 := hS.1; have q1 := hS.2.1; go_simp; exact zO hK
    refine zS (fun w' hS hV K hK => ?_) ?_
    · have q0 := hS.1; have q1 := hS.2.1; go_simp; exact zO hK
    refine zS (fun w' hS hV K hK => ?_) ?_
    · have q0 := hS.1; have q1 := hS.2.1; go_simp; exact zO hK
    refine zS (fun w' hS hV K hK => ?_) ?_
    · have e2 := zQ hV 2; have e3 := zQ hV 3; have q0 := hS.1; have q1 := hS.2.1; go_simp; exact zO hK
    refine zS (fun w' hS hV K hK => ?_) ?_
    · have e4 := zQ hV 4; have q0 := hS.1; have q1 := hS.2.1; go_simp; exact zO hK
    refine zS (fun w' hS hV K hK => ?_) ?_
    · have q0 := hS.1; have q1 := hS.2.1; go_simp; exact zO hK
    refine zS (fun w' hS hV K hK => ?_) ?_
    · have q0 := hS.1; have q1 := hS.2.1; go_simp; exact zO hK
    refine zS (fun w' hS hV K hK => ?_) ?_
    · have e6 := zQ hV 6; have e7 := zQ hV 7; have q0 := hS.1; have q1 := hS.2.1; go_simp; exact zO hK
    refine zS (fun w' hS hV K hK => ?_) ?_
    · have e8 := zQ hV 8; have q0 := hS.1; have q1 := hS.2.1; go_simp; exact zO hK
    refine zS (fun w' hS hV K hK => ?_) ?_
    · have q0 := hS.1; have q1 := hS.2.1; go_simp; exact zO hK
    refine zS (fun w' hS hV K hK => ?_) ?_
    · have e1 := zQ hV 1; have e5 := zQ hV 5; have e9 := zQ hV 9; have e10 := zQ hV 10; have q0 := hS.1; have q1 := hS.2.1; go_simp; refine (HPL.out _ hS.2.2).mono ?_; rintro e v1 ⟨A9, c9, rfl, hM⟩; exact hK.out _ _ _ rfl rfl ⟨_, _, rfl, hM.after hS.2.2⟩ hM.b
    refine zS (fun w' hS hV K hK => ?_) ?_
    · obtain ⟨A11, c11, e11, h11⟩ := hV 11 (by decide); have q0 := hS.1; have q1 := hS.2.1; go_simp; exact hK.out _ _ _ rfl rfl ⟨_, _, _, rfl, Blk.new _ _ _, h11.below (zG.alloc (Nat.le_refl _) _)⟩ (zG.alloc (Nat.le_refl _) _)
    refine fun w' hS hV => ?_
    have e0 := zT hV 0
    have e1 := zT hV 1
    have e2 := zT hV 2
    have e3 := zT hV 3
    have e4 := zT hV 4
    have e5 := zT hV 5
    have e6 := zT hV 6
    have e7 := zT hV 7
    have e8 := zT hV 8
    have e9 := zT hV 9
    have e10 := zT hV 10
    obtain ⟨A11, c11, e11, h11⟩ := hV 11 (by decide)
    obtain ⟨g12, A12, c12, e12, b12, h12⟩ := hV 12 (by decide)
    simp only [e0, e1, e2, e3, e4, e5, e6, e7, e8, e9, e10, e11, e12]
    clear e0 e1 e2 e3 e4 e5 e6 e7 e8 e9 e10 e11 e12
    obtain ⟨-, -, s2⟩ := hS
    refine any_plain (j := 13) (by kernel_rfl) (Eq.trans (by simp only [zA, zB, zC]; exact rfl) rfl) rfl (fun K hK => ?_)
    refine wp_appRow w wr w' _ _ rfl A' k c' _ A12 n c12 _ HMM.out h12 (by omega) g12 b12 (by rfl) (by rfl) ?_
    intro A20 c20 w20 hM20 hg20 hat20
    refine hK.out _ _ ?_
    simp only [Act.put, zD, zE, zF]
    refine any_one (j := 14) (by kernel_rfl) (Eq.trans (by simp only [zA, zB, zC]; exact rfl) rfl) (fun K hK => ?_)
    go_simp
    refine hK.out _ _ (wpAny_done (by kernel_rfl) ?_ _)
    have hgr7 := HGR.out.step (n' := k + 1) (c' := c20) hE3 s2 hg20 hat20
    clear hg20 hat20 s2
    go_wp2
    go_roundw
    case rel => exact ⟨k + 1, A20, c20, by omega, by go_num, rfl, by rw [HAP.out]; exact hM20, hgr7⟩
    case measure => simp [intOf]; omega
  · obtain rfl : k = n := by omega
    rw [List.take_of_length_le (by rw [HOL.out]; omega)] at hM
    go_wp2
    go_ret
    exact ⟨_, _, rfl, hM⟩
/-- The second list is appended to the first one. -/
theorem wp_appRowsG {o : Oper} {a : Act} {K : Act → World → Prop} {Q : Exit → Act → World → Prop} (w0 wr : World)
    (s x : Operand) (ho : o.op = .call { callee := .builtin .append, args := #[s, x], argTypes := #[27, 27] })
    (A : Option Addr) (n c : Nat) (xss : List (List Int)) (B : Option Addr) (m d : Nat) (yss : List (List Int)) (hM : MkII2 w0 wr A n c xss B m yss) (hn : n + m ≤ 1099511627775) (hm0 : 0 < m)
    (hs : a.eval s = .slice A n c) (hx : a.eval x = .slice B m d)
    (h : ∀ A' c' w', MkII w0 w' A' (n + m) c' (xss ++ yss) → wr.grownBy w' (Value.slice A n c).ownBlock → (∃ g, A' = some ⟨g, 0, none⟩ ∧ ((Value.slice A n c).ownBlock = some g ∨ wr.heap.size ≤ g)) → K (a.put o.dst (.slice A' (n + m) c')) w') : o.wp Tryz.prog a wr K Q := by
 obtain ⟨rows, rows', hm, hr, hrl, hnest⟩ := hM
 obtain ⟨i, hi, h1, h2, h3⟩ := info_parts info_s
 obtain ⟨b1, b2⟩ := bound_of (show n + m - 1 ≤ 1099511627776 by omega)
 have hr1 : rows'.length = m := hr.1
 have hone : ∀ u ∈ rows', u.oneCell' = true := fun u hu => by
  obtain ⟨k, hk, rfl⟩ := List.getElem_of_mem hu
  have hkl : rows.length + k < (xss ++ yss).length := by rw [← hnest.len, List.length_append]; omega
  obtain ⟨A2, c2, e, _⟩ := hnest.row (rows.length + k) hkl
  rw [List.getElem?_append_right (by omega), Nat.add_sub_cancel_left, List.getElem?_eq_getElem hk] at e
  rw [Option.some.inj e]; rfl
 obtain ⟨g, o', rfl, hc⟩ := hr.2 (by omega)
 obtain ⟨g', cap, w', hrun, hown, hg, hat, _⟩ := run_append_lies (P := Tryz.prog) (w := wr) 27 o.type w0.heap.size 24 i (.slice none 0 0) 1 24 Tryz.underlying27 hi h1 h2 h3 rfl (by omega) (.slice A n c) n rows hm.2 ⟨g, o', none⟩ m d rows' (by omega)
  (fun j u hu => by rw [Addr.add_lit]; exact hc j u hu) hone (by omega) (by simp only [maxLen]; omega) (by omega) hm.1.size _ rfl
 unfold Oper.wp execOp
 simp only [ho, resolve, invoke, builtin, Sem.run_bind, Sem.run_pure, Result.andThen_ok, List.map_toArray, List.map_cons, List.map_nil, hs, hx, hrun]
 exact h _ _ _ ⟨rows ++ rows', ⟨hm.1.grown hg hm.1.size (fun k hk => (hm.2.lt k hk).1), hown⟩, hnest.grown hm.2 (by decide) hg⟩ hg ⟨g', rfl, hat.imp id fun e => by omega⟩
/-- CentreBasis. -/
def ctrR (P : Int) (sq : List Int) : List (List Int) × Int := if codeA P sq [] = 0 then (ctrL P sq sq.length, 0) else ([], codeA P sq [])
theorem ctrR_ok {P : Int} {sq : List Int} (h : codeA P sq [] = 0) : ctrR P sq = (ctrL P sq sq.length, 0) := by unfold ctrR; rw [if_pos h]
theorem ctrR_bad {P : Int} {sq : List Int} (h : ¬ codeA P sq [] = 0) : ctrR P sq = ([], codeA P sq []) := by unfold ctrR; rw [if_neg h]
set_option maxHeartbeats 6400000 in
set_option maxRecDepth 8000 in
theorem CentreBasis_any (P : Int) (A : Option Addr) (n c : Nat) (sq : List Int) (w : World) (hn : n ≤ 1048576) (ha : Rd w A n (ints sq)) :
    Calls Tryz.prog 45 #[.agg #[.int .i64 P, .slice A n c]] w fun e w' => ∃ (A' : Option Addr) (k c' : Nat), e = .returned (.tuple #[.slice A' k c', .int .i64 (ctrR P sq).2]) ∧ MkII w w' A' k c' (ctrR P sq).1 := by
 have hB0 : Below w.heap.size w (w.alloc (.cells #[.int .i64 P, .slice A n c] 26)) := zG.alloc (Nat.le_refl _) _
 have k0 : Blk (w.alloc (.cells #[.int .i64 P, .slice A n c] 26)) w.heap.size 26 #[.int .i64 P, .slice A n c] := Blk.new _ _ _
 have hreg := checkAlgebra_any P A none n c 0 0 sq [] (w.alloc (.cells #[.int .i64 P, .slice A n c] 26)) hn (by omega) (ha.below hB0) ⟨[], Rd.nil _ _, rfl, fun k h => absurd h (by simp)⟩ (by simp)
 by_cases hr0 : codeA P sq [] = 0
 · rw [hr0] at hreg
   obtain ⟨hcM, h4⟩ := codeA_zero hr0
   obtain ⟨HP, hp, hp2, hd1, hd2, hs, -⟩ := codeM_spec3 hcM
   have hsl := ha.lenI
   have hn4 : n ≤ 4 := by omega
   have hn0 : 0 < n := by omega
   have hpw : pw n ≤ 16 := pw_le hn4
   have hpn := pw_pos n
   have HOK : Hid (ctrR P sq = (ctrL P sq n, 0)) := Lib.hid (by rw [ctrR_ok hr0, hsl])
   have HCR : Hid (Tab P (pw n) (ctrTo P sq n n)) := Lib.hid (by subst hsl; exact ctrTo_tab hp _)
   have HSL := Lib.hid hsl
   have HS := Lib.hid hs
   clear hsl hs hd1 hd2 h4 hcM
   clear hr0
   go_enter Tryz.func45, Tryz.ntmps45
   go_wp2_with fail
   refine hreg.mono ?_
   rintro e w2 ⟨rfl, hb2⟩
   have hB2 := hB0.trans (hb2.mono hB0.size)
   have k2 := k0.below hb2 k0.lt
   clear k0 hreg hb2 hB0
   have hB3 := hB2.alloc hB2.size (.cells #[] 24)
   have k3 := k2.alloc (.cells #[] 24)
   have hM3 : MkII w (w2.alloc (.cells #[] 24)) (some ⟨w2.heap.size, 0, none⟩) 0 0 [] := MkII.empty hB2
   have hz3 : w2.heap.size < (w2.alloc (.cells #[] 24)).heap.size := by simp
   obtain ⟨q0, q1⟩ := k3.two
   go_wp2_with fail
   obtain ⟨w3, hw3⟩ : ∃ W, W = w2.alloc (.cells #[] 24) := ⟨_, rfl⟩
   rw [← hw3] at hM3 hB3 k3 hz3 ⊢
   clear q0 q1 hw3 k2 hB2
   refine (dim_any _ _ _ _ _).mono ?_
   rintro e w4 ⟨rfl, hb4⟩
   have hM4 := hM3.below hb4
   have k4 := k3.below hb4 k3.lt
   have hz4 : w2.heap.size < w4.heap.size := Nat.lt_of_lt_of_le hz3 hb4.size
   clear hM3 k3 hz3 hb4 hB3
   obtain ⟨q0, q1⟩ := k4.two
   go_wp2_with fail
   refine (unit_any n w4 (by omega)).mono ?_
   rintro e w5 ⟨U, cU, rfl, hU⟩
   have hM5 := hM4.below hU.b
   have k5 := k4.below hU.b k4.lt
   have hKp : Keeps w4 w5 w5 (.slice (some ⟨w2.heap.size, 0, none⟩) 0 0) := ⟨Nat.le_refl _, fun _ _ _ => rfl, fun gb e => .inl (lt_of_own e hz4)⟩
   clear hM4 k4 hz4 q0 q1
   go_wp2
   go_loopw [5, 19] (fun out i wr => ∃ (k : Nat) (A' : Option Addr) (c' : Nat), k ≤ n ∧ i = .int .i64 k ∧ out = .slice A' (k * pw n) c' ∧ MkII w wr A' (k * pw n) c' (ctrTo P sq n k) ∧ Keeps w4 w5 wr (.slice A' (k * pw n) c') ∧ Blk wr w.heap.size 26 #[.int .i64 P, .slice A n c]) (fun _ i _ => n - (intOf i).toNat)
   case atStart => exact ⟨0, _, _, by omega, rfl, by rw [Nat.zero_mul], by rw [Nat.zero_mul]; exact hM5, by rw [Nat.zero_mul]; exact hKp, k5⟩
   case round =>
    obtain ⟨k, A', c', hk, rfl, rfl, hM, hKp', k6⟩ := hrel
    clear hM5 hKp k5
    obtain ⟨q0, q1⟩ := k6.two
    by_cases hlt : k < n
    · obtain ⟨gu, ou, rfl, hxk, A1, c1, hcu, hru, hcc⟩ := (hU.keep hKp'.2.1).at_ hlt
      have hrow := unitM_get n k hxk
      rw [hrow, unitRow_len] at hru hcu hcc
      have hcall := vector_any P A n c A1 c1 (unitRow n k) wr (by omega) hru
      have HM := Lib.hid hM
      have HK := Lib.hid hKp'
      have i1 : (0 : Int) ≤ (k : Int) := by omega
      have i2 : (k : Int) < (n : Int) := by omega
      clear hM hru hrow hKp'
      go_wp2_with fail
      refine hcall.mono ?_
      rintro e wE ⟨E1, cE, rfl, hE⟩
      have k7 := k6.below hE.b k6.lt
      have HE := Lib.hid hE
      have HMM := Lib.hid (HM.out.below hE.b)
      have HW := Lib.hid (HM.out.b.trans (hE.b.mono HM.out.b.size))
      have HEN : Hid (NumsL P (vecTo n (unitRow n k) n)) := Lib.hid (vecTo_nums (by omega) n _ (unitRow_nums hp _ _) n)
      have HLR : Hid (Tab P (pw n) (lmL P sq n (vecTo n (unitRow n k) n)) ∧ Tab P (pw n) (rmL P sq n (vecTo n (unitRow n k) n)) ∧ (lmL P sq n (vecTo n (unitRow n k) n)).length = pw n) := Lib.hid (by
       have hsl := HSL.out
       subst hsl
       rw [← unitV (sq := sq) (by omega) hp k]
       have h1 := trans_ok (show 0 < P by omega) (lcol_tab hp (Cl.vec (by omega) (unitRow sq.length k) : Cl P sq)) (lcol_len _ _) (pw_pos _)
       have h2 := trans_ok (show 0 < P by omega) (rcm_tab hp (Cl.vec (by omega) (unitRow sq.length k) : Cl P sq)) (rcm_len _ _) (pw_pos _)
       exact ⟨h1.1, h2.1, h1.2⟩)
      have HLT := Lib.hid HLR.out.1
      have HRT := Lib.hid HLR.out.2.1
      have HSUM : Hid (sumL P (lmL P sq n (vecTo n (unitRow n k) n)) (rmL P sq n (vecTo n (unitRow n k) n)) (-1) = ctrB P sq n k) := Lib.hid (by unfold sumL ctrB; rw [HLR.out.2.2])
      have hcc' : Hid (ctrTo P sq n (k + 1) = ctrTo P sq n k ++ ctrB P sq n k) := Lib.hid rfl
      have hmul : (k + 1) * pw n = k * pw n + pw n := Nat.succ_mul _ _
      have hsz : k * pw n ≤ 64 := Nat.le_trans (Nat.mul_le_mul (show k ≤ 4 by omega) hpw) (by decide)
      clear hcall q0 q1 k6 hE
      obtain ⟨q0, q1⟩ := k7.two
      go_wp2
      refine wp_obs 10 [[],[],[1],[],[],[3,4],[],[],[6,7],[1,2,3,4,5,6,7,8],[0,1,2,3,4,5,6,7,8,9],[0,1,2,3,4,5,6,7,8,9,10]] [VIs (.slice A' (k * pw n) c'), VIs (.agg #[.int .i64 P, .slice A n c]), VIs (.int .i64 (P)), VIs (.agg #[.int .i64 P, .slice A n c]), VIs (.slice E1 (pw n) cE), VMat wE (pw n) (lmL P sq n (vecTo n (unitRow n k) n)), VIs (.agg #[.int .i64 P, .slice A n c]), VIs (.slice E1 (pw n) cE), VMat wE (pw n) (rmL P sq n (vecTo n (unitRow n k) n)), VMat wE (pw n) (ctrB P sq n k)] (fun w' => Blk w' w.heap.size 26 #[.int .i64 P, .slice A n c] ∧ Below wE.heap.size wE w') (by kernel_rfl) (by kernel_rfl) (fun _ _ h hb => ⟨h.1.below hb h.1.lt, h.2.trans (hb.mono h.2.size)⟩) (⟨k7.drew, zG.drew⟩) (fun x => ?_)
      refine zS (fun w' hS hV K hK => ?_) ?_
      · obtain ⟨q0, q1⟩ := hS.1.two; go_simp; exact zO hK
      refine zS (fun w' hS hV K hK => ?_) ?_
      · obtain ⟨q0, q1⟩ := hS.1.two; go_simp; exact zO hK
      refine zS (fun w' hS hV K hK => ?_) ?_
      · have e1 := zQ hV 1; obtain ⟨q0, q1⟩ := hS.1.two; go_simp; refine (field_any _ _ _ _ _).mono ?_; rintro e v1 ⟨rfl, hb⟩; exact hK.out _ _ _ rfl rfl rfl hb
      refine zS (fun w' hS hV K hK => ?_) ?_
      · obtain ⟨q0, q1⟩ := hS.1.two; go_simp; exact zO hK
      refine zS (fun w' hS hV K hK => ?_) ?_
      · obtain ⟨q0, q1⟩ := hS.1.two; go_simp; exact zO hK
      refine zS (fun w' hS hV K hK => ?_) ?_
      · have e3 := zQ hV 3; have e4 := zQ hV 4; obtain ⟨q0, q1⟩ := hS.1.two; go_simp; refine (leftMatrix_any P A n c sq E1 cE (vecTo n (unitRow n k) n) _ hp hp2 (by omega) (ha.below (HW.out.trans (hS.2.mono HW.out.size))) HS.out (HE.out.rd.below hS.2) HEN.out HE.out.2.cap).mono ?_; rintro e v1 ⟨A2, c2, rfl, hM2⟩; exact hK.out _ _ _ rfl rfl ⟨_, _, rfl, hM2.after hS.2⟩ hM2.b
      refine zS (fun w' hS hV K hK => ?_) ?_
      · obtain ⟨q0, q1⟩ := hS.1.two; go_simp; exact zO hK
      refine zS (fun w' hS hV K hK => ?_) ?_
      · obtain ⟨q0, q1⟩ := hS.1.two; go_simp; exact zO hK
      refine zS (fun w' hS hV K hK => ?_) ?_
      · have e6 := zQ hV 6; have e7 := zQ hV 7; obtain ⟨q0, q1⟩ := hS.1.two; go_simp; refine (rightMatrix_any P A n c sq E1 cE (vecTo n (unitRow n k) n) _ hp hp2 (by omega) (ha.below (HW.out.trans (hS.2.mono HW.out.size))) HS.out (HE.out.rd.below hS.2) HEN.out HE.out.2.cap).mono ?_; rintro e v1 ⟨A2, c2, rfl, hM2⟩; exact hK.out _ _ _ rfl rfl ⟨_, _, rfl, hM2.after hS.2⟩ hM2.b
      refine zS (fun w' hS hV K hK => ?_) ?_
      · have e2 := zQ hV 2; obtain ⟨A5, c5, e5, h5⟩ := hV 5 (by decide); obtain ⟨A8, c8, e8, h8⟩ := hV 8 (by decide); obtain ⟨q0, q1⟩ := hS.1.two; go_simp; refine (sumG_any P _ (pw n) _ (lmL P sq n (vecTo n (unitRow n k) n)) _ _ (rmL P sq n (vecTo n (unitRow n k) n)) (-1) _ hp hp2 (by omega) h5.rd HLT.out h8.rd HRT.out (by omega) (by omega)).mono ?_; rintro e v1 ⟨A2, c2, rfl, hM2⟩; rw [HSUM.out] at hM2; exact hK.out _ _ _ rfl rfl ⟨_, _, rfl, hM2.after hS.2⟩ hM2.b
      refine fun w' hS hV => ?_
      have e0 := zT hV 0
      have e1 := zT hV 1
      have e2 := zT hV 2
      have e3 := zT hV 3
      have e4 := zT hV 4
      obtain ⟨A5, c5, e5, h5⟩ := hV 5 (by decide)
      have e6 := zT hV 6
      have e7 := zT hV 7
      obtain ⟨A8, c8, e8, h8⟩ := hV 8 (by decide)
      obtain ⟨A9, c9, e9, h9⟩ := hV 9 (by decide)
      simp only [e0, e1, e2, e3, e4, e5, e6, e7, e8, e9]
      clear e0 e1 e2 e3 e4 e5 e6 e7 e8 e9
      refine any_plain (j := 10) (by kernel_rfl) (Eq.trans (by simp only [zA, zB, zC]; exact rfl) rfl) rfl (fun K hK => ?_)
      refine wp_appRowsG w w' _ _ rfl A' (k * pw n) c' (ctrTo P sq n k) A9 (pw n) c9 (ctrB P sq n k) (MkII2.of_first HMM.out h9) (by omega) hpn (by rfl) (by rfl) ?_
      intro A20 c20 w20 hM20 hg20 hat20
      refine hK.out _ _ ?_
      simp only [Act.put, zD, zE, zF]
      refine any_one (j := 11) (by kernel_rfl) (Eq.trans (by simp only [zA, zB, zC]; exact rfl) rfl) (fun K hK => ?_)
      go_simp
      refine hK.out _ _ (wpAny_done (by kernel_rfl) ?_ _)
      have k8 := hS.1.grown hg20 ((HMM.out.below hS.2).ne_blk hS.1 (by decide))
      have hK8 := HK.out.step (n' := (k + 1) * pw n) (c' := c20) (HE.out.b.trans (hS.2.mono HE.out.b.size)) hg20 hat20
      clear hg20 hat20 hS q0 q1 k7
      go_wp2
      go_roundw
      case rel => exact ⟨k + 1, A20, c20, by omega, by go_num, by rw [hmul], by rw [hmul, hcc'.out]; exact hM20, hK8, k8⟩
      case measure => simp [intOf]; omega
    · obtain rfl : k = n := by omega
      have hrd := hM.rd
      have hbm := hM.b
      have hsz : k * pw k ≤ 64 := Nat.le_trans (Nat.mul_le_mul hn4 hpw) (by decide)
      have hker := fun w' (hb : Below wr.heap.size wr w') => kernel_any P A' (k * pw k) c' (ctrTo P sq k k) (pw k) w' HP (by omega) (by omega) (hrd.below hb) HCR.out
      obtain ⟨R, hR⟩ : ∃ R, R = ctrL P sq k := ⟨_, rfl⟩
      have hR' : kernL P (ctrTo P sq k k) (pw k) = R := hR.symm
      rw [← hR] at HOK
      rw [hR'] at hker
      have HKER := Lib.hid hker
      have hshl : IntKind.i64.wrap (2 ^ k) = (pw k : Int) := by rw [IntWalk.i64_left]; exact wrap_pw k (by omega)
      clear hM hrd hKp' hR hR' hker
      go_wp2
      refine wp_obs 9 [[],[0],[],[],[3],[3,4],[0,1,2,3,4,5],[0,1,2,3,4,5,6],[]] [VIs (.agg #[.int .i64 P, .slice A k c]), VIs (.int .i64 (P)), VIs (.slice A' (k * pw k) c'), VIs (.agg #[.int .i64 P, .slice A k c]), VIs (.int .i64 (k)), VIs (.int .i64 (pw k)), VMat wr R.length R, VMat wr R.length R, VIs (.int .i64 0)] (fun w' => Blk w' w.heap.size 26 #[.int .i64 P, .slice A k c] ∧ Below wr.heap.size wr w') (by kernel_rfl) (by kernel_rfl) (fun _ _ h hb => ⟨h.1.below hb h.1.lt, h.2.trans (hb.mono h.2.size)⟩) (⟨k6.drew, zG.drew⟩) (fun x => ?_)
      refine zS (fun w' hS hV K hK => ?_) ?_
      · obtain ⟨q0, q1⟩ := hS.1.two; go_simp; exact zO hK
      refine zS (fun w' hS hV K hK => ?_) ?_
      · have e0 := zQ hV 0; obtain ⟨q0, q1⟩ := hS.1.two; go_simp; refine (field_any _ _ _ _ _).mono ?_; rintro e v1 ⟨rfl, hb⟩; exact hK.out _ _ _ rfl rfl rfl hb
      refine zS (fun w' hS hV K hK => ?_) ?_
      · obtain ⟨q0, q1⟩ := hS.1.two; go_simp; exact zO hK
      refine zS (fun w' hS hV K hK => ?_) ?_
      · obtain ⟨q0, q1⟩ := hS.1.two; go_simp; exact zO hK
      refine zS (fun w' hS hV K hK => ?_) ?_
      · have e3 := zQ hV 3; obtain ⟨q0, q1⟩ := hS.1.two; go_simp; refine (dim_any _ _ _ _ _).mono ?_; rintro e v1 ⟨rfl, hb⟩; exact hK.out _ _ _ rfl rfl rfl hb
      refine zS (fun w' hS hV K hK => ?_) ?_
      · have e4 := zQ hV 4; obtain ⟨q0, q1⟩ := hS.1.two; go_simp; exact zO hK
      refine zS (fun w' hS hV K hK => ?_) ?_
      · have e1 := zQ hV 1; have e2 := zQ hV 2; have e5 := zQ hV 5; obtain ⟨q0, q1⟩ := hS.1.two; go_simp; refine (HKER.out _ hS.2).mono ?_; rintro e v1 ⟨A9, c9, rfl, hM⟩; exact hK.out _ _ _ rfl rfl ⟨_, _, rfl, hM.after hS.2⟩ hM.b
      refine zS (fun w' hS hV K hK => ?_) ?_
      · obtain ⟨A6, c6, e6, h6⟩ := hV 6 (by decide); obtain ⟨q0, q1⟩ := hS.1.two; go_simp; exact hK.out _ _ _ rfl rfl ⟨_, _, rfl, h6⟩ zG
      refine zS (fun w' hS hV K hK => ?_) ?_
      · obtain ⟨q0, q1⟩ := hS.1.two; go_simp; exact zO hK
      refine fun w' hS hV => ?_
      have e0 := zT hV 0
      have e1 := zT hV 1
      have e2 := zT hV 2
      have e3 := zT hV 3
      have e4 := zT hV 4
      have e5 := zT hV 5
      obtain ⟨A6, c6, e6, h6⟩ := hV 6 (by decide)
      obtain ⟨A7, c7, e7, h7⟩ := hV 7 (by decide)
      have e8 := zT hV 8
      simp only [e0, e1, e2, e3, e4, e5, e6, e7, e8]
      clear e0 e1 e2 e3 e4 e5 e6 e7 e8
      refine wpAny_done (by kernel_rfl) ?_ _
      go_wp2
      go_ret2
      exact aMat3 HOK.out (h7.after hbm)
 · obtain ⟨r, hr⟩ : ∃ r, r = codeA P sq [] := ⟨_, rfl⟩
   have HR := Lib.hid hr
   have HR0 := Lib.hid hr0
   have b0 : (r != 0) = true := code_ne (by rw [hr]; exact hr0)
   rw [← hr] at hreg
   clear hr hr0
   go_enter Tryz.func45, Tryz.ntmps45
   go_wp2_with fail
   refine hreg.mono ?_
   rintro e w2 ⟨rfl, hb2⟩
   have hB2 := hB0.trans (hb2.mono hB0.size)
   go_wp2
   go_ret2
   exact noMat3 (by rw [ctrR_bad HR0.out, HR.out]) hB2
theorem vecTo_unit {n i : Nat} (hi : i < n) : (List.replicate (pw n) (0 : Int)).set (2 ^ i) 1 = vecTo n (unitRow n i) n := by
 refine list_ext_getD 0 (by rw [List.length_set, List.length_replicate, vecTo_len]) fun m hm => ?_
 rw [List.length_set, List.length_replicate] at hm
 rw [vecTo_getD _ hm _ (Nat.le_refl _)]
 have e : (sumTo n fun k => if m = 2 ^ k then (unitRow n i).getD k 0 else 0) = if m = 2 ^ i then 1 else 0 := by
  rw [sumTo_one i hi fun k hk hne => by
   split
   · rw [unitRow_getD hk, if_neg fun e => hne e.symm]
   · rfl, unitRow_getD hi, if_pos rfl]
 rw [e]
 by_cases hmj : m = 2 ^ i
 · subst hmj; rw [if_pos rfl]; simp [List.getD_eq_getElem?_getD, hm]
 · rw [if_neg hmj]
   simp [List.getD_eq_getElem?_getD, List.getElem?_set, show ¬ 2 ^ i = m from fun e => hmj e.symm, List.getElem?_replicate, hm]
set_option maxHeartbeats 6400000 in
set_option maxRecDepth 8000 in
theorem specCentreBasis_any (P : Int) (A : Option Addr) (n c : Nat) (sq : List Int) (w : World) (hn : n ≤ 1048576) (ha : Rd w A n (ints sq)) :
    Calls Tryz.prog 46 #[.agg #[.int .i64 P, .slice A n c]] w fun e w' => ∃ (A' : Option Addr) (k c' : Nat), e = .returned (.tuple #[.slice A' k c', .int .i64 (ctrR P sq).2]) ∧ MkII w w' A' k c' (ctrR P sq).1 := by
 have hB0 : Below w.heap.size w (w.alloc (.cells #[.int .i64 P, .slice A n c] 26)) := zG.alloc (Nat.le_refl _) _
 have k0 : Blk (w.alloc (.cells #[.int .i64 P, .slice A n c] 26)) w.heap.size 26 #[.int .i64 P, .slice A n c] := Blk.new _ _ _
 have hreg := l09Code_any P A none n c 0 0 sq [] (w.alloc (.cells #[.int .i64 P, .slice A n c] 26)) hn (by omega) (ha.below hB0) ⟨[], Rd.nil _ _, rfl, fun k h => absurd h (by simp)⟩ (by simp)
 by_cases hr0 : codeA P sq [] = 0
 · rw [hr0] at hreg
   obtain ⟨hcM, h4⟩ := codeA_zero hr0
   obtain ⟨HP, hp, hp2, hd1, hd2, hs, -⟩ := codeM_spec3 hcM
   have hsl := ha.lenI
   have hn4 : n ≤ 4 := by omega
   have hn0 : 0 < n := by omega
   have hpw : pw n ≤ 16 := pw_le hn4
   have hpn := pw_pos n
   have HOK : Hid (ctrR P sq = (ctrL P sq n, 0)) := Lib.hid (by rw [ctrR_ok hr0, hsl])
   have HCR : Hid (Tab P (pw n) (ctrTo P sq n n)) := Lib.hid (by subst hsl; exact ctrTo_tab hp _)
   have HSL := Lib.hid hsl
   have hp13 := (isP_ge HP)
   have HS := Lib.hid hs
   clear hsl hs hd1 hd2 h4 hcM
   clear hr0
   have W1 : IntKind.i64.wrap (P - 1) = P - 1 := i64_fit _ (by omega) (by omega)
   go_enter Tryz.func46, Tryz.ntmps46
   go_wp2_with fail
   refine hreg.mono ?_
   rintro e w2 ⟨rfl, hb2⟩
   have hB2 := hB0.trans (hb2.mono hB0.size)
   have k2 := k0.below hb2 k0.lt
   clear k0 hreg hb2 hB0
   have k3 := k2.alloc (.cells #[] 24)
   have hM3 : MkII w (w2.alloc (.cells #[] 24)) (some ⟨w2.heap.size, 0, none⟩) 0 0 [] := MkII.empty hB2
   clear hB2 k2
   go_wp2
   go_loopw [5, 6] (fun out q wr => ∃ (i : Nat) (A' : Option Addr) (c' : Nat), i ≤ n ∧ q = .int .i64 i ∧ out = .slice A' (i * pw n) c' ∧ MkII w wr A' (i * pw n) c' (ctrTo P sq n i) ∧ Blk wr w.heap.size 26 #[.int .i64 P, .slice A n c]) (fun _ q _ => n - (intOf q).toNat)
   case atStart => exact ⟨0, _, _, by omega, rfl, by rw [Nat.zero_mul], by rw [Nat.zero_mul]; exact hM3, k3⟩
   case round =>
    obtain ⟨i, A', c', hi, rfl, rfl, hM, k6⟩ := hrel
    clear hM3 k3
    obtain ⟨q0, q1⟩ := k6.two
    by_cases hlt : i < n
    · have hz := l04Zero_any P A n c wr (by omega)
      have hmul : (i + 1) * pw n = i * pw n + pw n := Nat.succ_mul _ _
      have hsz : i * pw n ≤ 64 := Nat.le_trans (Nat.mul_le_mul (show i ≤ 4 by omega) hpw) (by decide)
      go_wp2_with fail
      refine hz.mono ?_
      rintro e w4 ⟨A9, c9, rfl, hM9⟩
      have k5 := k6.below hM9.b k6.lt
      rcases hM9.2.form with ⟨_, hz0⟩ | ⟨g9, rfl, hg9, _⟩
      · omega
      have h2 := two_lt hlt
      have hset := (hM9.set (2 ^ i) (.int .i64 1)).1
      rw [ints_set, vecTo_unit hlt] at hset
      have hw : wrap64 (2 ^ i) = ((2 ^ i : Nat) : Int) := wrap_pw i (by omega)
      have HEN : Hid (NumsL P (vecTo n (unitRow n i) n)) := Lib.hid (vecTo_nums (by omega) n _ (unitRow_nums hp _ _) n)
      have HLR : Hid (Tab P (pw n) (lmL P sq n (vecTo n (unitRow n i) n)) ∧ Tab P (pw n) (rmL P sq n (vecTo n (unitRow n i) n)) ∧ (lmL P sq n (vecTo n (unitRow n i) n)).length = pw n ∧ (rmL P sq n (vecTo n (unitRow n i) n)).length = pw n) := Lib.hid (by
       have hsl := HSL.out
       subst hsl
       rw [← unitV (sq := sq) (by omega) hp i]
       have h1 := trans_ok (show 0 < P by omega) (lcol_tab hp (Cl.vec (by omega) (unitRow sq.length i) : Cl P sq)) (lcol_len _ _) (pw_pos _)
       have h2 := trans_ok (show 0 < P by omega) (rcm_tab hp (Cl.vec (by omega) (unitRow sq.length i) : Cl P sq)) (rcm_len _ _) (pw_pos _)
       exact ⟨h1.1, h2.1, h1.2, h2.2⟩)
      obtain ⟨qi, hqi⟩ : ∃ q : Nat, q = 2 ^ i := ⟨_, rfl⟩
      rw [← hqi] at h2 hset hw
      obtain ⟨hoc, hof⟩ := mkI_at hM9 h2
      have HE : Hid (MkI wr (w4.setCell ⟨g9, qi, none⟩ (.int .i64 1)) (some ⟨g9, 0, none⟩) (pw n) c9 (vecTo n (unitRow n i) n)) := Lib.hid hset
      have k7 := k5.far (p := ⟨g9, qi, none⟩) (show w.heap.size ≠ g9 by have := k6.lt; omega) (.int .i64 1)
      have HM := Lib.hid hM
      clear hqi hset hM9 k5 hM q0 q1 hz
      go_wp2
      obtain ⟨wE, hwE⟩ : ∃ W, W = w4.setCell ⟨g9, qi, none⟩ (.int .i64 1) := ⟨_, rfl⟩
      rw [← hwE] at HE k7 ⊢
      have HMM := Lib.hid (HM.out.below HE.out.b)
      have HW := Lib.hid (HM.out.b.trans (HE.out.b.mono HM.out.b.size))
      clear hwE hoc hof HM k6 hw h2
      obtain ⟨q0, q1⟩ := k7.two
      refine wp_obs 8 [[],[],[0,1],[],[],[3,4],[0,1,2],[3,4,5]] [VIs (.agg #[.int .i64 P, .slice A n c]), VIs (.slice (some ⟨g9, 0, none⟩) (pw n) c9), VMat wE (pw n) (lmL P sq n (vecTo n (unitRow n i) n)), VIs (.agg #[.int .i64 P, .slice A n c]), VIs (.slice (some ⟨g9, 0, none⟩) (pw n) c9), VMat wE (pw n) (rmL P sq n (vecTo n (unitRow n i) n)), VMat wE (pw n) (lmL P sq n (vecTo n (unitRow n i) n)), VMat wE (pw n) (rmL P sq n (vecTo n (unitRow n i) n))] (fun w' => Blk w' w.heap.size 26 #[.int .i64 P, .slice A n c] ∧ Below wE.heap.size wE w') (by kernel_rfl) (by kernel_rfl) (fun _ _ h hb => ⟨h.1.below hb h.1.lt, h.2.trans (hb.mono h.2.size)⟩) (⟨k7.drew, zG.drew⟩) (fun x => ?_)
      refine zS (fun w' hS hV K hK => ?_) ?_
      · obtain ⟨q0, q1⟩ := hS.1.two; go_simp; exact zO hK
      refine zS (fun w' hS hV K hK => ?_) ?_
      · obtain ⟨q0, q1⟩ := hS.1.two; go_simp; exact zO hK
      refine zS (fun w' hS hV K hK => ?_) ?_
      · have e0 := zQ hV 0; have e1 := zQ hV 1; obtain ⟨q0, q1⟩ := hS.1.two; go_simp; refine (l04Left_any P A n c sq (some ⟨g9, 0, none⟩) c9 (vecTo n (unitRow n i) n) _ hp hp2 (by omega) (ha.below (HW.out.trans (hS.2.mono HW.out.size))) HS.out (HE.out.rd.below hS.2) HEN.out HE.out.2.cap).mono ?_; rintro e v1 ⟨A2, c2, rfl, hM2⟩; exact hK.out _ _ _ rfl rfl ⟨_, _, rfl, hM2.after hS.2⟩ hM2.b
      refine zS (fun w' hS hV K hK => ?_) ?_
      · obtain ⟨q0, q1⟩ := hS.1.two; go_simp; exact zO hK
      refine zS (fun w' hS hV K hK => ?_) ?_
      · obtain ⟨q0, q1⟩ := hS.1.two; go_simp; exact zO hK
      refine zS (fun w' hS hV K hK => ?_) ?_
      · have e3 := zQ hV 3; have e4 := zQ hV 4; obtain ⟨q0, q1⟩ := hS.1.two; go_simp; refine (l09Right_any P A n c sq (some ⟨g9, 0, none⟩) c9 (vecTo n (unitRow n i) n) _ hp hp2 (by omega) (ha.below (HW.out.trans (hS.2.mono HW.out.size))) HS.out (HE.out.rd.below hS.2) HEN.out HE.out.2.cap).mono ?_; rintro e v1 ⟨A2, c2, rfl, hM2⟩; exact hK.out _ _ _ rfl rfl ⟨_, _, rfl, hM2.after hS.2⟩ hM2.b
      refine zS (fun w' hS hV K hK => ?_) ?_
      · obtain ⟨A2, c2, e2, h2⟩ := hV 2 (by decide); obtain ⟨q0, q1⟩ := hS.1.two; go_simp; exact hK.out _ _ _ rfl rfl ⟨_, _, rfl, h2⟩ zG
      refine zS (fun w' hS hV K hK => ?_) ?_
      · obtain ⟨A5, c5, e5, h5⟩ := hV 5 (by decide); obtain ⟨q0, q1⟩ := hS.1.two; go_simp; exact hK.out _ _ _ rfl rfl ⟨_, _, rfl, h5⟩ zG
      refine fun w' hS hV => ?_
      have e0 := zT hV 0
      have e1 := zT hV 1
      obtain ⟨A2, c2, e2, h2⟩ := hV 2 (by decide)
      have e3 := zT hV 3
      have e4 := zT hV 4
      obtain ⟨A5, c5, e5, h5⟩ := hV 5 (by decide)
      obtain ⟨A6, c6, e6, h6⟩ := hV 6 (by decide)
      obtain ⟨A7, c7, e7, h7⟩ := hV 7 (by decide)
      simp only [e0, e1, e2, e3, e4, e5, e6, e7]
      clear e0 e1 e2 e3 e4 e5 e6 e7
      refine wpAny_done (by kernel_rfl) ?_ _
      obtain ⟨wF, hwF⟩ : ∃ W, W = w' := ⟨_, rfl⟩
      have hL : MkII wE wF A6 (pw n) c6 (lmL P sq n (vecTo n (unitRow n i) n)) := hwF ▸ h6
      have hR : MkII wE wF A7 (pw n) c7 (rmL P sq n (vecTo n (unitRow n i) n)) := hwF ▸ h7
      have k8 : Blk wF w.heap.size 26 #[.int .i64 P, .slice A n c] := hwF ▸ hS.1
      have hM8 := HMM.out.below (hwF ▸ hS.2 : Below wE.heap.size wE wF)
      have hKp : Keeps wE wF wF (.slice A' (i * pw n) c') := ⟨Nat.le_refl _, fun _ _ _ => rfl, fun gb e => .inl (by
       obtain ⟨_, hm, _⟩ := HMM.out
       exact (World.ownsRow.lt hm.2 gb e).2)⟩
      rw [← hwF]
      clear hwF hS k7 q0 q1 HMM HW
      go_wp2
      go_loopw [5, 10] (fun out q wr => ∃ (r : Nat) (A' : Option Addr) (c' : Nat), r ≤ pw n ∧ q = .int .i64 r ∧ out = .slice A' (i * pw n + r) c' ∧ MkII w wr A' (i * pw n + r) c' (ctrTo P sq n i ++ (ctrB P sq n i).take r) ∧ Keeps wE wF wr (.slice A' (i * pw n + r) c') ∧ Blk wr w.heap.size 26 #[.int .i64 P, .slice A n c]) (fun _ q _ => pw n - (intOf q).toNat)
      case atStart => exact ⟨0, A', c', by omega, rfl, rfl, by rw [List.take_zero, List.append_nil]; exact hM8, hKp, k8⟩
      case round =>
       obtain ⟨r, A', c', hr, rfl, rfl, hM, hK, k9⟩ := hrel
       clear hM8 hKp k8
       obtain ⟨q0, q1⟩ := k9.two
       by_cases hrl : r < pw n
       · obtain ⟨gl, ol, el, hxl, L1, l1, hcl, hl1, hccl⟩ := (hL.keep hK.2.1).at_ hrl
         obtain ⟨gr, or_, er, hxr, R1, r1, hcr, hr1, hccr⟩ := (hR.keep hK.2.1).at_ hrl
         have hll := HLR.out.1 _ (List.getElem_mem hxl)
         have hrr := HLR.out.2.1 _ (List.getElem_mem hxr)
         rw [hll.1] at hcl hl1
         rw [hrr.1] at hcr hr1
         have HGL : Hid ((lmL P sq n (vecTo n (unitRow n i) n)).getD r [] = (lmL P sq n (vecTo n (unitRow n i) n))[r]) := Lib.hid (getD_of_lt [] hxl)
         have HGR : Hid ((rmL P sq n (vecTo n (unitRow n i) n)).getD r [] = (rmL P sq n (vecTo n (unitRow n i) n))[r]) := Lib.hid (getD_of_lt [] hxr)
         obtain ⟨LX, hLX⟩ : ∃ X, X = (lmL P sq n (vecTo n (unitRow n i) n))[r] := ⟨_, rfl⟩
         obtain ⟨RX, hRX⟩ : ∃ X, X = (rmL P sq n (vecTo n (unitRow n i) n))[r] := ⟨_, rfl⟩
         rw [← hLX] at hl1 hll HGL
         rw [← hRX] at hr1 hrr HGR
         have HPL := Lib.hid fun (w' : World) (h : Below wr.heap.size wr w') => l02Plus_any P L1 (pw n) l1 R1 (pw n) r1 (P - 1) LX RX w' hp hp2 (by omega) (Nat.le_refl _) (hl1.below h) hll.2 (hr1.below h) hrr.2 (by omega) (by omega)
         obtain ⟨Y, hY⟩ : ∃ Y, Y = plusL P LX RX (P - 1) := ⟨_, rfl⟩
         have HAP : Hid ((ctrB P sq n i).take (r + 1) = (ctrB P sq n i).take r ++ [Y]) := Lib.hid (by
          have hbl : (ctrB P sq n i).length = pw n := tab_len _ _
          have hY2 : plusL P LX RX (P - 1) = plusL P LX RX (-1) := plusL_mod P LX RX (by rw [show P - 1 = -1 + P * 1 by omega, Int.add_mul_emod_self_left])
          rw [List.take_succ_eq_append_getElem (by omega), hY, hY2, ← getD_of_lt [] (by omega)]
          unfold ctrB
          rw [tab_getD hrl, HGL.out, HGR.out])
         rw [← hY] at HPL
         have HCL := Lib.hid fun (w' : World) (h : Below wr.heap.size wr w') => (h.cell (World.block_lt_of_cell? _ _ hcl)).trans hcl
         have HCR2 := Lib.hid fun (w' : World) (h : Below wr.heap.size wr w') => (h.cell (World.block_lt_of_cell? _ _ hcr)).trans hcr
         have HMI := Lib.hid hM
         have HK := Lib.hid hK
         have i1 : (0 : Int) ≤ (r : Int) := by omega
         have i2 : (r : Int) < ((pw n : Nat) : Int) := by omega
         have HEL := Lib.hid el
         have HER := Lib.hid er
         clear hcl hcr hl1 hr1 hll hrr hLX hRX hxl hxr hY hM hK hccl hccr
         cases el
         cases er
         go_wp2
         refine wp_obs 16 [[],[],[1],[],[],[3,4],[3,4,5],[],[],[7,8],[7,8,9],[],[11],[11,12],[1,2,3,4,5,6,7,8,9,10,11,12,13],[1,2,3,4,5,6,7,8,9,10,11,12,13,14],[0,1,2,3,4,5,6,7,8,9,10,11,12,13,14,15],[0,1,2,3,4,5,6,7,8,9,10,11,12,13,14,15,16]] [VIs (.slice A' (i * pw n + r) c'), VIs (.pointer (some ⟨w.heap.size, 0, none⟩)), VIs (.int .i64 (P)), VIs (.slice (some ⟨gl, ol, none⟩) (pw n) c6), VIs (.int .i64 (r)), VIs (.pointer (some ⟨gl, ol + r, none⟩)), VIs (.slice L1 (pw n) l1), VIs (.slice (some ⟨gr, or_, none⟩) (pw n) c7), VIs (.int .i64 (r)), VIs (.pointer (some ⟨gr, or_ + r, none⟩)), VIs (.slice R1 (pw n) r1), VIs (.pointer (some ⟨w.heap.size, 0, none⟩)), VIs (.int .i64 (P)), VIs (.int .i64 (P - 1)), VSl wr (pw n) Y, VNew wr (pw n) Y] (fun w' => Blk w' w.heap.size 26 #[.int .i64 P, .slice A n c] ∧ Below wr.heap.size wr w') (by kernel_rfl) (by kernel_rfl) (fun _ _ h hb => ⟨h.1.below hb h.1.lt, h.2.trans (hb.mono h.2.size)⟩) (⟨k9.drew, zG.drew⟩) (fun x => ?_)
         refine zS (fun w' hS hV K hK => ?_) ?_
         · obtain ⟨q0, q1⟩ := hS.1.two; have z1 := HCL.out _ hS.2; have z2 := HCR2.out _ hS.2; go_simp; exact zO hK
         refine zS (fun w' hS hV K hK => ?_) ?_
         · obtain ⟨q0, q1⟩ := hS.1.two; have z1 := HCL.out _ hS.2; have z2 := HCR2.out _ hS.2; go_simp; exact zO hK
         refine zS (fun w' hS hV K hK => ?_) ?_
         · have e1 := zQ hV 1; obtain ⟨q0, q1⟩ := hS.1.two; have z1 := HCL.out _ hS.2; have z2 := HCR2.out _ hS.2; go_simp; exact zO hK
         refine zS (fun w' hS hV K hK => ?_) ?_
         · obtain ⟨q0, q1⟩ := hS.1.two; have z1 := HCL.out _ hS.2; have z2 := HCR2.out _ hS.2; go_simp; exact zO hK
         refine zS (fun w' hS hV K hK => ?_) ?_
         · obtain ⟨q0, q1⟩ := hS.1.two; have z1 := HCL.out _ hS.2; have z2 := HCR2.out _ hS.2; go_simp; exact zO hK
         refine zS (fun w' hS hV K hK => ?_) ?_
         · have e3 := zQ hV 3; have e4 := zQ hV 4; obtain ⟨q0, q1⟩ := hS.1.two; have z1 := HCL.out _ hS.2; have z2 := HCR2.out _ hS.2; go_simp; exact zO hK
         refine zS (fun w' hS hV K hK => ?_) ?_
         · have e5 := zQ hV 5; obtain ⟨q0, q1⟩ := hS.1.two; have z1 := HCL.out _ hS.2; have z2 := HCR2.out _ hS.2; go_simp; exact zO hK
         refine zS (fun w' hS hV K hK => ?_) ?_
         · obtain ⟨q0, q1⟩ := hS.1.two; have z1 := HCL.out _ hS.2; have z2 := HCR2.out _ hS.2; go_simp; exact zO hK
         refine zS (fun w' hS hV K hK => ?_) ?_
         · obtain ⟨q0, q1⟩ := hS.1.two; have z1 := HCL.out _ hS.2; have z2 := HCR2.out _ hS.2; go_simp; exact zO hK
         refine zS (fun w' hS hV K hK => ?_) ?_
         · have e7 := zQ hV 7; have e8 := zQ hV 8; obtain ⟨q0, q1⟩ := hS.1.two; have z1 := HCL.out _ hS.2; have z2 := HCR2.out _ hS.2; go_simp; exact zO hK
         refine zS (fun w' hS hV K hK => ?_) ?_
         · have e9 := zQ hV 9; obtain ⟨q0, q1⟩ := hS.1.two; have z1 := HCL.out _ hS.2; have z2 := HCR2.out _ hS.2; go_simp; exact zO hK
         refine zS (fun w' hS hV K hK => ?_) ?_
         · obtain ⟨q0, q1⟩ := hS.1.two; have z1 := HCL.out _ hS.2; have z2 := HCR2.out _ hS.2; go_simp; exact zO hK
         refine zS (fun w' hS hV K hK => ?_) ?_
         · have e11 := zQ hV 11; obtain ⟨q0, q1⟩ := hS.1.two; have z1 := HCL.out _ hS.2; have z2 := HCR2.out _ hS.2; go_simp; exact zO hK
         refine zS (fun w' hS hV K hK => ?_) ?_
         · have e12 := zQ hV 12; obtain ⟨q0, q1⟩ := hS.1.two; have z1 := HCL.out _ hS.2; have z2 := HCR2.out _ hS.2; go_simp; exact zO hK
         refine zS (fun w' hS hV K hK => ?_) ?_
         · have e2 := zQ hV 2; have e6 := zQ hV 6; have e10 := zQ hV 10; have e13 := zQ hV 13; obtain ⟨q0, q1⟩ := hS.1.two; have z1 := HCL.out _ hS.2; have z2 := HCR2.out _ hS.2; go_simp; refine (HPL.out _ hS.2).mono ?_; rintro e v1 ⟨A9, c9, rfl, hM⟩; exact hK.out _ _ _ rfl rfl ⟨_, _, rfl, hM.after hS.2⟩ hM.b
         refine zS (fun w' hS hV K hK => ?_) ?_
         · obtain ⟨A14, c14, e14, h14⟩ := hV 14 (by decide); obtain ⟨q0, q1⟩ := hS.1.two; have z1 := HCL.out _ hS.2; have z2 := HCR2.out _ hS.2; go_simp; exact hK.out _ _ _ rfl rfl ⟨_, _, _, rfl, Blk.new _ _ _, h14.below (zG.alloc (Nat.le_refl _) _)⟩ (zG.alloc (Nat.le_refl _) _)
         refine fun w' hS hV => ?_
         have e0 := zT hV 0
         have e1 := zT hV 1
         have e2 := zT hV 2
         have e3 := zT hV 3
         have e4 := zT hV 4
         have e5 := zT hV 5
         have e6 := zT hV 6
         have e7 := zT hV 7
         have e8 := zT hV 8
         have e9 := zT hV 9
         have e10 := zT hV 10
         have e11 := zT hV 11
         have e12 := zT hV 12
         have e13 := zT hV 13
         obtain ⟨A14, c14, e14, h14⟩ := hV 14 (by decide)
         obtain ⟨g15, A15, c15, e15, b15, h15⟩ := hV 15 (by decide)
         simp only [e0, e1, e2, e3, e4, e5, e6, e7, e8, e9, e10, e11, e12, e13, e14, e15]
         clear e0 e1 e2 e3 e4 e5 e6 e7 e8 e9 e10 e11 e12 e13 e14 e15
         refine any_plain (j := 16) (by kernel_rfl) (Eq.trans (by simp only [zA, zB, zC]; exact rfl) rfl) rfl (fun K hK => ?_)
         refine wp_appRow w wr w' _ _ rfl A' (i * pw n + r) c' _ A15 (pw n) c15 _ HMI.out h15 (by omega) g15 b15 (by rfl) (by rfl) ?_
         intro A20 c20 w20 hM20 hg20 hat20
         refine hK.out _ _ ?_
         simp only [Act.put, zD, zE, zF]
         refine any_one (j := 17) (by kernel_rfl) (Eq.trans (by simp only [zA, zB, zC]; exact rfl) rfl) (fun K hK => ?_)
         go_simp
         refine hK.out _ _ (wpAny_done (by kernel_rfl) ?_ _)
         have k10 := hS.1.grown hg20 ((HMI.out.below hS.2).ne_blk hS.1 (by decide))
         have hK20 := HK.out.step (n' := i * pw n + (r + 1)) (c' := c20) hS.2 hg20 hat20
         clear hg20 hat20 hS k9 q0 q1
         go_wp2
         go_roundw
         case rel => exact ⟨r + 1, A20, c20, by omega, by go_num, rfl, by rw [HAP.out, ← List.append_assoc]; exact hM20, hK20, k10⟩
         case measure => simp [intOf]; omega
       · obtain rfl : r = pw n := by omega
         have hfull : Hid (ctrTo P sq n (i + 1) = ctrTo P sq n i ++ (ctrB P sq n i).take (pw n)) := Lib.hid (by rw [List.take_of_length_le (by rw [show (ctrB P sq n i).length = pw n from tab_len _ _]; omega)]; rfl)
         go_wp2
         go_roundw
         case rel => exact ⟨i + 1, A', c', by omega, by go_num, by rw [hmul], by rw [hmul, hfull.out]; exact hM, k9⟩
         case measure => simp [intOf]; omega
    · obtain rfl : i = n := by omega
      have hsz : i * pw i ≤ 64 := Nat.le_trans (Nat.mul_le_mul hn4 hpw) (by decide)
      have hps : 0 < i * pw i := Nat.mul_pos hn0 hpn
      have hker := l02Kernel_any P A' (i * pw i) c' (ctrTo P sq i i) (pw i) wr HP hps (by omega) (by omega) hM.rd HCR.out
      have hbm := hM.b
      obtain ⟨R, hR⟩ : ∃ R, R = ctrL P sq i := ⟨_, rfl⟩
      have hR' : kernL P (ctrTo P sq i i) (pw i) = R := hR.symm
      rw [← hR] at HOK
      rw [hR'] at hker
      clear hM hR hR'
      go_wp2_with fail
      refine hker.mono ?_
      rintro e w7 ⟨A7, c7, rfl, hM7⟩
      have hM9 := hM7.after hbm
      go_wp2
      go_ret2
      exact aMat3 HOK.out hM9
 · obtain ⟨r, hr⟩ : ∃ r, r = codeA P sq [] := ⟨_, rfl⟩
   have HR := Lib.hid hr
   have HR0 := Lib.hid hr0
   have b0 : (r != 0) = true := code_ne (by rw [hr]; exact hr0)
   have b1 : (r == 0) = false := by simpa using b0
   rw [← hr] at hreg
   clear hr hr0
   go_enter Tryz.func46, Tryz.ntmps46
   go_wp2_with fail
   refine hreg.mono ?_
   rintro e w2 ⟨rfl, hb2⟩
   have hB2 := hB0.trans (hb2.mono hB0.size)
   go_wp2
   go_ret2
   exact noMat3 (by rw [ctrR_bad HR0.out, HR.out]) hB2
/-- Does it commute with all vectors? -/
def isCen (P : Int) (sq : List Int) (n : Nat) (xs : List Int) : Bool := (List.range n).all fun i => zeroL (brkL P sq n xs (vecTo n (unitRow n i) n))
/-- IsCentral. -/
def icR (P : Int) (sq xs : List Int) : Bool × Int := if codeA P sq [xs] = 0 then (isCen P sq sq.length xs, 0) else (false, codeA P sq [xs])
theorem icR_ok {P : Int} {sq xs : List Int} (h : codeA P sq [xs] = 0) : icR P sq xs = (isCen P sq sq.length xs, 0) := by unfold icR; rw [if_pos h]
theorem icR_bad {P : Int} {sq xs : List Int} (h : ¬ codeA P sq [xs] = 0) : icR P sq xs = (false, codeA P sq [xs]) := by unfold icR; rw [if_neg h]
theorem isCen_no {P : Int} {sq xs : List Int} {n i : Nat} (hi : i < n) (h : zeroL (brkL P sq n xs (vecTo n (unitRow n i) n)) = false) : isCen P sq n xs = false := by
 unfold isCen
 rw [← Bool.not_eq_true, List.all_eq_true]
 intro hh
 rw [hh i (List.mem_range.2 hi)] at h
 cases h
theorem isCen_yes {P : Int} {sq xs : List Int} {n : Nat} (h : ∀ i, i < n → zeroL (brkL P sq n xs (vecTo n (unitRow n i) n)) = true) : isCen P sq n xs = true := by
 unfold isCen
 rw [List.all_eq_true]
 exact fun i hi => h i (List.mem_range.1 hi)
theorem zeroL_at (xs : List Int) : zeroL xs = true ↔ ∀ i, i < xs.length → xs.getD i 0 = 0 := by
 unfold zeroL
 rw [beq_iff_eq]
 constructor
 · intro h i hi; exact leadL_before xs i (by omega)
 · exact fun h => leadL_eq xs xs.length h (.inl rfl)
theorem firstL_zero (xs : List Int) : decide (0 ≤ firstL xs) = !(zeroL xs) := by
 unfold firstL zeroL
 have := leadL_le xs
 by_cases h : leadL xs < xs.length
 · rw [if_pos h, beq_eq_false_iff_ne.2 (by omega)]; simp
 · rw [if_neg h, beq_iff_eq.2 (by omega)]; simp
theorem Cl.zero_iff {p : Int} {sq : List Int} (x : Cl p sq) : zeroL x.l = true ↔ x = Cl.zero x.pos := by
 rw [zeroL_at, Cl.len]
 constructor
 · intro h
   refine Cl.same fun m hm => ?_
   rw [Cl.zero_co x.pos hm]
   show x.co m % p = 0
   rw [show x.co m = 0 from h m hm, Int.zero_emod]
 · intro h i hi
   have := congrArg (fun y : Cl p sq => y.co i % p) h
   rw [Cl.zero_co x.pos hi, Cl.co_mod] at this
   exact this
theorem zero_brk {P : Int} {sq xs ys : List Int} (hp : 0 < P) (hx : xs.length = pw sq.length) (hxn : NumsL P xs) (hy : ys.length = pw sq.length) (hyn : NumsL P ys) : zeroL (brkL P sq sq.length ys xs) = zeroL (brkL P sq sq.length xs ys) := by
 obtain ⟨X, hX⟩ : ∃ X : Cl P sq, X.l = xs := ⟨⟨xs, hx, hxn, hp⟩, rfl⟩
 obtain ⟨Y, hY⟩ : ∃ Y : Cl P sq, Y.l = ys := ⟨⟨ys, hy, hyn, hp⟩, rfl⟩
 rw [← hX, ← hY, ← Cl.brk_l, ← Cl.brk_l, Bool.eq_iff_iff, Cl.zero_iff, Cl.zero_iff]
 have key : ∀ a b : Cl P sq, Cl.brk a b = Cl.zero hp → Cl.brk b a = Cl.zero hp := fun a b h => by
  rw [Cl.brk_anti, h, ← Cl.zero_sm (Cl.one hp), Cl.sm_sm, Int.mul_zero]
 exact ⟨key _ _, key _ _⟩
/-- What is central commutes. -/
theorem cen_comm {P : Int} {sq : List Int} (hp : 2 ≤ P) (z : Cl P sq) : isCen P sq sq.length z.l = true ↔ ∀ i, i < sq.length → Cl.vec (by omega) (unitRow sq.length i) * z = z * Cl.vec (by omega) (unitRow sq.length i) := by
 have hp0 : 0 < P := by omega
 unfold isCen
 rw [List.all_eq_true]
 have key : ∀ i, (zeroL (brkL P sq sq.length z.l (vecTo sq.length (unitRow sq.length i) sq.length)) = true ↔ Cl.vec hp0 (unitRow sq.length i) * z = z * Cl.vec hp0 (unitRow sq.length i)) := fun i => by
  rw [← unitV (sq := sq) hp0 hp i, ← Cl.brk_l, Cl.zero_iff]
  constructor
  · intro h
    have h2 : z * Cl.vec hp0 (unitRow sq.length i) + (-1 : Int) * (Cl.vec hp0 (unitRow sq.length i) * z) = Cl.zero hp0 := h
    have h3 := Cl.move h2
    rw [show (- -1 : Int) = 1 by rfl, Cl.one_sm, Cl.add_comm, Cl.add_zero] at h3
    exact h3.symm
  · intro h
    show z * Cl.vec hp0 (unitRow sq.length i) + (-1 : Int) * (Cl.vec hp0 (unitRow sq.length i) * z) = Cl.zero hp0
    rw [h, Cl.add_comm, Cl.gone]
 exact ⟨fun h i hi => (key i).1 (h i (List.mem_range.2 hi)), fun h i hi => (key i).2 (h i (List.mem_range.1 hi))⟩
set_option maxHeartbeats 6400000 in
set_option maxRecDepth 8000 in
theorem IsCentral_any (P : Int) (A : Option Addr) (n c : Nat) (sq : List Int) (X : Option Addr) (m cx : Nat) (xs : List Int) (w : World) (hn : n ≤ 1048576) (hm : m ≤ 1048576) (ha : Rd w A n (ints sq)) (hx : Rd w X m (ints xs)) (hcx : m ≤ cx) :
    Calls Tryz.prog 47 #[.agg #[.int .i64 P, .slice A n c], .slice X m cx] w fun e w' => e = .returned (.tuple #[.bool (icR P sq xs).1, .int .i64 (icR P sq xs).2]) ∧ Below w.heap.size w w' := by
 have hB0 : Below w.heap.size w (w.alloc (.cells #[.int .i64 P, .slice A n c] 26)) := zG.alloc (Nat.le_refl _) _
 have k0 : Blk (w.alloc (.cells #[.int .i64 P, .slice A n c] 26)) w.heap.size 26 #[.int .i64 P, .slice A n c] := Blk.new _ _ _
 have hB1 : Below w.heap.size w ((w.alloc (.cells #[.int .i64 P, .slice A n c] 26)).alloc (.cells #[.slice X m cx] 24)) := hB0.alloc (by simp) _
 have k1 : Blk ((w.alloc (.cells #[.int .i64 P, .slice A n c] 26)).alloc (.cells #[.slice X m cx] 24)) w.heap.size 26 #[.int .i64 P, .slice A n c] := k0.alloc _
 have hreg := checkAlgebra_any P A (some ⟨w.heap.size + 1, 0, none⟩) n c 1 1 sq [xs] ((w.alloc (.cells #[.int .i64 P, .slice A n c] 26)).alloc (.cells #[.slice X m cx] 24)) hn (by omega) (ha.below hB1) (rdII_one' (Blk.newAt3 (by simp)) (hx.below hB1) hcx) (all_one (by rw [hx.lenI]; exact hm))
 by_cases hr0 : codeA P sq [xs] = 0
 · rw [hr0] at hreg
   obtain ⟨hcM, h4⟩ := codeA_zero hr0
   obtain ⟨HP, hp, hp2, hd1, hd2, hs, hms⟩ := codeM_spec3 hcM
   obtain ⟨hx1, hxs⟩ := hms xs (by simp)
   have hsl := ha.lenI
   have hmn : m = pw n := by rw [← hx.lenI, hx1, hsl]
   subst hmn
   have hn4 : n ≤ 4 := by omega
   have hpw : pw n ≤ 16 := pw_le hn4
   have hpn := pw_pos n
   have HOK : Hid (icR P sq xs = (isCen P sq n xs, 0)) := Lib.hid (by rw [icR_ok hr0, hsl])
   have HZB : Hid (∀ ys : List Int, ys.length = pw n → NumsL P ys → zeroL (brkL P sq n ys xs) = zeroL (brkL P sq n xs ys)) := Lib.hid (by subst hsl; exact fun ys h1 h2 => zero_brk (by omega) hx1 hxs h1 h2)
   have HS := Lib.hid hs
   have HXS := Lib.hid hxs
   clear hsl hs hxs hx1 hms hd1 hd2 h4 hcM hr0
   go_enter Tryz.func47, Tryz.ntmps47
   go_wp2_with fail
   refine hreg.mono ?_
   rintro e w2 ⟨rfl, hb2⟩
   have hB2 := hB1.trans (hb2.mono hB1.size)
   have k2 := k1.below hb2 k1.lt
   clear k0 k1 hreg hb2 hB0 hB1
   obtain ⟨q0, q1⟩ := k2.two
   go_wp2_with fail
   refine (dim_any _ _ _ _ _).mono ?_
   rintro e w4 ⟨rfl, hb4⟩
   have hB4 := hB2.trans (hb4.mono hB2.size)
   have k4 := k2.below hb4 k2.lt
   clear k2 hb4 hB2 q0 q1
   obtain ⟨q0, q1⟩ := k4.two
   go_wp2_with fail
   refine (unit_any n w4 (by omega)).mono ?_
   rintro e w5 ⟨U, cU, rfl, hU⟩
   have k5 := k4.below hU.b k4.lt
   have hB5 := hB4.trans (hU.b.mono hB4.size)
   clear k4 hB4 q0 q1
   go_wp2
   go_loopw [20] (fun q wr => ∃ (i : Nat), i ≤ n ∧ q = .int .i64 i ∧ (∀ j, j < i → zeroL (brkL P sq n xs (vecTo n (unitRow n j) n)) = true) ∧ Below w5.heap.size w5 wr) (fun q _ => n - (intOf q).toNat)
   case atStart => exact ⟨0, by omega, rfl, fun j hj => absurd hj (by omega), Below.refl _ _⟩
   case round =>
    obtain ⟨i, hi, rfl, hz, hbr⟩ := hrel
    have HZZ := Lib.hid hz
    clear hz
    have k7 := k5.below hbr k5.lt
    have hBr := hB5.trans (hbr.mono hB5.size)
    have HBR := Lib.hid hBr
    by_cases hlt : i < n
    · obtain ⟨gu, ou, rfl, hxk, A1, c1, hcu, hru, hcc⟩ := (hU.rd.below hbr).at_ hlt
      have hrow := unitM_get n i hxk
      rw [hrow, unitRow_len] at hru hcu hcc
      have HRU := Lib.hid hru
      have HEN : Hid (NumsL P (vecTo n (unitRow n i) n)) := Lib.hid (vecTo_nums (by omega) n _ (unitRow_nums hp _ _) n)
      have i1 : (0 : Int) ≤ (i : Int) := by omega
      have i2 : (i : Int) < (n : Int) := by omega
      obtain ⟨z, hz⟩ : ∃ z, z = zeroL (brkL P sq n xs (vecTo n (unitRow n i) n)) := ⟨_, rfl⟩
      have HZ : Hid (zeroL (brkL P sq n xs (vecTo n (unitRow n i) n)) = z) := Lib.hid hz.symm
      clear hz hru hrow hxk hcc hBr
      obtain ⟨q0, q1⟩ := k7.two
      go_wp2
      refine wp_obs 8 [[],[],[],[],[2,3],[0,1,2,3,4],[0,1,2,3,4,5],[0,1,2,3,4,5,6]] [VIs (.agg #[.int .i64 P, .slice A n c]), VIs (.slice X (pw n) cx), VIs (.agg #[.int .i64 P, .slice A n c]), VIs (.slice A1 n c1), VSl wr (pw n) (vecTo n (unitRow n i) n), VSl wr (pw n) (brkL P sq n xs (vecTo n (unitRow n i) n)), VIs (.bool z), VIs (.bool (!z))] (fun w' => Blk w' w.heap.size 26 #[.int .i64 P, .slice A n c] ∧ Below wr.heap.size wr w') (by kernel_rfl) (by kernel_rfl) (fun _ _ h hb => ⟨h.1.below hb h.1.lt, h.2.trans (hb.mono h.2.size)⟩) (⟨k7.drew, zG.drew⟩) (fun x => ?_)
      refine zS (fun w' hS hV K hK => ?_) ?_
      · obtain ⟨q0, q1⟩ := hS.1.two; go_simp; exact zO hK
      refine zS (fun w' hS hV K hK => ?_) ?_
      · obtain ⟨q0, q1⟩ := hS.1.two; go_simp; exact zO hK
      refine zS (fun w' hS hV K hK => ?_) ?_
      · obtain ⟨q0, q1⟩ := hS.1.two; go_simp; exact zO hK
      refine zS (fun w' hS hV K hK => ?_) ?_
      · obtain ⟨q0, q1⟩ := hS.1.two; go_simp; exact zO hK
      refine zS (fun w' hS hV K hK => ?_) ?_
      · have e2 := zQ hV 2; have e3 := zQ hV 3; obtain ⟨q0, q1⟩ := hS.1.two; go_simp; refine (vector_any P A n c A1 c1 (unitRow n i) _ (by omega) (HRU.out.below hS.2)).mono ?_; rintro e v1 ⟨A2, c2, rfl, hM2⟩; exact hK.out _ _ _ rfl rfl ⟨_, _, rfl, hM2.after hS.2⟩ hM2.b
      refine zS (fun w' hS hV K hK => ?_) ?_
      · have e0 := zQ hV 0; have e1 := zQ hV 1; obtain ⟨A4, c4, e4, h4⟩ := hV 4 (by decide); obtain ⟨q0, q1⟩ := hS.1.two; go_simp; refine (bracket_any P A n c sq X cx xs _ _ (vecTo n (unitRow n i) n) _ hp hp2 (by omega) (ha.below (HBR.out.trans (hS.2.mono HBR.out.size))) HS.out (hx.below (HBR.out.trans (hS.2.mono HBR.out.size))) HXS.out hcx h4.rd HEN.out h4.2.cap).mono ?_; rintro e v1 ⟨A2, c2, rfl, hM2⟩; exact hK.out _ _ _ rfl rfl ⟨_, _, rfl, hM2.after hS.2⟩ hM2.b
      refine zS (fun w' hS hV K hK => ?_) ?_
      · obtain ⟨A4, c4, e4, h4⟩ := hV 4 (by decide); obtain ⟨A5, c5, e5, h5⟩ := hV 5 (by decide); obtain ⟨q0, q1⟩ := hS.1.two; go_simp; refine (isZero_any _ _ _ (brkL P sq n xs (vecTo n (unitRow n i) n)) _ (by omega) h5.rd).mono ?_; rintro e v1 ⟨rfl, rfl⟩; rw [HZ.out]; exact zO hK
      refine zS (fun w' hS hV K hK => ?_) ?_
      · obtain ⟨A4, c4, e4, h4⟩ := hV 4 (by decide); obtain ⟨A5, c5, e5, h5⟩ := hV 5 (by decide); have e6 := zQ hV 6; obtain ⟨q0, q1⟩ := hS.1.two; go_simp; exact zO hK
      refine fun w' hS hV => ?_
      have e0 := zT hV 0
      have e1 := zT hV 1
      have e2 := zT hV 2
      have e3 := zT hV 3
      obtain ⟨A4, c4, e4, h4⟩ := hV 4 (by decide)
      obtain ⟨A5, c5, e5, h5⟩ := hV 5 (by decide)
      have e6 := zT hV 6
      have e7 := zT hV 7
      simp only [e0, e1, e2, e3, e4, e5, e6, e7]
      clear e0 e1 e2 e3 e4 e5 e6 e7
      refine wpAny_done (by kernel_rfl) ?_ _
      cases z
      · simp only [Bool.not_false]
        go_wp2
        go_ret2
        exact ⟨ret_bi3 (by rw [HOK.out, isCen_no hlt HZ.out]), HBR.out.trans (hS.2.mono HBR.out.size)⟩
      · simp only [Bool.not_true]
        have hb9 := hbr.trans (hS.2.mono hbr.size)
        clear hS q0 q1 k7
        go_wp2
        go_roundw
        case rel => exact ⟨i + 1, by omega, by go_num, fun j hj => (by
         rcases Nat.lt_or_ge j i with h | h
         · exact HZZ.out j h
         · obtain rfl : j = i := by omega
           exact HZ.out), hb9⟩
        case measure => simp [intOf]; omega
    · obtain rfl : i = n := by omega
      go_wp2
      go_ret2
      exact ⟨ret_bi3 (by rw [HOK.out, isCen_yes HZZ.out]), HBR.out⟩
 · obtain ⟨r, hr⟩ : ∃ r, r = codeA P sq [xs] := ⟨_, rfl⟩
   have HR := Lib.hid hr
   have HR0 := Lib.hid hr0
   have b0 : (r != 0) = true := code_ne (by rw [hr]; exact hr0)
   rw [← hr] at hreg
   clear hr hr0
   go_enter Tryz.func47, Tryz.ntmps47
   go_wp2_with fail
   refine hreg.mono ?_
   rintro e w2 ⟨rfl, hb2⟩
   have hB2 := hB1.trans (hb2.mono hB1.size)
   go_wp2
   go_ret2
   exact ⟨ret_bi3 (by rw [icR_bad HR0.out, HR.out]), hB2⟩
set_option maxHeartbeats 6400000 in
set_option maxRecDepth 8000 in
theorem specIsCentral_any (P : Int) (A : Option Addr) (n c : Nat) (sq : List Int) (X : Option Addr) (m cx : Nat) (xs : List Int) (w : World) (hn : n ≤ 1048576) (hm : m ≤ 1048576) (ha : Rd w A n (ints sq)) (hx : Rd w X m (ints xs)) (hcx : m ≤ cx) :
    Calls Tryz.prog 51 #[.agg #[.int .i64 P, .slice A n c], .slice X m cx] w fun e w' => e = .returned (.tuple #[.bool (icR P sq xs).1, .int .i64 (icR P sq xs).2]) ∧ Below w.heap.size w w' := by
 have hB0 : Below w.heap.size w (w.alloc (.cells #[.int .i64 P, .slice A n c] 26)) := zG.alloc (Nat.le_refl _) _
 have k0 : Blk (w.alloc (.cells #[.int .i64 P, .slice A n c] 26)) w.heap.size 26 #[.int .i64 P, .slice A n c] := Blk.new _ _ _
 have hB1 : Below w.heap.size w ((w.alloc (.cells #[.int .i64 P, .slice A n c] 26)).alloc (.cells #[.slice X m cx] 24)) := hB0.alloc (by simp) _
 have k1 : Blk ((w.alloc (.cells #[.int .i64 P, .slice A n c] 26)).alloc (.cells #[.slice X m cx] 24)) w.heap.size 26 #[.int .i64 P, .slice A n c] := k0.alloc _
 have hreg := l09Code_any P A (some ⟨w.heap.size + 1, 0, none⟩) n c 1 1 sq [xs] ((w.alloc (.cells #[.int .i64 P, .slice A n c] 26)).alloc (.cells #[.slice X m cx] 24)) hn (by omega) (ha.below hB1) (rdII_one' (Blk.newAt3 (by simp)) (hx.below hB1) hcx) (all_one (by rw [hx.lenI]; exact hm))
 by_cases hr0 : codeA P sq [xs] = 0
 · rw [hr0] at hreg
   obtain ⟨hcM, h4⟩ := codeA_zero hr0
   obtain ⟨HP, hp, hp2, hd1, hd2, hs, hms⟩ := codeM_spec3 hcM
   obtain ⟨hx1, hxs⟩ := hms xs (by simp)
   have hsl := ha.lenI
   have hmn : m = pw n := by rw [← hx.lenI, hx1, hsl]
   subst hmn
   have hn4 : n ≤ 4 := by omega
   have hpw : pw n ≤ 16 := pw_le hn4
   have hpn := pw_pos n
   have HOK : Hid (icR P sq xs = (isCen P sq n xs, 0)) := Lib.hid (by rw [icR_ok hr0, hsl])
   have HZB : Hid (∀ ys : List Int, ys.length = pw n → NumsL P ys → zeroL (brkL P sq n ys xs) = zeroL (brkL P sq n xs ys)) := Lib.hid (by subst hsl; exact fun ys h1 h2 => zero_brk (by omega) hx1 hxs h1 h2)
   have HS := Lib.hid hs
   have HXS := Lib.hid hxs
   clear hsl hs hxs hx1 hms hd1 hd2 h4 hcM hr0
   go_enter Tryz.func51, Tryz.ntmps51
   go_wp2_with fail
   refine hreg.mono ?_
   rintro e w2 ⟨rfl, hb2⟩
   have hB2 := hB1.trans (hb2.mono hB1.size)
   have k2 := k1.below hb2 k1.lt
   clear k0 k1 hreg hb2 hB0 hB1
   obtain ⟨w5, hw5⟩ : ∃ W, W = w2 := ⟨_, rfl⟩
   go_wp2
   go_loopw [7] (fun q wr => ∃ (i : Nat), i ≤ n ∧ q = .int .i64 i ∧ (∀ j, j < i → zeroL (brkL P sq n xs (vecTo n (unitRow n j) n)) = true) ∧ Below w2.heap.size w2 wr) (fun q _ => n - (intOf q).toNat)
   case atStart => exact ⟨0, by omega, rfl, fun j hj => absurd hj (by omega), Below.refl _ _⟩
   case round =>
    obtain ⟨i, hi, rfl, hz, hbr⟩ := hrel
    have HZZ := Lib.hid hz
    clear hz
    have k7 := k2.below hbr k2.lt
    have hBr := hB2.trans (hbr.mono hB2.size)
    have HBR := Lib.hid hBr
    obtain ⟨q0, q1⟩ := k7.two
    by_cases hlt : i < n
    · have hz := l04Zero_any P A n c wr (by omega)
      go_wp2_with fail
      refine hz.mono ?_
      rintro e w4 ⟨A9, c9, rfl, hM9⟩
      have k5 := k7.below hM9.b k7.lt
      rcases hM9.2.form with ⟨_, hz0⟩ | ⟨g9, rfl, hg9, _⟩
      · omega
      have h2 := two_lt hlt
      have hset := (hM9.set (2 ^ i) (.int .i64 1)).1
      rw [ints_set, vecTo_unit hlt] at hset
      have hw : wrap64 (2 ^ i) = ((2 ^ i : Nat) : Int) := wrap_pw i (by omega)
      have HEN : Hid (NumsL P (vecTo n (unitRow n i) n) ∧ (vecTo n (unitRow n i) n).length = pw n) := Lib.hid ⟨vecTo_nums (by omega) n _ (unitRow_nums hp _ _) n, vecTo_len _ _ _⟩
      obtain ⟨qi, hqi⟩ : ∃ q : Nat, q = 2 ^ i := ⟨_, rfl⟩
      rw [← hqi] at h2 hset hw
      obtain ⟨hoc, hof⟩ := mkI_at hM9 h2
      have HE : Hid (MkI wr (w4.setCell ⟨g9, qi, none⟩ (.int .i64 1)) (some ⟨g9, 0, none⟩) (pw n) c9 (vecTo n (unitRow n i) n)) := Lib.hid hset
      have k8 := k5.far (p := ⟨g9, qi, none⟩) (show w.heap.size ≠ g9 by have := k7.lt; omega) (.int .i64 1)
      clear hqi hset hM9 k5 q0 q1 hz
      obtain ⟨q0, q1⟩ := k8.two
      have hB8 := HBR.out.trans (HE.out.b.mono HBR.out.size)
      have hcall := l04Bracket_any P A n c sq (some ⟨g9, 0, none⟩) c9 (vecTo n (unitRow n i) n) X cx xs _ hp hp2 (by omega) (ha.below hB8) HS.out HE.out.rd HEN.out.1 (hx.below hB8) HXS.out
      go_wp2_with fail
      refine hcall.mono ?_
      rintro e w6 ⟨A6, c6, rfl, hM6⟩
      have hf := l02First_any A6 (pw n) c6 (brkL P sq n (vecTo n (unitRow n i) n) xs) w6 (by omega) hM6.rd
      have hfz := firstL_zero (brkL P sq n (vecTo n (unitRow n i) n) xs)
      rw [HZB.out _ HEN.out.2 HEN.out.1] at hfz
      obtain ⟨fi, hfi⟩ : ∃ f, f = firstL (brkL P sq n (vecTo n (unitRow n i) n) xs) := ⟨_, rfl⟩
      rw [← hfi] at hf hfz
      obtain ⟨z, hz⟩ : ∃ z, z = zeroL (brkL P sq n xs (vecTo n (unitRow n i) n)) := ⟨_, rfl⟩
      have HZ : Hid (zeroL (brkL P sq n xs (vecTo n (unitRow n i) n)) = z) := Lib.hid hz.symm
      rw [← hz] at hfz
      have hb9 := hbr.trans ((HE.out.b.trans (hM6.b.mono HE.out.b.size)).mono hbr.size)
      clear hfi hz hcall hoc hof hB8 hBr
      go_wp2_with fail
      refine hf.mono ?_
      rintro e w7 ⟨rfl, rfl⟩
      cases z
      · simp only [Bool.not_false] at hfz
        go_wp2
        go_ret2
        exact ⟨ret_bi3 (by rw [HOK.out, isCen_no hlt HZ.out]), hB2.trans (hb9.mono hB2.size)⟩
      · simp only [Bool.not_true] at hfz
        clear hM6 q0 q1 k7 k8
        go_wp2
        go_roundw
        case rel => exact ⟨i + 1, by omega, by go_num, fun j hj => (by
         rcases Nat.lt_or_ge j i with h | h
         · exact HZZ.out j h
         · obtain rfl : j = i := by omega
           exact HZ.out), hb9⟩
        case measure => simp [intOf]; omega
    · obtain rfl : i = n := by omega
      go_wp2
      go_ret2
      exact ⟨ret_bi3 (by rw [HOK.out, isCen_yes HZZ.out]), HBR.out⟩
 · obtain ⟨r, hr⟩ : ∃ r, r = codeA P sq [xs] := ⟨_, rfl⟩
   have HR := Lib.hid hr
   have HR0 := Lib.hid hr0
   have b0 : (r != 0) = true := code_ne (by rw [hr]; exact hr0)
   rw [← hr] at hreg
   clear hr hr0
   go_enter Tryz.func51, Tryz.ntmps51
   go_wp2_with fail
   refine hreg.mono ?_
   rintro e w2 ⟨rfl, hb2⟩
   have hB2 := hB1.trans (hb2.mono hB1.size)
   go_wp2
   go_ret2
   exact ⟨ret_bi3 (by rw [icR_bad HR0.out, HR.out]), hB2⟩
set_option maxHeartbeats 800000 in
set_option maxRecDepth 8000 in
theorem isSquare_any (p a : Int) (w : World) (hp : 2 ≤ p) (hp2 : p ≤ 13) :
    Calls Tryz.prog 144 #[.int .i64 p, .int .i64 a] w fun e w' => e = .returned (.bool (rootF p a p.toNat 0).isSome) ∧ w = w' := by
 cases hr : rootF p a p.toNat 0 with
 | none =>
  have h := root_none (p := p) (a := a) w hp hp2 hr
  clear hr
  go_enter Tryz.func144, Tryz.ntmps144
  go_wp2_with fail
  refine h.mono ?_
  rintro e w1 ⟨rfl, rfl⟩
  go_wp2
  go_ret
  exact ⟨rfl, rfl⟩
 | some r =>
  have h := root_some (p := p) (a := a) w hp hp2 hr
  clear hr
  go_enter Tryz.func144, Tryz.ntmps144
  go_wp2_with fail
  refine h.mono ?_
  rintro e w1 ⟨rfl, rfl⟩
  go_wp2
  go_ret
  exact ⟨rfl, rfl⟩
end Go.Proofs.YtmkjdpnoloofjaaGreat
