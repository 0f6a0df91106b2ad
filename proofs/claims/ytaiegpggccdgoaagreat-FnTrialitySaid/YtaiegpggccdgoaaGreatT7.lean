/-
  LawFnTriality: part 7 of the texts that the proof needs. No condition.
-/
import Derived.Test.YtaiegpggccdgoaaGreatT6
namespace Go.Proofs.YtaiegpggccdgoaaGreat
open Go Go.RowKit
/-- One value is appended; what block the list lies in then. -/
theorem wp_app1K {P : Program} {o : Oper} {a : Act} {K : Act → World → Prop} {Q : Exit → Act → World → Prop} (w0 wr : World) (T E : TypeId) (z : Value) (bytes : Nat)
    (ht : P.underlying T = some (.slice E)) (hinfo : (P.info? E).map (fun i => (i.zero, i.size, i.bytes)) = some (some z, 1, bytes)) (hz : z.cells.size = 1) (hby : bytes ≤ 24)
    (s x : Operand) (ho : o.op = .call { callee := .builtin .append, args := #[s, x], argTypes := #[T, T] })
    (A : Option Addr) (n c : Nat) (us : List Value) (u : Value) (hM : Mk w0 wr E A n c us) (hn : n ≤ 1099511627776) (hu : u.oneCell' = true) (g : Nat) (hB : Blk wr g E #[u])
    (hs : a.eval s = .slice A n c) (hx : a.eval x = .slice (some ⟨g, 0, none⟩) 1 1)
    (h : ∀ A' c' w', Mk w0 w' E A' (n + 1) c' (us ++ [u]) → wr.grownBy w' (Value.slice A n c).ownBlock → (∃ g, A' = some ⟨g, 0, none⟩ ∧ ((Value.slice A n c).ownBlock = some g ∨ wr.heap.size ≤ g)) → K (a.put o.dst (.slice A' (n + 1) c')) w') : o.wp P a wr K Q := by
 obtain ⟨i, hi, h1, h2, h3⟩ := info_parts hinfo
 obtain ⟨b1, b2⟩ := bound_of hn
 refine wp_append_lies wr s x T ho w0.heap.size E i z 1 bytes ht hi h1 h2 h3 hz (by omega) (.slice A n c) n us hs hM.2 ⟨g, 0, none⟩ 1 1 [u] hx rfl (fun j v hv => ?_)
  (by intro v hv; simp at hv; rw [hv]; exact hu) (by omega) b1 (b2 _ hby) hM.1.size _ rfl (fun g' cap w' hown hg hat _ => h _ _ _ ⟨hM.1.grown hg hM.1.size (fun k hk => (hM.2.lt k hk).1), hown⟩ hg ⟨g', rfl, hat.imp id (fun e => by omega)⟩)
 match j, hv with
 | 0, hv => simp at hv; subst hv; rw [Addr.add_lit]; exact hB.cell 0
set_option maxHeartbeats 1600000 in
set_option maxRecDepth 8000 in
theorem dtrace_any (p : Int) (hp : 2 ≤ p) (hp2 : p ≤ 13) (A : Option Addr) (k c : Nat) (X : Option Addr) (n cx : Nat) (xs : List Int) (w : World) (h0 : 0 < n) (hx : Rd w X n (ints xs)) (hxn : NumsL p xs) :
    Calls Tryz.prog 48 #[.agg #[.int .i64 p, .slice A k c], .slice X n cx] w fun e w' => e = .returned (.int .i64 (2 * xs.getD 0 0 % p)) ∧ Below w.heap.size w w' := by
 have hB0 : Below w.heap.size w (w.alloc (.cells #[.int .i64 p, .slice A k c] 26)) := zG.alloc (Nat.le_refl _) _
 have k0 : Blk (w.alloc (.cells #[.int .i64 p, .slice A k c] 26)) w.heap.size 26 #[.int .i64 p, .slice A k c] := Blk.new _ _ _
 obtain ⟨gx, ox, rfl, hx0, hcx⟩ := hx.int h0
 obtain ⟨x0, hx0e⟩ : ∃ z, z = xs.getD 0 0 := ⟨_, rfl⟩
 have hb0 := hxn.getD (show 0 < p by omega) 0
 rw [← hx0e] at hb0 ⊢
 have hcx0 : (w.alloc (.cells #[.int .i64 p, .slice A k c] 26)).cell? ⟨gx, ox, none⟩ = some (.int .i64 x0) := by
  have e : xs[0] = x0 := by rw [hx0e, getD_of_lt 0 hx0]
  rw [← e]
  exact (hB0.cell (World.block_lt_of_cell? _ _ hcx)).trans hcx
 have hcx1 : (w.alloc (.cells #[.int .i64 p, .slice A k c] 26)).drew.cell? ⟨gx, ox, none⟩ = some (.int .i64 x0) := hcx0
 clear hx0e hcx hx hxn hx0
 go_enter Tryz.func48, Tryz.ntmps48
 go_wp2
 refine wp_obs 8 [[],[0],[],[2],[2,3],[2,3,4],[0,1,2,3,4,5],[0,1,2,3,4,5,6]] [VIs (.agg #[.int .i64 p, .slice A k c]), VIs (.int .i64 (p)), VIs (.slice (some ⟨gx, ox, none⟩) n cx), VIs (.pointer (some ⟨gx, ox, none⟩)), VIs (.int .i64 (x0)), VIs (.int .i64 (2 * x0)), VIs (.int .i64 (2 * x0 % p)), VIs (.int .i64 (2 * x0 % p))] (fun w' => Blk w' w.heap.size 26 #[.int .i64 p, .slice A k c] ∧ w'.cell? ⟨gx, ox, none⟩ = some (.int .i64 x0) ∧ Below w.heap.size w w') (by kernel_rfl) (by kernel_rfl) (fun _ _ h hb => ⟨h.1.below hb h.1.lt, (hb.cell (World.block_lt_of_cell? _ _ h.2.1)).trans h.2.1, h.2.2.trans (hb.mono h.2.2.size)⟩) (⟨k0.drew, hcx1, hB0.drew⟩) (fun x => ?_)
 refine zS (fun w' hS hV K hK => ?_) ?_
 · obtain ⟨q0, q1⟩ := hS.1.two; have q2 := hS.2.1; go_simp; exact zO hK
 refine zS (fun w' hS hV K hK => ?_) ?_
 · have e0 := zQ hV 0; obtain ⟨q0, q1⟩ := hS.1.two; have q2 := hS.2.1; go_simp; refine (dfield_any p A k c w').mono ?_; rintro e v1 ⟨rfl, hb⟩; exact hK.out _ _ _ rfl rfl rfl hb
 refine zS (fun w' hS hV K hK => ?_) ?_
 · obtain ⟨q0, q1⟩ := hS.1.two; have q2 := hS.2.1; go_simp; exact zO hK
 refine zS (fun w' hS hV K hK => ?_) ?_
 · have e2 := zQ hV 2; obtain ⟨q0, q1⟩ := hS.1.two; have q2 := hS.2.1; go_simp; exact zO hK
 refine zS (fun w' hS hV K hK => ?_) ?_
 · have e3 := zQ hV 3; obtain ⟨q0, q1⟩ := hS.1.two; have q2 := hS.2.1; go_simp; exact zO hK
 refine zS (fun w' hS hV K hK => ?_) ?_
 · have e4 := zQ hV 4; obtain ⟨q0, q1⟩ := hS.1.two; have q2 := hS.2.1; go_simp; exact hK.out _ _ _ rfl rfl (by first | rfl | exact congrArg (Value.int .i64) (by omega) | exact congrArg (Value.int .i64) (i64_fit _ (by omega) (by omega))) zG
 refine zS (fun w' hS hV K hK => ?_) ?_
 · have e1 := zQ hV 1; have e5 := zQ hV 5; obtain ⟨q0, q1⟩ := hS.1.two; have q2 := hS.2.1; go_simp; refine (num_any p (2 * x0) w' (by omega) hp2 (by omega) (by omega)).mono ?_; rintro e v1 ⟨rfl, rfl⟩; exact zO hK
 refine zS (fun w' hS hV K hK => ?_) ?_
 · have e6 := zQ hV 6; obtain ⟨q0, q1⟩ := hS.1.two; have q2 := hS.2.1; go_simp; exact zO hK
 refine fun w' hS hV => ?_
 have e0 := zT hV 0
 have e1 := zT hV 1
 have e2 := zT hV 2
 have e3 := zT hV 3
 have e4 := zT hV 4
 have e5 := zT hV 5
 have e6 := zT hV 6
 have e7 := zT hV 7
 simp only [e0, e1, e2, e3, e4, e5, e6, e7]
 clear e0 e1 e2 e3 e4 e5 e6 e7
 refine wpAny_done (by kernel_rfl) ?_ _
 go_wp2
 go_ret
 exact ⟨rfl, hS.2.2⟩
/-- The numbers of the cyclic form of the basis. -/
def cycM (p : Int) (k : Nat) (st : List Int) : List (List (List Int)) := tab (pw k) fun i => tab (pw k) fun j => tab (pw k) fun q => frmL p k st i j q
set_option maxHeartbeats 12800000 in
set_option maxRecDepth 8000 in
theorem cyclicForms_any (p : Int) (hp : 2 ≤ p) (hp2 : p ≤ 13) (k : Nat) (hk : k ≤ 4) (A : Option Addr) (c : Nat) (st : List Int) (w : World) (hk3 : k ≤ 3) (hc : k ≤ c) (ha : Rd w A k (ints st)) (hst : NumsL p st) :
    Calls Tryz.prog 119 #[.agg #[.int .i64 p, .slice A k c]] w fun e w' => ∃ A' c', e = .returned (.slice A' (pw k) c') ∧ MkM3 w w' A' (pw k) c' (cycM p k st) := by
 have hpk : pw k ≤ 8 := pw_le hk3
 have hpos := pw_pos k
 have hB0 : Below w.heap.size w (w.alloc (.cells #[.int .i64 p, .slice A k c] 26)) := zG.alloc (Nat.le_refl _) _
 have k0 : Blk (w.alloc (.cells #[.int .i64 p, .slice A k c] 26)) w.heap.size 26 #[.int .i64 p, .slice A k c] := Blk.new _ _ _
 have hHA := Lib.hid ha
 obtain ⟨n, hn⟩ : ∃ n, n = pw k := ⟨_, rfl⟩
 have hsz := fun w => dsize_any p A k c w hk
 rw [← hn] at hpk hpos hsz
 obtain ⟨GG, hG⟩ : ∃ G : List Int → List Int → List Int, G = fun x y => dblL p k st x y := ⟨_, rfl⟩
 have HGN : Hid (∀ x y, NumsL p (GG x y)) := Lib.hid fun x y => by rw [hG]; exact dblL_nums (by omega) _ _ _ _
 have HTI : Hid (∀ (w' : World) (X : Option Addr) (cx : Nat) (xs : List Int) (Y : Option Addr) (cy : Nat) (ys : List Int), Below w.heap.size w w' → n ≤ cx → n ≤ cy → NumsL p xs → NumsL p ys → Rd w' X n (ints xs) → Rd w' Y n (ints ys) → Calls Tryz.prog 108 #[.agg #[.int .i64 p, .slice A k c], .slice X n cx, .slice Y n cy] w' fun e w'' => ∃ A' c', e = .returned (.slice A' n c') ∧ MkI w' w'' A' n c' (GG xs ys)) := Lib.hid fun w' X cx xs Y cy ys hb hcx hcy hxn hyn hX hY => by
  rw [hG]
  subst hn
  exact dtimes_any p hp hp2 k hk A c st X cx _ Y cy _ w' hc hcx hcy (ha.below hb) hst hX hxn hY hyn
 obtain ⟨F, hF⟩ : ∃ F : Nat → Nat → Nat → Int, F = fun i j q => frmL p k st i j q := ⟨_, rfl⟩
 have HFF : Hid (∀ j q r, F j q r = 2 * (GG (GG (unitRow n j) (unitRow n q)) (unitRow n r)).getD 0 0 % p) := Lib.hid fun j q r => by rw [hF, hG, hn]; rfl
 have HCY : Hid (cycM p k st = tab n fun i => tab n fun j => tab n fun q => F i j q) := Lib.hid (by rw [hF, hn]; rfl)
 rw [← hn]
 clear hn hG hF hst ha hHA
 go_enter Tryz.func119, Tryz.ntmps119
 have hE1 : MkM3 (w.alloc (.cells #[.int .i64 p, .slice A k c] 26)) ((w.alloc (.cells #[.int .i64 p, .slice A k c] 26)).alloc (.cells #[] 32)) (some ⟨w.heap.size + 1, 0, none⟩) 0 0 [] := by simpa using MkM3.empty (Below.refl (w.alloc (.cells #[.int .i64 p, .slice A k c] 26)).heap.size (w.alloc (.cells #[.int .i64 p, .slice A k c] 26)))
 have ka1 := k0.alloc (.cells #[] 32)
 obtain ⟨q0, q1⟩ := ka1.two
 go_wp2_with fail
 refine (hsz _).mono ?_
 rintro e ws1 ⟨rfl, hbs⟩
 have hF1 := hE1.below hbs
 have kb1 := ka1.below hbs ka1.lt
 have hszl : w.heap.size + 1 < ws1.heap.size := by have := hbs.size; simp at this; omega
 clear q0 q1 hE1 ka1 k0 hbs
 go_wp2_with fail
 refine (unit_any n _ (by omega)).mono ?_
 rintro e wu1 ⟨U1, cU1, rfl, hU⟩
 have hG1 := hF1.below hU.b
 have kc1 := kb1.below hU.b kb1.lt
 have hKp1 : Keeps ws1 wu1 wu1 (.slice (some ⟨w.heap.size + 1, 0, none⟩) 0 0) := ⟨Nat.le_refl _, fun _ _ _ => rfl, fun gb e => .inl (lt_of_own e hszl)⟩
 have HU1 := Lib.hid hU
 clear hF1 kb1 hU hszl
 go_wp2
 have HB1 := Lib.hid hB0
 clear hB0
 go_loopw [3, 17] (fun out i wr => ∃ (j : Nat) (A' : Option Addr) (c' : Nat), j ≤ n ∧ i = .int .i64 j ∧ out = .slice A' j c' ∧ Hid (MkM3 (w.alloc (.cells #[.int .i64 p, .slice A k c] 26)) wr A' j c' (tab j fun i => tab n fun j => tab n fun q => F i j q)) ∧ Hid (Keeps ws1 wu1 wr (.slice A' j c')) ∧ Blk wr w.heap.size 26 #[.int .i64 p, .slice A k c]) (fun _ i _ => n - (intOf i).toNat)
 case atStart => exact ⟨0, _, _, by omega, rfl, rfl, Lib.hid (by simpa [tab] using hG1), Lib.hid hKp1, kc1⟩
 case round =>
  obtain ⟨j, A', c', hj, rfl, rfl, HM, HKP, kr⟩ := hrel
  clear hG1 hKp1 kc1
  by_cases hlt : j < n
  · skip
    obtain ⟨gu1, ou1, rfl, hxk, A1, c1, hcu1, hru, hcc⟩ := (HU1.out.keep HKP.out.2.1).at_ hlt
    have hrow := unitM_get n j hxk
    rw [hrow, unitRow_len] at hru hcu1 hcc
    have HX1 := Lib.hid hru
    clear hru hrow hxk
    obtain ⟨wo2, hwo⟩ : ∃ W, W = wr := ⟨_, rfl⟩
    rw [← hwo] at HM HKP HX1 hcu1 kr ⊢
    clear hwo
    have hE2 : MkII wo2 (wo2.alloc (.cells #[] 24)) (some ⟨wo2.heap.size, 0, none⟩) 0 0 [] := MkII.empty zG
    have ka2 := kr.alloc (.cells #[] 24)
    obtain ⟨q0, q1⟩ := ka2.two
    go_wp2_with fail
    refine (hsz _).mono ?_
    rintro e ws2 ⟨rfl, hbs⟩
    have hF2 := hE2.below hbs
    have kb2 := ka2.below hbs ka2.lt
    have hszl : wo2.heap.size < ws2.heap.size := by have := hbs.size; simp at this; omega
    clear q0 q1 hE2 ka2 kr hbs
    go_wp2_with fail
    refine (unit_any n _ (by omega)).mono ?_
    rintro e wu2 ⟨U2, cU2, rfl, hU⟩
    have hG2 := hF2.below hU.b
    have kc2 := kb2.below hU.b kb2.lt
    have hKp2 : Keeps ws2 wu2 wu2 (.slice (some ⟨wo2.heap.size, 0, none⟩) 0 0) := ⟨Nat.le_refl _, fun _ _ _ => rfl, fun gb e => .inl (lt_of_own e hszl)⟩
    have HU2 := Lib.hid hU
    clear hF2 kb2 hU hszl
    go_wp2
    go_loopw [6, 26] (fun out i wr => ∃ (q : Nat) (A' : Option Addr) (c' : Nat), q ≤ n ∧ i = .int .i64 q ∧ out = .slice A' q c' ∧ Hid (MkII wo2 wr A' q c' (tab q fun q => tab n fun r => F j q r)) ∧ Hid (Keeps ws2 wu2 wr (.slice A' q c')) ∧ Blk wr w.heap.size 26 #[.int .i64 p, .slice A k c]) (fun _ i _ => n - (intOf i).toNat)
    case atStart => exact ⟨0, _, _, by omega, rfl, rfl, Lib.hid (by simpa [tab] using hG2), Lib.hid hKp2, kc2⟩
    case round =>
     obtain ⟨q, A6, c6, hq, rfl, rfl, HM2, HKP2, kr⟩ := hrel
     clear hG2 hKp2 kc2
     by_cases hlq : q < n
     · skip
       have HX1' := Lib.hid (HX1.out.below HM2.out.b)
       obtain ⟨gu2, ou2, rfl, hxk, A2, c2, hcu2, hru, hcc2⟩ := (HU2.out.keep HKP2.out.2.1).at_ hlq
       have hrow := unitM_get n q hxk
       rw [hrow, unitRow_len] at hru hcu2 hcc2
       have HX2 := Lib.hid hru
       clear hru hrow hxk
       obtain ⟨wo3, hwo⟩ : ∃ W, W = wr := ⟨_, rfl⟩
       rw [← hwo] at HM2 HKP2 HX1' HX2 hcu2 kr ⊢
       clear hwo
       have hE3 : MkI wo3 (wo3.alloc (.cells #[] 2)) (some ⟨wo3.heap.size, 0, none⟩) 0 0 [] := by simpa [MkI, ints] using Mk.lit (E := 2) (Below.refl wo3.heap.size wo3) #[] (by simp)
       have ka3 := kr.alloc (.cells #[] 2)
       obtain ⟨q0, q1⟩ := ka3.two
       go_wp2_with fail
       refine (hsz _).mono ?_
       rintro e ws3 ⟨rfl, hbs⟩
       have hF3 := hE3.below hbs
       have kb3 := ka3.below hbs ka3.lt
       have hszl : wo3.heap.size < ws3.heap.size := by have := hbs.size; simp at this; omega
       clear q0 q1 hE3 ka3 kr hbs
       go_wp2_with fail
       refine (unit_any n _ (by omega)).mono ?_
       rintro e wu3 ⟨U3, cU3, rfl, hU⟩
       have hG3 := hF3.below hU.b
       have kc3 := kb3.below hU.b kb3.lt
       have hKp3 : Keeps ws3 wu3 wu3 (.slice (some ⟨wo3.heap.size, 0, none⟩) 0 0) := ⟨Nat.le_refl _, fun _ _ _ => rfl, fun gb e => .inl (lt_of_own e hszl)⟩
       have HU3 := Lib.hid hU
       clear hF3 kb3 hU hszl
       go_wp2
       go_loopw [9, 35] (fun out i wr => ∃ (r : Nat) (A' : Option Addr) (c' : Nat), r ≤ n ∧ i = .int .i64 r ∧ out = .slice A' r c' ∧ Hid (MkI wo3 wr A' r c' (tab r fun r => F j q r)) ∧ Hid (Keeps ws3 wu3 wr (.slice A' r c')) ∧ Blk wr w.heap.size 26 #[.int .i64 p, .slice A k c]) (fun _ i _ => n - (intOf i).toNat)
       case atStart => exact ⟨0, _, _, by omega, rfl, rfl, Lib.hid (by simpa [tab] using hG3), Lib.hid hKp3, kc3⟩
       case round =>
        obtain ⟨r, A5, c5, hr, rfl, rfl, HM3, HKP3, kr⟩ := hrel
        clear hG3 hKp3 kc3
        by_cases hlr : r < n
        · skip
          have HX1 := Lib.hid (HX1'.out.below HM3.out.b)
          have HX2' := Lib.hid (HX2.out.below HM3.out.b)
          obtain ⟨gu3, ou3, rfl, hxk, A3, c3, hcu3, hru, hcc3⟩ := (HU3.out.keep HKP3.out.2.1).at_ hlr
          have hrow := unitM_get n r hxk
          rw [hrow, unitRow_len] at hru hcu3 hcc3
          have HX3 := Lib.hid hru
          clear hru hrow hxk
          have HX2 := HX2'
          have HBW : Hid (Below w.heap.size w wr) := Lib.hid (HB1.out.trans ((HM.out.b.trans ((HM2.out.b.trans (HM3.out.b.mono HM2.out.b.size)).mono HM.out.b.size)).mono HB1.out.size))
          obtain ⟨v, hv⟩ : ∃ v, v = F j q r := ⟨_, rfl⟩
          have HVV : Hid (2 * (GG (GG (unitRow n j) (unitRow n q)) (unitRow n r)).getD 0 0 % p = v) := Lib.hid (by rw [hv, HFF.out])
          have HVF : Hid (F j q r = v) := Lib.hid hv.symm
          clear hv HX2'
          obtain ⟨q0, q1⟩ := kr.two
          go_wp2
          clear q0 q1
          refine wp_obs 11 [[],[],[],[],[],[],[3,4,5],[],[2,3,4,5,6,7],[1,2,3,4,5,6,7,8],[1,2,3,4,5,6,7,8,9],[0,1,2,3,4,5,6,7,8,9,10],[0,1,2,3,4,5,6,7,8,9,10,11]] [VIs (.slice A5 r c5), VIs (.agg #[.int .i64 p, .slice A k c]), VIs (.agg #[.int .i64 p, .slice A k c]), VIs (.agg #[.int .i64 p, .slice A k c]), VIs (.slice A1 n c1), VIs (.slice A2 n c2), VSl wr n (GG (unitRow n j) (unitRow n q)), VIs (.slice A3 n c3), VSl wr n (GG (GG (unitRow n j) (unitRow n q)) (unitRow n r)), VIs (.int .i64 (v)), VBs 2 #[.int .i64 v]] (fun w' => Blk w' w.heap.size 26 #[.int .i64 p, .slice A k c] ∧ Below wr.heap.size wr w') (by kernel_rfl) (by kernel_rfl) (fun _ _ h hb => ⟨h.1.below hb h.1.lt, h.2.trans (hb.mono h.2.size)⟩) (⟨kr.drew, zG.drew⟩) (fun x => ?_)
          refine zS (fun w' hS hV K hK => ?_) ?_
          · obtain ⟨q0, q1⟩ := hS.1.two; go_simp; exact zO hK
          refine zS (fun w' hS hV K hK => ?_) ?_
          · obtain ⟨q0, q1⟩ := hS.1.two; go_simp; exact zO hK
          refine zS (fun w' hS hV K hK => ?_) ?_
          · obtain ⟨q0, q1⟩ := hS.1.two; go_simp; exact zO hK
          refine zS (fun w' hS hV K hK => ?_) ?_
          · obtain ⟨q0, q1⟩ := hS.1.two; go_simp; exact zO hK
          refine zS (fun w' hS hV K hK => ?_) ?_
          · obtain ⟨q0, q1⟩ := hS.1.two; go_simp; exact zO hK
          refine zS (fun w' hS hV K hK => ?_) ?_
          · obtain ⟨q0, q1⟩ := hS.1.two; go_simp; exact zO hK
          refine zS (fun w' hS hV K hK => ?_) ?_
          · have e3 := zQ hV 3; have e4 := zQ hV 4; have e5 := zQ hV 5; obtain ⟨q0, q1⟩ := hS.1.two; go_simp; refine (HTI.out w' A1 c1 (unitRow n j) A2 c2 (unitRow n q) (HBW.out.trans (hS.2.mono HBW.out.size)) hcc hcc2 (unitRow_nums hp _ _) (unitRow_nums hp _ _) (HX1.out.below hS.2) (HX2.out.below hS.2)).mono ?_; rintro e v1 ⟨A9, c9, rfl, hM⟩; exact hK.out _ _ _ rfl rfl ⟨_, _, rfl, hM.after hS.2⟩ hM.b
          refine zS (fun w' hS hV K hK => ?_) ?_
          · obtain ⟨q0, q1⟩ := hS.1.two; go_simp; exact zO hK
          refine zS (fun w' hS hV K hK => ?_) ?_
          · have e2 := zQ hV 2; obtain ⟨A6, c6, e6, h6⟩ := hV 6 (by decide); have e7 := zQ hV 7; obtain ⟨q0, q1⟩ := hS.1.two; go_simp; refine (HTI.out w' A6 c6 (GG (unitRow n j) (unitRow n q)) A3 c3 (unitRow n r) (HBW.out.trans (hS.2.mono HBW.out.size)) h6.2.cap hcc3 (HGN.out _ _) (unitRow_nums hp _ _) h6.rd (HX3.out.below hS.2)).mono ?_; rintro e v1 ⟨A9, c9, rfl, hM⟩; exact hK.out _ _ _ rfl rfl ⟨_, _, rfl, hM.after hS.2⟩ hM.b
          refine zS (fun w' hS hV K hK => ?_) ?_
          · have e1 := zQ hV 1; obtain ⟨A6, c6, e6, h6⟩ := hV 6 (by decide); obtain ⟨A8, c8, e8, h8⟩ := hV 8 (by decide); obtain ⟨q0, q1⟩ := hS.1.two; go_simp; refine (dtrace_any p hp hp2 A k c A8 n c8 (GG (GG (unitRow n j) (unitRow n q)) (unitRow n r)) w' hpos h8.rd (HGN.out _ _)).mono ?_; rintro e v1 ⟨rfl, hb⟩; exact hK.out _ _ _ rfl rfl (congrArg (Value.int .i64) HVV.out) hb
          refine zS (fun w' hS hV K hK => ?_) ?_
          · obtain ⟨A6, c6, e6, h6⟩ := hV 6 (by decide); obtain ⟨A8, c8, e8, h8⟩ := hV 8 (by decide); have e9 := zQ hV 9; obtain ⟨q0, q1⟩ := hS.1.two; go_simp; exact hK.out _ _ _ rfl rfl ⟨_, rfl, Blk.new _ _ _⟩ (zG.alloc (Nat.le_refl _) _)
          refine fun w' hS hV => ?_
          have e0 := zT hV 0
          have e1 := zT hV 1
          have e2 := zT hV 2
          have e3 := zT hV 3
          have e4 := zT hV 4
          have e5 := zT hV 5
          obtain ⟨A6, c6, e6, h6⟩ := hV 6 (by decide)
          have e7 := zT hV 7
          obtain ⟨A8, c8, e8, h8⟩ := hV 8 (by decide)
          have e9 := zT hV 9
          obtain ⟨b10, e10, h10⟩ := hV 10 (by decide)
          simp only [e0, e1, e2, e3, e4, e5, e6, e7, e8, e9, e10]
          clear e0 e1 e2 e3 e4 e5 e6 e7 e8 e9 e10
          obtain ⟨k7, s2⟩ := hS
          refine any_plain (j := 11) (by kernel_rfl) (Eq.trans (by simp only [zA, zB, zC]; exact rfl) rfl) rfl (fun K hK => ?_)
          refine wp_app1K wo3 w' 24 2 _ _ Tryz.underlying24 info_i rfl (by omega) _ _ rfl A5 r c5 _ _ (HM3.out.below s2) (by omega) rfl _ h10 (by rfl) (by rfl) ?_
          intro A20 c20 w20 hM20 hg20 hat20
          refine hK.out _ _ ?_
          simp only [Act.put, zD, zE, zF]
          refine any_one (j := 12) (by kernel_rfl) (Eq.trans (by simp only [zA, zB, zC]; exact rfl) rfl) (fun K hK => ?_)
          go_simp
          refine hK.out _ _ (wpAny_done (by kernel_rfl) ?_ _)
          have k8 := k7.grown hg20 ((HM3.out.below s2).2.ne_blk k7 (by decide))
          have HR2 : Hid (MkI wo3 w20 A20 (r + 1) c20 (tab (r + 1) fun r => F j q r)) := Lib.hid (by rw [tab_succ, HVF.out]; simpa [MkI, ints] using hM20)
          have HK2 : Hid (Keeps ws3 wu3 w20 (.slice A20 (r + 1) c20)) := Lib.hid (HKP3.out.step s2 hg20 hat20)
          clear k7 hg20 hM20 hV hat20
          go_wp2
          go_roundw
          case rel => exact ⟨r + 1, A20, c20, by omega, by go_num, rfl, HR2, HK2, k8⟩
          case measure => simp [intOf]; omega
        · obtain rfl : r = n := by omega
          go_wp2_with (at_builtin; refine wpList_appRowG wo2 wo3 _ rfl _ _ rfl A6 q c6 _ A5 r c5 _ HM2.out HM3.out (by omega) rfl ?_ ?_; (go_simp); intro A4 c4 w4 hM4 hg4 hat4)
          have k8 := kr.grown hg4 ((HM2.out.below HM3.out.b).ne_blk kr (by decide))
          go_roundw
          case rel => exact ⟨q + 1, A4, c4, by omega, by go_num, rfl, Lib.hid (by rw [tab_succ]; exact hM4), Lib.hid (HKP2.out.step HM3.out.b hg4 hat4), k8⟩
          case measure => simp [intOf]; omega
     · obtain rfl : q = n := by omega
       have HO := Lib.hid (HM.out.below HM2.out.b)
       have HI := Lib.hid (HM2.out.after HM.out.b)
       go_wp2_with (at_builtin; refine wpList_appM (w.alloc (.cells #[.int .i64 p, .slice A k c] 26)) wr rfl _ _ rfl A' j c' _ A6 q c6 _ HO.out HI.out (by omega) rfl rfl ?_; intro A7 c7 w7 hM7 hg7 hat7)
       have k7 := kr.grown hg7 (HO.out.ne_blk kr (by decide))
       have hks := HKP.out.step HM2.out.b hg7 hat7 (n' := j + 1) (c' := c7)
       go_roundw
       case rel => exact ⟨j + 1, A7, c7, by omega, by go_num, rfl, Lib.hid (by rw [tab_succ]; exact hM7), Lib.hid hks, k7⟩
       case measure => simp [intOf]; omega
  · obtain rfl : j = n := by omega
    go_wp2
    go_ret
    refine ⟨_, _, rfl, ?_⟩
    rw [HCY.out]
    obtain ⟨rows, h1, h2, h3⟩ := HM.out
    exact ⟨rows, ⟨HB1.out.trans (h1.1.mono HB1.out.size), h1.2.mono HB1.out.size⟩, h2, fun k h => by obtain ⟨A', c', e, ho⟩ := h3 k h; exact ⟨A', c', e, ho.after HB1.out⟩⟩
end Go.Proofs.YtaiegpggccdgoaaGreat
