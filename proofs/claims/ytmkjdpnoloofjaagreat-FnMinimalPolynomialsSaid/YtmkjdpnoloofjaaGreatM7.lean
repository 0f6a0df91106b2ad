/-
  LawFnMinimalPolynomials: part 7 of the texts that the proof needs. No condition.
-/
import Derived.Test.YtmkjdpnoloofjaaGreatM6
namespace Go.Proofs.YtmkjdpnoloofjaaGreat
open Go.RowKit
/-- The value is a tuple of a list and a truth value. -/
def VTsb (w0 : World) (L : List Int) (b : Bool) : VP := ⟨fun v w => ∃ A c, v = .tuple #[.slice A L.length c, .bool b] ∧ MkI w0 w A L.length c L, fun _ _ _ ⟨A, c, e, h⟩ hb => ⟨A, c, e, h.below hb⟩⟩
theorem scaleL_neg {p : Int} (xs : List Int) : scaleL p xs (p - 1) = scaleL p xs (-1) := by
 refine list_ext_getD 0 (by rw [scaleL_len, scaleL_len]) fun i hi => ?_
 rw [scaleL_len] at hi
 rw [scaleL_getD _ hi, scaleL_getD _ hi, show xs.getD i 0 * (p - 1) = xs.getD i 0 * -1 + p * xs.getD i 0 by rw [Int.mul_sub, Int.mul_comm p]; omega, Int.add_mul_emod_self_left]
set_option maxHeartbeats 6400000 in
set_option maxRecDepth 8000 in
theorem specMinimalPolynomial_any (P : Int) (A : Option Addr) (n c : Nat) (sq : List Int) (X : Option Addr) (m cx : Nat) (xs : List Int) (w : World) (hn : n ≤ 1048576) (hm : m ≤ 1048576) (ha : Rd w A n (ints sq)) (hx : Rd w X m (ints xs)) (hcx : m ≤ cx) :
    Calls Tryz.prog 63 #[.agg #[.int .i64 P, .slice A n c], .slice X m cx] w fun e w' => ∃ (A' : Option Addr) (k c' : Nat), e = .returned (.tuple #[.slice A' k c', .int .i64 (mnpR P sq xs).2]) ∧ MkI w w' A' k c' (mnpR P sq xs).1 := by
 have hB0 : Below w.heap.size w (w.alloc (.cells #[.int .i64 P, .slice A n c] 26)) := zG.alloc (Nat.le_refl _) _
 have k0 : Blk (w.alloc (.cells #[.int .i64 P, .slice A n c] 26)) w.heap.size 26 #[.int .i64 P, .slice A n c] := Blk.new _ _ _
 have hB1 : Below w.heap.size w ((w.alloc (.cells #[.int .i64 P, .slice A n c] 26)).alloc (.cells #[.slice X m cx] 24)) := hB0.alloc (by simp) _
 have k1 : Blk ((w.alloc (.cells #[.int .i64 P, .slice A n c] 26)).alloc (.cells #[.slice X m cx] 24)) w.heap.size 26 #[.int .i64 P, .slice A n c] := k0.alloc _
 have hreg := l09Code_any P A (some ⟨w.heap.size + 1, 0, none⟩) n c 1 1 sq [xs] ((w.alloc (.cells #[.int .i64 P, .slice A n c] 26)).alloc (.cells #[.slice X m cx] 24)) hn (by omega) (ha.below hB1) (rdII_one' (Blk.newAt3 (by simp)) (hx.below hB1) hcx) (all_one (by rw [hx.lenI]; exact hm))
 by_cases hr0 : codeA P sq [xs] = 0
 · rw [hr0] at hreg
   obtain ⟨hcM, h4⟩ := codeA_zero hr0
   obtain ⟨HP, hp, hp2, hd1, hd2, hs, hms⟩ := codeM_spec3 hcM
   obtain ⟨hx1, hxs⟩ := hms xs (by simp)
   have hsl := ha.lenI
   have hmn : m = pw n := by rw [← hx.lenI, hx1, hsl]
   subst hmn
   have hn4 : n ≤ 4 := by omega
   have hpw : pw n ≤ 16 := pw_le hn4
   have hpn := pw_pos n
   obtain ⟨f1, f2, f3⟩ := min_facts HP hx1 hxs
   rw [hsl] at f1 f2 f3
   obtain ⟨L, hL⟩ : ∃ L, L = minL P sq n xs := ⟨_, rfl⟩
   have HOK : Hid (mnpR P sq xs = (L, 0)) := Lib.hid (by rw [mnpR_ok hr0, hsl, hL])
   obtain ⟨K, hKK⟩ : ∃ K, K = minK P sq n xs := ⟨_, rfl⟩
   rw [← hKK] at f1
   have HL : Hid (L = scaleL P (mstR P sq n xs K).1 (-1) ++ [1]) := Lib.hid (by rw [hL, hKK]; rfl)
   have hK1 : 1 ≤ K := f1.1
   have hK2 : K ≤ pw n := f1.2.1
   have HK3 := Lib.hid f1.2.2
   have HF2 := Lib.hid f2
   have HF3 := Lib.hid f3
   have HXL := Lib.hid hx.lenI
   have HXS := Lib.hid hxs
   have HS := Lib.hid hs
   have HPP := Lib.hid HP
   clear hsl hs hxs hx1 hms hd1 hd2 h4 hcM hr0 HP hL hKK f1 f2 f3
   go_enter Tryz.func63, Tryz.ntmps63
   go_wp2_with fail
   refine hreg.mono ?_
   rintro e w2 ⟨rfl, hb2⟩
   have hB2 := hB1.trans (hb2.mono hB1.size)
   have k2 := k1.below hb2 k1.lt
   clear k0 k1 hreg hb2 hB0 hB1
   obtain ⟨q0, q1⟩ := k2.two
   go_wp2_with fail
   refine (l04One_any P A n c w2 (by omega)).mono ?_
   rintro e w3 ⟨A1, c1, rfl, hM1⟩
   have hM3 := MkII.single (hM1.after hB2)
   have k3 := (k2.below hM1.b k2.lt).alloc (.cells #[.slice A1 (pw n) c1] 24)
   clear q0 q1 k2 hM1
   go_wp2
   go_loopw [7] (fun pv wr => ∃ (k : Nat) (A' : Option Addr) (c' : Nat), 1 ≤ k ∧ k ≤ K ∧ pv = .slice A' k c' ∧ MkII w wr A' k c' (pwsL P sq n xs k) ∧ Blk wr w.heap.size 26 #[.int .i64 P, .slice A n c]) (fun pv _ => K - lenM pv)
   case atStart => exact ⟨1, _, _, by omega, hK1, rfl, hM3, k3⟩
   case round =>
    obtain ⟨k, A', c', hk1, hk2, rfl, hM, k6⟩ := hrel
    clear hM3 k3
    obtain ⟨q, rfl⟩ : ∃ q, k = q + 1 := ⟨k - 1, by omega⟩
    obtain ⟨k, hkq⟩ : ∃ k, k = q + 1 := ⟨_, rfl⟩
    rw [← hkq] at hk1 hk2 hM ⊢
    have hrd := hM.rd
    have hBw := hM.b
    obtain ⟨gp, op_, rfl, hxk, Ak, ck, hck, hrk, hcc⟩ := hrd.at_ (show q < k by omega)
    have hrow : (pwsL P sq n xs k)[q] = pwrL P sq n xs q := by
     rw [← getD_of_lt [] hxk]
     unfold pwsL
     rw [tab_getD (by omega)]
    rw [hrow, (HF3.out q).1] at hck hrk hcc
    obtain ⟨PQ, hPQ⟩ : ∃ X, X = pwrL P sq n xs q := ⟨_, rfl⟩
    obtain ⟨PK, hPK⟩ : ∃ X, X = pwrL P sq n xs k := ⟨_, rfl⟩
    have hpk : mulL P sq PQ xs = PK := by rw [hPQ, hPK, hkq]; rfl
    have hq3 := HF3.out q
    rw [← hPQ] at hrk hq3
    have HPQ := Lib.hid hrk
    have HXR := Lib.hid (hx.below hBw)
    have HAR := Lib.hid (ha.below hBw)
    have HAL : Hid (NumsL P PQ ∧ True) := Lib.hid ⟨hq3.2, trivial⟩
    have HTL : Hid (mulL P sq PQ xs = PK) := Lib.hid hpk
    have HPK := Lib.hid hPK
    have HM := Lib.hid hM
    have hk16 : k ≤ 16 := by omega
    have W1 : IntKind.i64.wrap ((k : Int) - 1) = (q : Int) := by rw [i64_fit _ (by omega) (by omega)]; omega
    have i1 : (0 : Int) ≤ (q : Int) := by omega
    have i2 : (q : Int) < (k : Int) := by omega
    have HKQ := Lib.hid hkq
    clear hrow hxk hPQ hPK hpk hq3 hrk hM hkq
    obtain ⟨q0, q1⟩ := k6.two
    go_wp2
    refine wp_obs 10 [[],[],[],[2],[2,3],[1,2,3,4],[1,2,3,4,5],[],[0,1,2,3,4,5,6,7],[0,1,2,3,4,5,6,7,8]] [VIs (.agg #[.int .i64 P, .slice A n c]), VIs (.slice (some ⟨gp, op_, none⟩) k c'), VIs (.slice (some ⟨gp, op_, none⟩) k c'), VIs (.int .i64 (k)), VIs (.int .i64 (q)), VIs (.pointer (some ⟨gp, op_ + q, none⟩)), VIs (.slice Ak (pw n) ck), VIs (.slice X (pw n) cx), VSl wr (pw n) PK, VSl wr (pw n) PK] (fun w' => w'.cell? ⟨gp, op_ + q, none⟩ = some (.slice Ak (pw n) ck) ∧ Blk w' w.heap.size 26 #[.int .i64 P, .slice A n c] ∧ Below wr.heap.size wr w') (by kernel_rfl) (by kernel_rfl) (fun _ _ h hb => ⟨(hb.cell (World.block_lt_of_cell? _ _ h.1)).trans h.1, h.2.1.below hb h.2.1.lt, h.2.2.trans (hb.mono h.2.2.size)⟩) (⟨hck, k6.drew, zG.drew⟩) (fun x => ?_)
    refine zS (fun w' hS hV K hK => ?_) ?_
    · have q2 := hS.1; obtain ⟨q0, q1⟩ := hS.2.1.two; go_simp; exact zO hK
    refine zS (fun w' hS hV K hK => ?_) ?_
    · have q2 := hS.1; obtain ⟨q0, q1⟩ := hS.2.1.two; go_simp; exact zO hK
    refine zS (fun w' hS hV K hK => ?_) ?_
    · have q2 := hS.1; obtain ⟨q0, q1⟩ := hS.2.1.two; go_simp; exact zO hK
    refine zS (fun w' hS hV K hK => ?_) ?_
    · have e2 := zQ hV 2; have q2 := hS.1; obtain ⟨q0, q1⟩ := hS.2.1.two; go_simp; exact zO hK
    refine zS (fun w' hS hV K hK => ?_) ?_
    · have e3 := zQ hV 3; have q2 := hS.1; obtain ⟨q0, q1⟩ := hS.2.1.two; go_simp; exact zO hK
    refine zS (fun w' hS hV K hK => ?_) ?_
    · have e1 := zQ hV 1; have e4 := zQ hV 4; have q2 := hS.1; obtain ⟨q0, q1⟩ := hS.2.1.two; go_simp; exact zO hK
    refine zS (fun w' hS hV K hK => ?_) ?_
    · have e5 := zQ hV 5; have q2 := hS.1; obtain ⟨q0, q1⟩ := hS.2.1.two; go_simp; exact zO hK
    refine zS (fun w' hS hV K hK => ?_) ?_
    · have q2 := hS.1; obtain ⟨q0, q1⟩ := hS.2.1.two; go_simp; exact zO hK
    refine zS (fun w' hS hV K hK => ?_) ?_
    · have e0 := zQ hV 0
      have e6 := zQ hV 6
      have e7 := zQ hV 7
      have q2 := hS.1; obtain ⟨q0, q1⟩ := hS.2.1.two
      go_simp
      have htm := l04Times_any P A n c sq Ak ck PQ X cx xs w' (by omega) hp2 (by omega) (HAR.out.below hS.2.2) HS.out (HPQ.out.below hS.2.2) HAL.out.1 (HXR.out.below hS.2.2) HXS.out
      refine htm.mono ?_
      rintro e v1 ⟨A9, c9, rfl, hM⟩
      have hM2 : MkI w' v1 A9 (pw n) c9 PK := by rw [← HTL.out]; exact hM
      exact hK.out _ _ _ rfl rfl ⟨_, _, rfl, hM2.after hS.2.2⟩ hM2.b
    refine zS (fun w' hS hV K hK => ?_) ?_
    · obtain ⟨A8, c8, e8, h8⟩ := hV 8 (by decide); have q2 := hS.1; obtain ⟨q0, q1⟩ := hS.2.1.two; go_simp; exact hK.out _ _ _ rfl rfl ⟨_, _, rfl, h8⟩ zG
    refine fun w' hS hV => ?_
    have e0 := zT hV 0
    have e1 := zT hV 1
    have e2 := zT hV 2
    have e3 := zT hV 3
    have e4 := zT hV 4
    have e5 := zT hV 5
    have e6 := zT hV 6
    have e7 := zT hV 7
    obtain ⟨A8, c8, e8, h8⟩ := hV 8 (by decide)
    obtain ⟨A9, c9, e9, h9⟩ := hV 9 (by decide)
    simp only [e0, e1, e2, e3, e4, e5, e6, e7, e8, e9]
    clear e0 e1 e2 e3 e4 e5 e6 e7 e8 e9
    refine wpAny_done (by kernel_rfl) ?_ _
    obtain ⟨w18, hw18⟩ : ∃ W, W = w' := ⟨_, rfl⟩
    rw [← hw18] at hS h9 ⊢
    have k7 := hS.2.1
    have hb18 := hS.2.2
    have HPR := Lib.hid h9
    have hrd2 := hrd.below hb18
    obtain ⟨AK, hAK⟩ : ∃ a, a = A9 := ⟨_, rfl⟩
    obtain ⟨cK, hcK⟩ : ∃ a, a = c9 := ⟨_, rfl⟩
    rw [← hAK, ← hcK] at HPR ⊢
    clear hS q0 q1 hw18 h9 hck k6 W1 hAK hcK hrd hcc i1 i2
    have HPN : Hid (NumsL P PK) := Lib.hid (by rw [HPK.out]; exact (HF3.out k).2)
    have HT := Lib.hid (HF2.out k)
    have hsn := solR_small (show 0 < P by omega) (HT.out.2.2 (by omega)) HPN.out
    have hsm : solR P (transL (pwsL P sq n xs k)) PK k = mstR P sq n xs k := by rw [HPK.out]; rfl
    rw [hsm] at hsn
    obtain ⟨⟨y, b⟩, hyb⟩ : ∃ R, R = mstR P sq n xs k := ⟨_, rfl⟩
    rw [← hyb] at hsn hsm
    have HYB := Lib.hid hyb
    have HSN := Lib.hid hsn
    have HSM := Lib.hid hsm
    clear hyb hsn hsm
    obtain ⟨q0, q1⟩ := k7.two
    go_wp2
    refine wp_obs 11 [[],[0],[],[2],[],[0,1,2,3,4],[0,1,2,3,4,5],[0,1,2,3,4,5,6],[0,1,2,3,4,5,6],[0,1,2,3,4,5,6,7],[0,1,2,3,4,5,6,8]] [VIs (.pointer (some ⟨w.heap.size, 0, none⟩)), VIs (.int .i64 (P)), VIs (.slice (some ⟨gp, op_, none⟩) k c'), VMat w18 (pw n) (transL (pwsL P sq n xs k)), VIs (.slice AK (pw n) cK), VTsb w18 y b, VTsb w18 y b, VSl w18 y.length y, VIs (.bool b), VSl w18 y.length y, VIs (.bool b)] (fun w' => Blk w' w.heap.size 26 #[.int .i64 P, .slice A n c] ∧ Below w18.heap.size w18 w') (by kernel_rfl) (by kernel_rfl) (fun _ _ h hb => ⟨h.1.below hb h.1.lt, h.2.trans (hb.mono h.2.size)⟩) (⟨k7.drew, zG.drew⟩) (fun x => ?_)
    refine zS (fun w' hS hV K hK => ?_) ?_
    · obtain ⟨q0, q1⟩ := hS.1.two; go_simp; exact zO hK
    refine zS (fun w' hS hV K hK => ?_) ?_
    · have e0 := zQ hV 0; obtain ⟨q0, q1⟩ := hS.1.two; go_simp; exact zO hK
    refine zS (fun w' hS hV K hK => ?_) ?_
    · obtain ⟨q0, q1⟩ := hS.1.two; go_simp; exact zO hK
    refine zS (fun w' hS hV K hK => ?_) ?_
    · have e2 := zQ hV 2; obtain ⟨q0, q1⟩ := hS.1.two; go_simp; refine (l02Turn_any P (some ⟨gp, op_, none⟩) k c' (pwsL P sq n xs k) (pw n) w' (by omega) (by omega) (by omega) (hrd2.below hS.2) HT.out.1).mono ?_; rintro e v1 ⟨A9, c9, rfl, hM⟩; exact hK.out _ _ _ rfl rfl ⟨_, _, rfl, hM.after hS.2⟩ hM.b
    refine zS (fun w' hS hV K hK => ?_) ?_
    · obtain ⟨q0, q1⟩ := hS.1.two; go_simp; exact zO hK
    refine zS (fun w' hS hV K hK => ?_) ?_
    · have e1 := zQ hV 1; obtain ⟨A3, c3, e3, h3⟩ := hV 3 (by decide); have e4 := zQ hV 4; obtain ⟨q0, q1⟩ := hS.1.two; go_simp; have hsv := l02Solve_any P A3 (pw n) c3 (transL (pwsL P sq n xs k)) k AK cK PK w' HPP.out hpn (by omega) (by omega) (by omega) h3.rd (HT.out.2.2 (by omega)) (HPR.out.rd.below hS.2) HPN.out; rw [HSM.out] at hsv; refine hsv.mono ?_; rintro e v1 ⟨A9, k9, c9, rfl, hM⟩; obtain rfl : y.length = k9 := hM.rd.lenI; exact hK.out _ _ _ rfl rfl ⟨_, _, rfl, hM.after hS.2⟩ hM.b
    refine zS (fun w' hS hV K hK => ?_) ?_
    · obtain ⟨A3, c3, e3, h3⟩ := hV 3 (by decide); obtain ⟨A5, c5, e5, h5⟩ := hV 5 (by decide); obtain ⟨q0, q1⟩ := hS.1.two; go_simp; exact hK.out _ _ _ rfl rfl ⟨_, _, rfl, h5⟩ zG
    refine zS (fun w' hS hV K hK => ?_) ?_
    · obtain ⟨A3, c3, e3, h3⟩ := hV 3 (by decide); obtain ⟨A5, c5, e5, h5⟩ := hV 5 (by decide); obtain ⟨A6, c6, e6, h6⟩ := hV 6 (by decide); obtain ⟨q0, q1⟩ := hS.1.two; go_simp; exact hK.out _ _ _ rfl rfl ⟨_, _, rfl, h6⟩ zG
    refine zS (fun w' hS hV K hK => ?_) ?_
    · obtain ⟨A3, c3, e3, h3⟩ := hV 3 (by decide); obtain ⟨A5, c5, e5, h5⟩ := hV 5 (by decide); obtain ⟨A6, c6, e6, h6⟩ := hV 6 (by decide); obtain ⟨q0, q1⟩ := hS.1.two; go_simp; exact zO hK
    refine zS (fun w' hS hV K hK => ?_) ?_
    · obtain ⟨A3, c3, e3, h3⟩ := hV 3 (by decide); obtain ⟨A5, c5, e5, h5⟩ := hV 5 (by decide); obtain ⟨A6, c6, e6, h6⟩ := hV 6 (by decide); obtain ⟨A7, c7, e7, h7⟩ := hV 7 (by decide); obtain ⟨q0, q1⟩ := hS.1.two; go_simp; exact hK.out _ _ _ rfl rfl ⟨_, _, rfl, h7⟩ zG
    refine zS (fun w' hS hV K hK => ?_) ?_
    · obtain ⟨A3, c3, e3, h3⟩ := hV 3 (by decide); obtain ⟨A5, c5, e5, h5⟩ := hV 5 (by decide); obtain ⟨A6, c6, e6, h6⟩ := hV 6 (by decide); have e8 := zQ hV 8; obtain ⟨q0, q1⟩ := hS.1.two; go_simp; exact zO hK
    refine fun w' hS hV => ?_
    have e0 := zT hV 0
    have e1 := zT hV 1
    have e2 := zT hV 2
    obtain ⟨A3, c3, e3, h3⟩ := hV 3 (by decide)
    have e4 := zT hV 4
    obtain ⟨A5, c5, e5, h5⟩ := hV 5 (by decide)
    obtain ⟨A6, c6, e6, h6⟩ := hV 6 (by decide)
    obtain ⟨A7, c7, e7, h7⟩ := hV 7 (by decide)
    have e8 := zT hV 8
    obtain ⟨A9, c9, e9, h9⟩ := hV 9 (by decide)
    have e10 := zT hV 10
    simp only [e0, e1, e2, e3, e4, e5, e6, e7, e8, e9, e10]
    clear e0 e1 e2 e3 e4 e5 e6 e7 e8 e9 e10
    refine wpAny_done (by kernel_rfl) ?_ _
    obtain ⟨w21, hw21⟩ : ∃ W, W = w' := ⟨_, rfl⟩
    rw [← hw21] at hS h9 ⊢
    have k10 := hS.1
    have hb21 := hb18.trans (hS.2.mono hb18.size)
    have hPR2 := HPR.out.below hS.2
    have hM9 := h9
    obtain ⟨A9, hA9⟩ : ∃ a, a = A9 := ⟨_, rfl⟩
    obtain ⟨c9, hc9⟩ : ∃ a, a = c9 := ⟨_, rfl⟩
    rw [← hA9, ← hc9] at hM9 ⊢
    obtain ⟨k9', hk9⟩ : ∃ j, j = y.length := ⟨_, rfl⟩
    rw [← hk9] at hM9 ⊢
    have hy9 : y.length = k9' := hk9.symm
    clear hS q0 q1 hw21 h9 hA9 hc9 hk9 k7 hb18 hrd2
    obtain ⟨q0, q1⟩ := k10.two
    cases b with
    | true =>
     have hkK : k = K := by
      rcases Nat.lt_or_ge k K with h | h
      · have h9 := HK3.out.2 k hk1 h
        rw [← HYB.out] at h9; cases h9
      · omega
     have hyk : y.length ≤ k := HSN.out.2
     have HLE : Hid (L = scaleL P y (-1) ++ [1]) := Lib.hid (by rw [HL.out, ← hkK, ← HYB.out])
     have HBB := Lib.hid (hBw.trans (hb21.mono hBw.size))
     clear hkK
     have hcall := l02Scale_any P A9 k9' c9 (P - 1) y w21 hp hp2 (by omega) hM9.rd HSN.out.1 (by omega) (by omega)
     rw [scaleL_neg] at hcall
     have WP : wrap64 (P - 1) = P - 1 := by unfold wrap64; omega
     go_wp2_with fail
     refine hcall.mono ?_
     rintro e w23 ⟨Az, cz, rfl, hMz⟩
     have HZ := Lib.hid (hMz.after HBB.out)
     clear hcall hMz hM9 WP q0 q1
     go_wp2_with (at_builtin; refine wpList_app1 w _ 24 2 _ _ Tryz.underlying24 info_i rfl (by omega) rfl _ _ rfl Az k9' cz _ _ HZ.out (by omega) rfl rfl rfl ?_; intro A4 c4 w4 hM4 _ _)
     go_ret2
     have hM5 : MkI w w4 A4 (k9' + 1) c4 L := by rw [HLE.out]; unfold MkI; rw [show ints (scaleL P y (-1) ++ [1]) = ints (scaleL P y (-1)) ++ [.int .i64 1] by simp [ints]]; exact hM4
     exact aRow3 HOK.out hM5
    | false =>
     have hkK : k + 1 ≤ K := by
      rcases Nat.lt_or_ge k K with h | h
      · exact h
      · have h9 := HK3.out.1
        rw [show K = k by omega, ← HYB.out] at h9; cases h9
     have hPS : Hid (pwsL P sq n xs (k + 1) = pwsL P sq n xs k ++ [PK]) := Lib.hid (by rw [HPK.out]; unfold pwsL; rw [tab_succ])
     clear q0 q1 hM9
     go_wp2_with (at_builtin; refine wpList_appRowG w wr _ rfl _ _ rfl (some ⟨gp, op_, none⟩) k c' _ AK (pw n) cK _ HM.out hPR2 (by omega) rfl ?_ ?_; (go_simp); intro A20 c20 w24 hM20 hg20 hat20)
     have k11 := k10.grown hg20 ((HM.out.below hb21).ne_blk k10 (by decide))
     clear hg20 hat20 k10
     go_roundw
     case rel => exact ⟨k + 1, A20, c20, by omega, hkK, rfl, by rw [hPS.out]; exact hM20, k11⟩
     case measure => simp [lenM]; omega
 · obtain ⟨r, hr⟩ : ∃ r, r = codeA P sq [xs] := ⟨_, rfl⟩
   have HR := Lib.hid hr
   have HR0 := Lib.hid hr0
   have b0 : (r != 0) = true := code_ne (by rw [hr]; exact hr0)
   rw [← hr] at hreg
   clear hr hr0
   go_enter Tryz.func63, Tryz.ntmps63
   go_wp2_with fail
   refine hreg.mono ?_
   rintro e w2 ⟨rfl, hb2⟩
   have hB2 := hB1.trans (hb2.mono hB1.size)
   go_wp2
   go_ret2
   exact noRow3 (by rw [mnpR_bad HR0.out, HR.out]) hB2
set_option maxHeartbeats 6400000 in
set_option maxRecDepth 8000 in
theorem LeftMatrix_ok (P : Int) (A : Option Addr) (n c : Nat) (sq : List Int) (X : Option Addr) (cx : Nat) (xs : List Int) (w : World) (hn : n ≤ 1048576) (hm : pw n ≤ 1048576) (ha : Rd w A n (ints sq)) (hx : Rd w X (pw n) (ints xs)) (hcx : pw n ≤ cx) (h0 : codeA P sq [xs] = 0) :
    Calls Tryz.prog 64 #[.agg #[.int .i64 P, .slice A n c], .slice X (pw n) cx] w fun e w' => ∃ (A' : Option Addr) (c' : Nat), e = .returned (.tuple #[.slice A' (pw n) c', .int .i64 0]) ∧ MkII w w' A' (pw n) c' (lmL P sq n xs) := by
 have hB0 : Below w.heap.size w (w.alloc (.cells #[.int .i64 P, .slice A n c] 26)) := zG.alloc (Nat.le_refl _) _
 have k0 : Blk (w.alloc (.cells #[.int .i64 P, .slice A n c] 26)) w.heap.size 26 #[.int .i64 P, .slice A n c] := Blk.new _ _ _
 have hB1 : Below w.heap.size w ((w.alloc (.cells #[.int .i64 P, .slice A n c] 26)).alloc (.cells #[.slice X (pw n) cx] 24)) := hB0.alloc (by simp) _
 have k1 : Blk ((w.alloc (.cells #[.int .i64 P, .slice A n c] 26)).alloc (.cells #[.slice X (pw n) cx] 24)) w.heap.size 26 #[.int .i64 P, .slice A n c] := k0.alloc _
 have hreg := checkAlgebra_any P A (some ⟨w.heap.size + 1, 0, none⟩) n c 1 1 sq [xs] ((w.alloc (.cells #[.int .i64 P, .slice A n c] 26)).alloc (.cells #[.slice X (pw n) cx] 24)) hn (by omega) (ha.below hB1) (rdII_one' (Blk.newAt3 (by simp)) (hx.below hB1) hcx) (all_one (by rw [hx.lenI]; exact hm))
 rw [h0] at hreg
 obtain ⟨hcM, h4⟩ := codeA_zero h0
 obtain ⟨HP, hp, hp2, hd1, hd2, hs, hms⟩ := codeM_spec3 hcM
 obtain ⟨hx1, hxs⟩ := hms xs (by simp)
 have hsl := ha.lenI
 have hn4 : n ≤ 4 := by omega
 go_enter Tryz.func64, Tryz.ntmps64
 go_wp2_with fail
 refine hreg.mono ?_
 rintro e w2 ⟨rfl, hb2⟩
 have hB2 := hB1.trans (hb2.mono hB1.size)
 have k2 := k1.below hb2 k1.lt
 have hcall := leftMatrix_any P A n c sq X cx xs w2 hp hp2 (by omega) (ha.below hB2) hs (hx.below hB2) hxs hcx
 clear k0 k1 hreg hb2 hB0 hB1 hms hxs hx1 h0 hcM
 obtain ⟨q0, q1⟩ := k2.two
 go_wp2_with fail
 refine hcall.mono ?_
 rintro e w3 ⟨A3, c3, rfl, hM⟩
 go_wp2
 go_ret2
 exact ⟨_, _, rfl, hM.after hB2⟩
set_option maxHeartbeats 6400000 in
set_option maxRecDepth 8000 in
theorem PowerOf_ok (P : Int) (A : Option Addr) (n c : Nat) (sq : List Int) (X : Option Addr) (cx : Nat) (xs : List Int) (kk : Nat) (w : World) (hn : n ≤ 1048576) (hm : pw n ≤ 1048576) (ha : Rd w A n (ints sq)) (hx : Rd w X (pw n) (ints xs)) (hcx : pw n ≤ cx) (h0 : codeM P sq [xs] = 0) (hk : kk ≤ 100) :
    Calls Tryz.prog 66 #[.agg #[.int .i64 P, .slice A n c], .slice X (pw n) cx, .int .i64 kk] w fun e w' => ∃ (A' : Option Addr) (c' : Nat), e = .returned (.tuple #[.slice A' (pw n) c', .int .i64 0]) ∧ MkI w w' A' (pw n) c' (pwrL P sq n xs kk) := by
 have hB0 : Below w.heap.size w (w.alloc (.cells #[.int .i64 P, .slice A n c] 26)) := zG.alloc (Nat.le_refl _) _
 have k0 : Blk (w.alloc (.cells #[.int .i64 P, .slice A n c] 26)) w.heap.size 26 #[.int .i64 P, .slice A n c] := Blk.new _ _ _
 have hB1 : Below w.heap.size w ((w.alloc (.cells #[.int .i64 P, .slice A n c] 26)).alloc (.cells #[.slice X (pw n) cx] 24)) := hB0.alloc (by simp) _
 have k1 : Blk ((w.alloc (.cells #[.int .i64 P, .slice A n c] 26)).alloc (.cells #[.slice X (pw n) cx] 24)) w.heap.size 26 #[.int .i64 P, .slice A n c] := k0.alloc _
 have hreg := checkMultis_any P A (some ⟨w.heap.size + 1, 0, none⟩) n c 1 1 sq [xs] ((w.alloc (.cells #[.int .i64 P, .slice A n c] 26)).alloc (.cells #[.slice X (pw n) cx] 24)) hn (by omega) (ha.below hB1) (rdII_one' (Blk.newAt3 (by simp)) (hx.below hB1) hcx) (all_one (by rw [hx.lenI]; exact hm))
 rw [h0] at hreg
 obtain ⟨HP, hp, hp2, hd1, hd2, hs, hms⟩ := codeM_spec3 h0
 obtain ⟨hx1, hxs⟩ := hms xs (by simp)
 have hsl := ha.lenI
 have hn6 : n ≤ 6 := by omega
 have hir : inR kk 0 100 = true := by unfold inR; simp; omega
 have hirc := fun w' => inRange_any kk 0 100 w'
 rw [hir] at hirc
 have HXN := Lib.hid (And.intro hxs hx.lenI)
 have HS := Lib.hid hs
 have HF3 : Hid (∀ j, (pwrL P sq n xs j).length = pw n ∧ NumsL P (pwrL P sq n xs j)) := Lib.hid (by
  obtain ⟨Z, rfl⟩ : ∃ Z : Cl P sq, Z.l = xs := ⟨⟨xs, hx1, hxs, by omega⟩, rfl⟩
  intro j
  have := pwr_nums (show 0 < P by omega) hp Z j
  rwa [hsl] at this)
 clear hms hxs hx1 h0 hsl hir hs
 go_enter Tryz.func66, Tryz.ntmps66
 go_wp2_with fail
 refine hreg.mono ?_
 rintro e w2 ⟨rfl, hb2⟩
 have hB2 := hB1.trans (hb2.mono hB1.size)
 have k2 := k1.below hb2 k1.lt
 clear k0 k1 hreg hb2 hB0 hB1
 go_wp2_with fail
 refine (hirc w2).mono ?_
 rintro e w3 ⟨rfl, rfl⟩
 clear hirc
 obtain ⟨q0, q1⟩ := k2.two
 go_wp2_with fail
 refine (one_any P A n c _ (by omega)).mono ?_
 rintro e w4 ⟨A1, c1, rfl, hM1⟩
 have hM4 := hM1.after hB2
 have k4 := k2.below hM1.b k2.lt
 clear q0 q1 k2 hM1
 go_wp2
 go_loopw [9, 23] (fun ov iv wr => ∃ (j : Nat) (A' : Option Addr) (c' : Nat), j ≤ kk ∧ iv = .int .i64 j ∧ ov = .slice A' (pw n) c' ∧ MkI w wr A' (pw n) c' (pwrL P sq n xs j) ∧ Blk wr w.heap.size 26 #[.int .i64 P, .slice A n c]) (fun _ iv _ => kk - (intOf iv).toNat)
 case atStart => exact ⟨0, _, _, by omega, rfl, rfl, hM4, k4⟩
 case round =>
  obtain ⟨j, A', c', hj, rfl, rfl, hM, k6⟩ := hrel
  clear hM4 k4
  by_cases hlt : j < kk
  · have hq := HF3.out j
    obtain ⟨Q, hQ⟩ : ∃ Q, Q = pwrL P sq n xs j := ⟨_, rfl⟩
    have HNX : Hid (pwrL P sq n xs (j + 1) = mulL P sq Q xs) := Lib.hid (by rw [hQ]; rfl)
    rw [← hQ] at hM hq
    have hcc := hM.2.cap
    have hAl : Below wr.heap.size wr (wr.alloc (.cells #[.slice A' (pw n) c', .slice X (pw n) cx] 24)) := zG.alloc (Nat.le_refl _) _
    have hBr := hM.b.trans (hAl.mono hM.b.size)
    have hcall := times_any P A n c sq (some ⟨wr.heap.size, 0, none⟩) 2 2 [Q, xs] (wr.alloc (.cells #[.slice A' (pw n) c', .slice X (pw n) cx] 24)) (by omega) hp2 hn6 (by omega) (ha.below hBr) HS.out (rdII_two (Blk.new wr 24 _) (hM.rd.below hAl) (hx.below hBr) hcc hcx) (all_two ⟨hq.2, hq.1⟩ ⟨HXN.out.1, HXN.out.2⟩)
    rw [timesL_two P sq n Q xs hq.1 hq.2] at hcall
    have HB := Lib.hid hBr
    have k7 := k6.alloc (.cells #[.slice A' (pw n) c', .slice X (pw n) cx] 24)
    obtain ⟨q0, q1⟩ := k6.two
    clear hM hQ hq hcc hAl hBr
    go_wp2_with fail
    refine hcall.mono ?_
    rintro e w7 ⟨A7, c7, rfl, hM7⟩
    have hM8 := hM7.after HB.out
    have k8 := k7.below hM7.b k7.lt
    clear hcall q0 q1 k6 k7 hM7
    go_wp2
    go_roundw
    case rel => exact ⟨j + 1, A7, c7, by omega, by go_num, rfl, by rw [HNX.out]; exact hM8, k8⟩
    case measure => simp [intOf]; omega
  · obtain rfl : j = kk := by omega
    go_wp2
    go_ret2
    exact ⟨_, _, rfl, hM⟩
theorem zeroL_at (xs : List Int) : zeroL xs = true ↔ ∀ i, i < xs.length → xs.getD i 0 = 0 := by
 unfold zeroL
 rw [beq_iff_eq]
 constructor
 · intro h i hi; exact leadL_before xs i (by omega)
 · exact fun h => leadL_eq xs xs.length h (.inl rfl)
theorem Cl.zero_iff {p : Int} {sq : List Int} (x : Cl p sq) : zeroL x.l = true ↔ x = Cl.zero x.pos := by
 rw [zeroL_at, Cl.len]
 constructor
 · intro h
   refine Cl.same fun m hm => ?_
   rw [Cl.zero_co x.pos hm]
   show x.co m % p = 0
   rw [show x.co m = 0 from h m hm, Int.zero_emod]
 · intro h i hi
   have := congrArg (fun y : Cl p sq => y.co i % p) h
   rw [Cl.zero_co x.pos hi, Cl.co_mod] at this
   exact this
set_option maxHeartbeats 6400000 in
set_option maxRecDepth 8000 in
theorem IsIdempotent_ok (P : Int) (A : Option Addr) (n c : Nat) (sq : List Int) (X : Option Addr) (cx : Nat) (xs : List Int) (w : World) (hn : n ≤ 1048576) (hm : pw n ≤ 1048576) (ha : Rd w A n (ints sq)) (hx : Rd w X (pw n) (ints xs)) (hcx : pw n ≤ cx) (h0 : codeA P sq [xs] = 0) :
    Calls Tryz.prog 71 #[.agg #[.int .i64 P, .slice A n c], .slice X (pw n) cx] w fun e w' => e = .returned (.tuple #[.bool (zeroL (plusL P (mulL P sq xs xs) xs (-1))), .int .i64 0]) ∧ Below w.heap.size w w' := by
 have hB0 : Below w.heap.size w (w.alloc (.cells #[.int .i64 P, .slice A n c] 26)) := zG.alloc (Nat.le_refl _) _
 have k0 : Blk (w.alloc (.cells #[.int .i64 P, .slice A n c] 26)) w.heap.size 26 #[.int .i64 P, .slice A n c] := Blk.new _ _ _
 have hB1 : Below w.heap.size w ((w.alloc (.cells #[.int .i64 P, .slice A n c] 26)).alloc (.cells #[.slice X (pw n) cx] 24)) := hB0.alloc (by simp) _
 have k1 : Blk ((w.alloc (.cells #[.int .i64 P, .slice A n c] 26)).alloc (.cells #[.slice X (pw n) cx] 24)) w.heap.size 26 #[.int .i64 P, .slice A n c] := k0.alloc _
 have hreg := checkAlgebra_any P A (some ⟨w.heap.size + 1, 0, none⟩) n c 1 1 sq [xs] ((w.alloc (.cells #[.int .i64 P, .slice A n c] 26)).alloc (.cells #[.slice X (pw n) cx] 24)) hn (by omega) (ha.below hB1) (rdII_one' (Blk.newAt3 (by simp)) (hx.below hB1) hcx) (all_one (by rw [hx.lenI]; exact hm))
 rw [h0] at hreg
 obtain ⟨hcM, h4⟩ := codeA_zero h0
 obtain ⟨HP, hp, hp2, hd1, hd2, hs, hms⟩ := codeM_spec3 hcM
 obtain ⟨hx1, hxs⟩ := hms xs (by simp)
 have hsl := ha.lenI
 have hn4 : n ≤ 4 := by omega
 have hpw : pw n ≤ 16 := pw_le hn4
 have HXS := Lib.hid hxs
 have HS := Lib.hid hs
 have HAL : Hid (∀ ys ∈ [xs, xs], NumsL P ys ∧ ys.length = pw n) := Lib.hid (all_two ⟨hxs, hx.lenI⟩ ⟨hxs, hx.lenI⟩)
 have HTL : Hid (timesL P sq n [xs, xs] = mulL P sq xs xs) := Lib.hid (timesL_two P sq n xs xs hx.lenI hxs)
 obtain ⟨z, hz⟩ : ∃ z, z = zeroL (plusL P (mulL P sq xs xs) xs (-1)) := ⟨_, rfl⟩
 have HZ : Hid (zeroL (plusL P (mulL P sq xs xs) xs (-1)) = z) := Lib.hid hz.symm
 rw [← hz]
 clear hms hx1 hxs hs h0 hcM hsl hz
 go_enter Tryz.func71, Tryz.ntmps71
 go_wp2_with fail
 refine hreg.mono ?_
 rintro e w2 ⟨rfl, hb2⟩
 have hB2 := hB1.trans (hb2.mono hB1.size)
 have k2 := k1.below hb2 k1.lt
 clear k0 k1 hreg hb2 hB0 hB1
 obtain ⟨q0, q1⟩ := k2.two
 go_wp2
 refine wp_obs 12 [[],[0],[],[],[],[3,4],[2,3,4,5],[],[0,1,2,3,4,5,6,7],[0,1,2,3,4,5,6,7,8],[0,1,2,3,4,5,6,7,8,9],[]] [VIs (.agg #[.int .i64 P, .slice A n c]), VIs (.int .i64 (P)), VIs (.agg #[.int .i64 P, .slice A n c]), VIs (.slice X (pw n) cx), VIs (.slice X (pw n) cx), VRow 2 [xs, xs], VSl w2 (pw n) (mulL P sq xs xs), VIs (.slice X (pw n) cx), VSl w2 (pw n) (plusL P (mulL P sq xs xs) xs (-1)), VIs (.bool z), VIs (.bool z), VIs (.int .i64 0)] (fun w' => Blk w' w.heap.size 26 #[.int .i64 P, .slice A n c] ∧ Below w2.heap.size w2 w') (by kernel_rfl) (by kernel_rfl) (fun _ _ h hb => ⟨h.1.below hb h.1.lt, h.2.trans (hb.mono h.2.size)⟩) (⟨k2.drew, zG.drew⟩) (fun x => ?_)
 refine zS (fun w' hS hV K hK => ?_) ?_
 · obtain ⟨q0, q1⟩ := hS.1.two; go_simp; exact zO hK
 refine zS (fun w' hS hV K hK => ?_) ?_
 · have e0 := zQ hV 0; obtain ⟨q0, q1⟩ := hS.1.two; go_simp; refine (field_any _ _ _ _ _).mono ?_; rintro e v1 ⟨rfl, hb⟩; exact hK.out _ _ _ rfl rfl rfl hb
 refine zS (fun w' hS hV K hK => ?_) ?_
 · obtain ⟨q0, q1⟩ := hS.1.two; go_simp; exact zO hK
 refine zS (fun w' hS hV K hK => ?_) ?_
 · obtain ⟨q0, q1⟩ := hS.1.two; go_simp; exact zO hK
 refine zS (fun w' hS hV K hK => ?_) ?_
 · obtain ⟨q0, q1⟩ := hS.1.two; go_simp; exact zO hK
 refine zS (fun w' hS hV K hK => ?_) ?_
 · have e3 := zQ hV 3; have e4 := zQ hV 4; obtain ⟨q0, q1⟩ := hS.1.two; go_simp; exact hK.out _ _ _ rfl rfl ⟨_, _, rfl, rdII_two (Blk.new w' 24 _) ((hx.below (hB2.trans (hS.2.mono hB2.size))).below (zG.alloc (Nat.le_refl _) _)) ((hx.below (hB2.trans (hS.2.mono hB2.size))).below (zG.alloc (Nat.le_refl _) _)) hcx hcx⟩ (zG.alloc (Nat.le_refl _) _)
 refine zS (fun w' hS hV K hK => ?_) ?_
 · have e2 := zQ hV 2; obtain ⟨A5, c5, e5, h5⟩ := hV 5 (by decide); obtain ⟨q0, q1⟩ := hS.1.two; go_simp; have htm := times_any P A n c sq A5 2 c5 [xs, xs] w' hp hp2 (by omega) (by omega) (ha.below (hB2.trans (hS.2.mono hB2.size))) HS.out h5 HAL.out; rw [HTL.out] at htm; refine htm.mono ?_; rintro e v1 ⟨A9, c9, rfl, hM⟩; exact hK.out _ _ _ rfl rfl ⟨_, _, rfl, hM.after hS.2⟩ hM.b
 refine zS (fun w' hS hV K hK => ?_) ?_
 · obtain ⟨q0, q1⟩ := hS.1.two; go_simp; exact zO hK
 refine zS (fun w' hS hV K hK => ?_) ?_
 · have e1 := zQ hV 1; obtain ⟨A5, c5, e5, h5⟩ := hV 5 (by decide); obtain ⟨A6, c6, e6, h6⟩ := hV 6 (by decide); have e7 := zQ hV 7; obtain ⟨q0, q1⟩ := hS.1.two; go_simp; refine (plus_any P A6 (pw n) c6 X (pw n) cx (-1) (mulL P sq xs xs) xs w' hp hp2 (by omega) (Nat.le_refl _) h6.rd (mulL_nums (by omega) _ _ _) (hx.below (hB2.trans (hS.2.mono hB2.size))) HXS.out (by omega) (by omega)).mono ?_; rintro e v1 ⟨A9, c9, rfl, hM⟩; exact hK.out _ _ _ rfl rfl ⟨_, _, rfl, hM.after hS.2⟩ hM.b
 refine zS (fun w' hS hV K hK => ?_) ?_
 · obtain ⟨A5, c5, e5, h5⟩ := hV 5 (by decide); obtain ⟨A6, c6, e6, h6⟩ := hV 6 (by decide); obtain ⟨A8, c8, e8, h8⟩ := hV 8 (by decide); obtain ⟨q0, q1⟩ := hS.1.two; go_simp; refine (isZero_any _ _ _ (plusL P (mulL P sq xs xs) xs (-1)) _ (by omega) h8.rd).mono ?_; rintro e v1 ⟨rfl, rfl⟩; rw [HZ.out]; exact zO hK
 refine zS (fun w' hS hV K hK => ?_) ?_
 · obtain ⟨A5, c5, e5, h5⟩ := hV 5 (by decide); obtain ⟨A6, c6, e6, h6⟩ := hV 6 (by decide); obtain ⟨A8, c8, e8, h8⟩ := hV 8 (by decide); have e9 := zQ hV 9; obtain ⟨q0, q1⟩ := hS.1.two; go_simp; exact zO hK
 refine zS (fun w' hS hV K hK => ?_) ?_
 · obtain ⟨q0, q1⟩ := hS.1.two; go_simp; exact zO hK
 refine fun w' hS hV => ?_
 have e0 := zT hV 0
 have e1 := zT hV 1
 have e2 := zT hV 2
 have e3 := zT hV 3
 have e4 := zT hV 4
 obtain ⟨A5, c5, e5, h5⟩ := hV 5 (by decide)
 obtain ⟨A6, c6, e6, h6⟩ := hV 6 (by decide)
 have e7 := zT hV 7
 obtain ⟨A8, c8, e8, h8⟩ := hV 8 (by decide)
 have e9 := zT hV 9
 have e10 := zT hV 10
 have e11 := zT hV 11
 simp only [e0, e1, e2, e3, e4, e5, e6, e7, e8, e9, e10, e11]
 clear e0 e1 e2 e3 e4 e5 e6 e7 e8 e9 e10 e11
 refine wpAny_done (by kernel_rfl) ?_ _
 go_wp2
 go_ret2
 exact ⟨rfl, hB2.trans (hS.2.mono hB2.size)⟩
theorem vid_same {P : Int} (hp : 0 < P) (xs ys : List Int) (a b : Int) (hl : xs.length = ys.length) : scaleL P (plusL P xs ys a) b = plusL P (scaleL P xs b) ys (b * a % P) := by
 refine list_ext_getD 0 (by rw [scaleL_len, plusL_len, plusL_len, scaleL_len]) fun i hi => ?_
 rw [scaleL_len, plusL_len] at hi
 rw [scaleL_getD _ (by rw [plusL_len]; exact hi), plusL_getD _ _ hi, plusL_getD _ _ (by rw [scaleL_len]; exact hi), scaleL_getD _ hi]
 refine (cg_mul (Int.emod_emod_of_dvd _ (Int.dvd_refl P)) rfl).trans ?_
 refine Eq.trans ?_ (cg_add (Int.emod_emod_of_dvd _ (Int.dvd_refl P)) (cg_mul (Int.emod_emod_of_dvd _ (Int.dvd_refl P)) rfl)).symm
 congr 1
 rw [Int.add_mul]
 congr 1
 rw [Int.mul_comm b a, Int.mul_assoc, Int.mul_assoc, Int.mul_comm (ys.getD i 0)]
set_option maxHeartbeats 6400000 in
set_option maxRecDepth 8000 in
theorem VectorIdempotent_any (P : Int) (A : Option Addr) (n c : Nat) (sq : List Int) (X : Option Addr) (m cx : Nat) (xs : List Int) (w : World) (hn : n ≤ 1048576) (hm : m ≤ 1048576) (ha : Rd w A n (ints sq)) (hx : Rd w X m (ints xs)) (hcx : m ≤ cx) :
    Calls Tryz.prog 69 #[.agg #[.int .i64 P, .slice A n c], .slice X m cx] w fun e w' => ∃ (A' : Option Addr) (k c' : Nat), e = .returned (.tuple #[.slice A' k c', .int .i64 (vidR P sq xs).2]) ∧ MkI w w' A' k c' (vidR P sq xs).1 := by
 have hB0 : Below w.heap.size w (w.alloc (.cells #[.int .i64 P, .slice A n c] 26)) := zG.alloc (Nat.le_refl _) _
 have k0 : Blk (w.alloc (.cells #[.int .i64 P, .slice A n c] 26)) w.heap.size 26 #[.int .i64 P, .slice A n c] := Blk.new _ _ _
 have hB1 : Below w.heap.size w ((w.alloc (.cells #[.int .i64 P, .slice A n c] 26)).alloc (.cells #[.slice X m cx] 24)) := hB0.alloc (by simp) _
 have k1 : Blk ((w.alloc (.cells #[.int .i64 P, .slice A n c] 26)).alloc (.cells #[.slice X m cx] 24)) w.heap.size 26 #[.int .i64 P, .slice A n c] := k0.alloc _
 have hreg := checkAlgebra_any P A (some ⟨w.heap.size + 1, 0, none⟩) n c 1 1 sq [xs] ((w.alloc (.cells #[.int .i64 P, .slice A n c] 26)).alloc (.cells #[.slice X m cx] 24)) hn (by omega) (ha.below hB1) (rdII_one' (Blk.newAt3 (by simp)) (hx.below hB1) hcx) (all_one (by rw [hx.lenI]; exact hm))
 by_cases hr0 : codeA P sq [xs] = 0
 · rw [hr0] at hreg
   obtain ⟨hcM, h4⟩ := codeA_zero hr0
   obtain ⟨HP, hp, hp2, hd1, hd2, hs, hms⟩ := codeM_spec3 hcM
   obtain ⟨hx1, hxs⟩ := hms xs (by simp)
   have hsl := ha.lenI
   have hmn : m = pw n := by rw [← hx.lenI, hx1, hsl]
   subst hmn
   have hn4 : n ≤ 4 := by omega
   have hpw : pw n ≤ 16 := pw_le hn4
   have HR0 := Lib.hid hr0
   have HSL := Lib.hid hsl
   have HXS := Lib.hid hxs
   have HXL := Lib.hid hx.lenI
   have HS := Lib.hid hs
   have HPP := Lib.hid HP
   obtain ⟨nm, hnm⟩ : ∃ z, z = pairL P sq (partL n xs) (partL n xs) := ⟨_, rfl⟩
   have HNM : Hid (pairL P sq (partL n xs) (partL n xs) = nm) := Lib.hid hnm.symm
   have hnm2 : 0 ≤ nm ∧ nm < P := by rw [hnm]; exact pairL_small (by omega) sq _ _
   have HVR : Hid (vrtL P sq sq.length xs = rootI (rootF P nm P.toNat 0)) := Lib.hid (by unfold vrtL; rw [hsl, ← hnm])
   have HON : Hid (decide (xs = partG xs 1) = onlyL xs 1) := Lib.hid (onlyL_part2 (by rw [hx.lenI]; omega) 1)
   clear hsl hs hxs hx1 hms hd1 hd2 h4 hcM hr0 HP hnm
   go_enter Tryz.func69, Tryz.ntmps69
   go_wp2_with fail
   refine hreg.mono ?_
   rintro e w2 ⟨rfl, hb2⟩
   have hB2 := hB1.trans (hb2.mono hB1.size)
   have k2 := k1.below hb2 k1.lt
   clear k0 k1 hreg hb2 hB0 hB1
   obtain ⟨q0, q1⟩ := k2.two
   go_wp2
   refine wp_obs 6 [[],[],[],[1,2],[0,1,2,3],[0,1,2,3,4]] [VIs (.agg #[.int .i64 P, .slice A n c]), VIs (.agg #[.int .i64 P, .slice A n c]), VIs (.slice X (pw n) cx), VSl w2 n (partL n xs), VIs (.int .i64 (nm)), VIs (.int .i64 (nm))] (fun w' => Blk w' w.heap.size 26 #[.int .i64 P, .slice A n c] ∧ Below w2.heap.size w2 w') (by kernel_rfl) (by kernel_rfl) (fun _ _ h hb => ⟨h.1.below hb h.1.lt, h.2.trans (hb.mono h.2.size)⟩) (⟨k2.drew, zG.drew⟩) (fun x => ?_)
   refine zS (fun w' hS hV K hK => ?_) ?_
   · obtain ⟨q0, q1⟩ := hS.1.two; go_simp; exact zO hK
   refine zS (fun w' hS hV K hK => ?_) ?_
   · obtain ⟨q0, q1⟩ := hS.1.two; go_simp; exact zO hK
   refine zS (fun w' hS hV K hK => ?_) ?_
   · obtain ⟨q0, q1⟩ := hS.1.two; go_simp; exact zO hK
   refine zS (fun w' hS hV K hK => ?_) ?_
   · have e1 := zQ hV 1; have e2 := zQ hV 2; obtain ⟨q0, q1⟩ := hS.1.two; go_simp; refine (vectorPart_any P A n c X cx xs w' (by omega) (hx.below (hB2.trans (hS.2.mono hB2.size)))).mono ?_; rintro e v1 ⟨A9, c9, rfl, hM⟩; exact hK.out _ _ _ rfl rfl ⟨_, _, rfl, hM.after hS.2⟩ hM.b
   refine zS (fun w' hS hV K hK => ?_) ?_
   · have e0 := zQ hV 0; obtain ⟨A3, c3, e3, h3⟩ := hV 3 (by decide); obtain ⟨q0, q1⟩ := hS.1.two; go_simp; refine (norm_any P A n c sq A3 c3 (partL n xs) w' hp hp2 (by omega) (ha.below (hB2.trans (hS.2.mono hB2.size))) HS.out h3.rd (partL_nums (by omega) _ _ HXS.out)).mono ?_; rintro e v1 ⟨rfl, hb⟩; rw [HNM.out]; exact hK.out _ _ _ rfl rfl rfl hb
   refine zS (fun w' hS hV K hK => ?_) ?_
   · obtain ⟨A3, c3, e3, h3⟩ := hV 3 (by decide); have e4 := zQ hV 4; obtain ⟨q0, q1⟩ := hS.1.two; go_simp; exact zO hK
   refine fun w' hS hV => ?_
   have e0 := zT hV 0
   have e1 := zT hV 1
   have e2 := zT hV 2
   obtain ⟨A3, c3, e3, h3⟩ := hV 3 (by decide)
   have e4 := zT hV 4
   have e5 := zT hV 5
   simp only [e0, e1, e2, e3, e4, e5]
   clear e0 e1 e2 e3 e4 e5
   refine wpAny_done (by kernel_rfl) ?_ _
   obtain ⟨w3, hw3⟩ : ∃ W, W = w' := ⟨_, rfl⟩
   rw [← hw3] at hS ⊢
   have k3 := hS.1
   have hB3 := hB2.trans (hS.2.mono hB2.size)
   clear hS q0 q1 hw3 k2
   obtain ⟨q0, q1⟩ := k3.two
   go_wp2_with fail
   refine (field_any P A n c w3).mono ?_
   rintro e w4 ⟨rfl, hb4⟩
   have hB4 := hB3.trans (hb4.mono hB3.size)
   have k4 := k3.below hb4 k3.lt
   have hrt := root_any P nm w4 hp hp2
   have hon := fun w' (h : Below w4.heap.size w4 w') => onlyGrade_any X (pw n) cx xs 1 w' (by omega) (hx.below (hB4.trans (h.mono hB4.size)))
   clear q0 q1 k3 hb4
   cases hr : rootF P nm P.toNat 0 with
   | none =>
    rw [hr] at hrt
    unfold rootV at hrt
    have HNO : Hid ((decide (xs = partG xs 1) && decide (0 < vrtL P sq sq.length xs)) = false) := Lib.hid (by rw [HVR.out, hr]; simp [rootI])
    clear hr
    go_wp2_with fail
    refine hrt.mono ?_
    rintro e w5 ⟨rfl, rfl⟩
    go_wp2_with fail
    refine (hon w4 zG).mono ?_
    rintro e w6 ⟨rfl, hb6⟩
    have HBB := Lib.hid (hB4.trans (hb6.mono hB4.size))
    clear hon hrt
    cases onlyL xs 1 <;> by_cases hz : nm = 0
    · have t1 : (nm == 0) = true := by simp [hz]
      go_wp2
      go_ret2
      exact noRow3 (vidR_no HR0.out HNO.out) HBB.out
    · have t1 : (nm == 0) = false := by simp [hz]
      go_wp2
      go_ret2
      exact noRow3 (vidR_no HR0.out HNO.out) HBB.out
    · have t1 : (nm == 0) = true := by simp [hz]
      go_wp2
      go_ret2
      exact noRow3 (vidR_no HR0.out HNO.out) HBB.out
    · have t1 : (nm == 0) = false := by simp [hz]
      go_wp2
      go_ret2
      exact noRow3 (vidR_no HR0.out HNO.out) HBB.out
   | some rt =>
    rw [hr] at hrt
    unfold rootV at hrt
    obtain ⟨r1, r2, r3⟩ := rootF_spec P nm _ _ _ hr
    have HRT : Hid (vrtL P sq sq.length xs = rt) := Lib.hid (by rw [HVR.out, hr]; rfl)
    clear hr
    go_wp2_with fail
    refine hrt.mono ?_
    rintro e w5 ⟨rfl, rfl⟩
    go_wp2_with fail
    refine (hon w4 zG).mono ?_
    rintro e w6 ⟨rfl, hb6⟩
    have HBB := Lib.hid (hB4.trans (hb6.mono hB4.size))
    clear hon hrt
    cases ho : onlyL xs 1 with
    | false =>
     have HNO : Hid ((decide (xs = partG xs 1) && decide (0 < vrtL P sq sq.length xs)) = false) := Lib.hid (by rw [HON.out, ho]; rfl)
     clear ho
     by_cases hz : nm = 0
     · have t1 : (nm == 0) = true := by simp [hz]
       go_wp2
       go_ret2
       exact noRow3 (vidR_no HR0.out HNO.out) HBB.out
     · have t1 : (nm == 0) = false := by simp [hz]
       go_wp2
       go_ret2
       exact noRow3 (vidR_no HR0.out HNO.out) HBB.out
    | true =>
     have hrtn : rt = 0 ↔ nm = 0 := by
      constructor
      · intro h; rw [← r3, h]; simp
      · intro h
        refine Classical.byContradiction fun hne => ?_
        have h1 : rt % P ≠ 0 := by rw [Int.emod_eq_of_lt (by omega) (by omega)]; exact hne
        exact mul_ne HPP.out h1 h1 (by rw [r3, h])
     by_cases hz : nm = 0
     · have t1 : (nm == 0) = true := by simp [hz]
       have HNO : Hid ((decide (xs = partG xs 1) && decide (0 < vrtL P sq sq.length xs)) = false) := Lib.hid (by rw [HRT.out, hrtn.2 hz]; simp)
       clear ho hrtn
       go_wp2
       go_ret2
       exact noRow3 (vidR_no HR0.out HNO.out) HBB.out
     · have t1 : (nm == 0) = false := by simp [hz]
       have hrt0 : 0 < rt := by have : rt ≠ 0 := fun h => hz (hrtn.1 h); omega
       have hrtP : rt < P := by omega
       have hi1 := inv_spec HPP.out hrt0 hrtP
       have hi2 := inv_spec HPP.out (show (0 : Int) < 2 by omega) (show (2 : Int) < P by have := isP_ge HPP.out; omega)
       have HVO : Hid (vidR P sq xs = (vidL P sq sq.length xs, 0)) := Lib.hid (vidR_ok HR0.out (by rw [HON.out, ho]) (by rw [HRT.out]; exact hrt0))
       have HVL : Hid (vidL P sq sq.length xs = scaleL P (plusL P (bladeL n 0) xs (invF P rt)) (invF P 2)) := Lib.hid (by
        rw [vid_same (show 0 < P by omega) (bladeL n 0) xs (invF P rt) (invF P 2) (by rw [bladeL_len]; exact HXL.out.symm)]
        unfold vidL
        rw [HRT.out, HSL.out])
       obtain ⟨ir, hir⟩ : ∃ z, z = invF P rt := ⟨_, rfl⟩
       obtain ⟨h2, hh2⟩ : ∃ z, z = invF P 2 := ⟨_, rfl⟩
       have hc1 := fun w' => inv_any P rt w' hp hp2 (by omega) hrtP
       have hc2 := fun w' => inv_any P 2 w' hp hp2 (by omega) (show (2 : Int) < P by have := isP_ge HPP.out; omega)
       rw [← hir] at hc1 hi1 HVL
       rw [← hh2] at hc2 hi2 HVL
       have hia : 0 < ir ∧ ir < P := ⟨hi1.1, hi1.2.1⟩
       have hib : 0 < h2 ∧ h2 < P := ⟨hi2.1, hi2.2.1⟩
       have k6 := k4.below hb6 k4.lt
       clear ho hrtn hi1 hi2 hir hh2 k4 hb6 hB3 hB4 r1 r2 r3 hrt0 hrtP
       obtain ⟨q0, q1⟩ := k6.two
       go_wp2_with fail
       refine (field_any P A n c w6).mono ?_
       rintro e w7 ⟨rfl, hb7⟩
       have hB7 := HBB.out.trans (hb7.mono HBB.out.size)
       have k7 := k6.below hb7 k6.lt
       clear q0 q1 k6 hb7
       obtain ⟨q0, q1⟩ := k7.two
       go_wp2_with fail
       refine (one_any P A n c w7 (by omega)).mono ?_
       rintro e w8 ⟨A8, c8, rfl, hM8⟩
       have hB8 := hB7.trans (hM8.b.mono hB7.size)
       clear q0 q1 k7
       go_wp2_with fail
       refine (hc1 w8).mono ?_
       rintro e w9 ⟨rfl, rfl⟩
       have hpl := plus_any P A8 (pw n) c8 X (pw n) cx ir (bladeL n 0) xs w8 hp hp2 (by omega) (Nat.le_refl _) hM8.rd (bladeL_nums hp _ _) (hx.below hB8) HXS.out (by omega) (by omega)
       clear hc1
       go_wp2_with fail
       refine hpl.mono ?_
       rintro e w10 ⟨A10, c10, rfl, hM10⟩
       have hB10 := hB8.trans (hM10.b.mono hB8.size)
       clear hpl hM8
       go_wp2_with fail
       refine (hc2 w10).mono ?_
       rintro e w11 ⟨rfl, rfl⟩
       have hsc := scaled_any P A10 (pw n) c10 h2 (plusL P (bladeL n 0) xs ir) w10 hp hp2 (by omega) hM10.rd (plusL_nums (by omega) _ _ _) (by omega) (by omega)
       clear hc2
       go_wp2_with fail
       refine hsc.mono ?_
       rintro e w12 ⟨A12, c12, rfl, hM12⟩
       go_wp2
       go_ret2
       exact aRow3 (HVO.out.trans (by rw [HVL.out])) (hM12.after hB10)
 · obtain ⟨r, hr⟩ : ∃ r, r = codeA P sq [xs] := ⟨_, rfl⟩
   have HR := Lib.hid hr
   have HR0 := Lib.hid hr0
   have b0 : (r != 0) = true := code_ne (by rw [hr]; exact hr0)
   rw [← hr] at hreg
   clear hr hr0
   go_enter Tryz.func69, Tryz.ntmps69
   go_wp2_with fail
   refine hreg.mono ?_
   rintro e w2 ⟨rfl, hb2⟩
   have hB2 := hB1.trans (hb2.mono hB1.size)
   go_wp2
   go_ret2
   exact noRow3 (by rw [vidR_bad HR0.out, HR.out]) hB2
theorem Nest.cellSet {w : World} {B : Nat} {rows : List Value} {xss : List (List Int)} (h : Nest w B rows xss) {i gr m c : Nat} (hi : i < xss.length) (ei : rows[i]? = some (.slice (some ⟨gr, 0, none⟩) m c)) (k : Nat) (x : Int) :
    Nest (w.setCell ⟨gr, k, none⟩ (.int .i64 x)) B rows (xss.set i ((xss.getD i []).set k x)) ∧ w.grownBy (w.setCell ⟨gr, k, none⟩ (.int .i64 x)) (some gr) ∧ B ≤ gr := by
 obtain ⟨A, c', e, ho⟩ := h.row i hi
 have e0 := ei
 rw [e] at ei
 injection ei with ei; injection ei with e1 e2 e3
 subst e1; subst e3
 obtain ⟨s1, s2⟩ := World.ownsRow.stored ho k (.int .i64 x)
 have hgd : xss.getD i [] = xss[i] := getD_of_lt [] hi
 refine ⟨⟨by simp [h.len], fun j hj => ?_, h.apart⟩, s2, (ho.lt gr rfl).1⟩
 have hj' : j < xss.length := by simpa using hj
 by_cases hij : i = j
 · subst hij
   rw [List.getElem_set_self, hgd]
   refine ⟨some ⟨gr, 0, none⟩, c', by rw [List.length_set]; exact e, ?_⟩
   rw [List.length_set, ← ints_set]
   exact s1
 · obtain ⟨A', c2, e', ho'⟩ := h.row j hj'
   rw [List.getElem_set_ne hij]
   refine ⟨A', c2, e', Own.grown (row := some gr) ho' s2 (Or.inr fun hb => ?_)⟩
   refine h.apart_ne i j gr hij ?_ ?_
   · rw [e0]; rfl
   · rw [e']; exact hb
/-- One number of one row written. -/
theorem MkII.cellSet1 {w0 w : World} {g n c : Nat} {xss : List (List Int)} (h : MkII w0 w (some ⟨g, 0, none⟩) n c xss) {i gr m cr : Nat} (hi : i < n) (ci : w.cell? ⟨g, i, none⟩ = some (.slice (some ⟨gr, 0, none⟩) m cr)) (k : Nat) (x : Int) :
    MkII w0 (w.setCell ⟨gr, k, none⟩ (.int .i64 x)) (some ⟨g, 0, none⟩) n c (xss.set i ((xss.getD i []).set k x)) ∧ g ≠ gr ∧ w0.heap.size ≤ gr := by
 have hl := h.len
 obtain ⟨rows, hm, hn⟩ := h
 obtain ⟨u, hu, hc⟩ := hm.2.cell_ hi
 rw [ci] at hc
 injection hc with hc
 subst hc
 obtain ⟨n1, g1, b1⟩ := hn.cellSet (by omega) hu k x
 have hne : g ≠ gr := fun e => by
  obtain ⟨A', c2, e', ho'⟩ := hn.row i (by omega)
  rw [hu] at e'
  injection e' with e'; injection e' with e1 e2 e3
  subst e1
  have := hm.2.ne ho' (by decide)
  rcases this with h1 | h1
  · cases h1
  · exact h1 (by rw [e]; rfl)
 refine ⟨⟨rows, ⟨hm.1.setCell b1 _, Own.grown (row := some gr) hm.2 g1 (Or.inr fun hb => hne (by injection hb))⟩, n1⟩, hne, b1⟩
theorem mul_smallA {k y : Int} (h1 : -1000 ≤ k) (h2 : k ≤ 1000) (y1 : 0 ≤ y) (y2 : y ≤ 13) : -13000 ≤ k * y ∧ k * y ≤ 13000 := by
 rcases Int.le_total 0 k with h | h
 · have a := Int.mul_nonneg h y1
   have b := Int.le_trans (Int.mul_le_mul_of_nonneg_right h2 y1) (show 1000 * y ≤ 13000 by omega)
   omega
 · have a := Int.mul_nonneg (show 0 ≤ -k by omega) y1
   have b := Int.le_trans (Int.mul_le_mul_of_nonneg_right (show -k ≤ 1000 by omega) y1) (show 1000 * y ≤ 13000 by omega)
   rw [Int.neg_mul] at a b
   omega
def adF (p k : Int) (xs ys : List Int) (i : Nat) : Int := (xs.getD i 0 + k * ys.getD i 0) % p
theorem adF_all {p k : Int} {xs ys : List Int} (hx : NumsL p xs) : mixL (adF p k xs ys) xs ys.length = plusL p xs ys k := by
 refine tab_congr fun i hi => ?_
 by_cases h : i < ys.length
 · rw [if_pos h]; rfl
 · have e : ys.getD i 0 = 0 := by rw [List.getD_eq_getElem?_getD, List.getElem?_eq_none (by omega)]; rfl
   have hn := hx (xs.getD i 0) (by rw [getD_of_lt 0 hi]; exact List.getElem_mem hi)
   rw [if_neg h, e, Int.mul_zero, Int.add_zero, Int.emod_eq_of_lt hn.1 hn.2]
set_option maxHeartbeats 1600000 in
set_option maxRecDepth 8000 in
theorem added_any (p : Int) (A : Option Addr) (n c : Nat) (B : Option Addr) (m d : Nat) (k : Int) (xs ys : List Int) (w : World) (hp : 2 ≤ p) (hp2 : p ≤ 13) (h0 : 0 < n) (hn : n ≤ 65536) (hnm : m ≤ n) (ha : Rd w A n (ints xs)) (hx : NumsL p xs) (hb : Rd w B m (ints ys)) (hy : NumsL p ys) (hk1 : -1000 ≤ k) (hk2 : k ≤ 1000) :
    Calls Tryz.prog 243 #[.int .i64 p, .slice A n c, .slice B m d, .int .i64 k] w fun e w' => ∃ A' c', e = .returned (.slice A' n c') ∧ MkI w w' A' n c' (plusL p xs ys k) := by
 have hxl := ha.lenI
 have hyl := hb.lenI
 have hcl := clone_any A n c xs w hn ha
 have HALL : Hid (mixL (adF p k xs ys) xs m = plusL p xs ys k) := Lib.hid (by rw [← hyl]; exact adF_all hx)
 have HXL := Lib.hid hxl
 have HYL := Lib.hid hyl
 clear hxl hyl
 go_enter Tryz.func243, Tryz.ntmps243
 go_wp2_with fail
 refine hcl.mono ?_
 rintro e w1 ⟨A1, c1, rfl, hM1⟩
 rcases hM1.2.form with ⟨_, hz⟩ | ⟨g, rfl, -, -⟩
 · omega
 have hM0 : MkI w w1 (some ⟨g, 0, none⟩) n c1 (mixL (adF p k xs ys) xs 0) := by rw [mixL_zero]; exact hM1
 clear hcl hM1
 go_wp2
 go_loopw [10, 11, 16] (fun _ _ i wr => ∃ j : Nat, j ≤ m ∧ i = .int .i64 j ∧ MkI w wr (some ⟨g, 0, none⟩) n c1 (mixL (adF p k xs ys) xs j)) (fun _ _ i _ => m - (intOf i).toNat)
 case atStart => exact ⟨0, by omega, rfl, hM0⟩
 case round =>
  obtain ⟨j, hj, rfl, hM⟩ := hrel
  clear hM0
  by_cases hlt : j < m
  · obtain ⟨gy, oy, rfl, hyj, hcy⟩ := (hb.below hM.b).int hlt
    obtain ⟨y1, y2⟩ := hy _ (List.getElem_mem hyj)
    obtain ⟨m1, m2⟩ := mul_smallA hk1 hk2 y1 (show ys[j] ≤ 13 by omega)
    obtain ⟨hoc, hof⟩ := mkI_at hM (show j < n by omega)
    have hxj : (mixL (adF p k xs ys) xs j).getD j 0 = xs.getD j 0 := by
     unfold mixL
     rw [tab_getD (by rw [HXL.out]; omega), if_neg (by omega)]
    rw [hxj] at hoc
    have hxb := hx.getD (show 0 < p by omega) j
    obtain ⟨x, hxx⟩ : ∃ x, x = xs.getD j 0 := ⟨_, rfl⟩
    obtain ⟨y, hyy⟩ : ∃ y, y = ys[j] := ⟨_, rfl⟩
    have hset := (hM.set j (.int .i64 ((x + k * y) % p))).1
    rw [ints_set] at hset
    have hfk : adF p k xs ys j = (x + k * y) % p := by unfold adF; rw [hxx, hyy, getD_of_lt 0 hyj]
    have HS : Hid (MkI w (wr.setCell ⟨g, j, none⟩ (.int .i64 ((x + k * y) % p))) (some ⟨g, 0, none⟩) n c1 (mixL (adF p k xs ys) xs (j + 1))) := Lib.hid (by rw [mixL_succ _ _ _ (by rw [HXL.out]; omega), hfk]; exact hset)
    rw [← hxx] at hoc hxb
    rw [← hyy] at hcy y1 y2 m1 m2
    have W1 := i64_fit (k * y) (by omega) (by omega)
    have W2 := i64_fit (x + k * y) (by omega) (by omega)
    have hnum := fun w' => num_any p (x + k * y) w' (by omega) hp2 (by omega) (by omega)
    clear hset hfk hxx hyy hxj hM hyj
    go_wp2_with fail
    refine (hnum _).mono ?_
    rintro e w2 ⟨rfl, rfl⟩
    clear hnum
    go_wp2
    go_roundw
    case rel => exact ⟨j + 1, by omega, by go_num, HS.out⟩
    case measure => simp [intOf]; omega
  · obtain rfl : j = m := by omega
    go_wp2
    go_ret
    exact ⟨_, _, rfl, by rw [← HALL.out]; exact hM⟩
end Go.Proofs.YtmkjdpnoloofjaaGreat
