/-
  LawFnMinimalPolynomials: part 7 of the texts that the proof needs. No condition.
-/
import Derived.Test.YtmkjdpnoloofjaaGreatM6
namespace Go.Proofs.YtmkjdpnoloofjaaGreat
open Go.RowKit
/-- The value is a tuple of a list and a truth value. -/
def VTsb (w0 : World) (L : List Int) (b : Bool) : VP := ⟨fun v w => ∃ A c, v = .tuple #[.slice A L.length c, .bool b] ∧ MkI w0 w A L.length c L, fun _ _ _ ⟨A, c, e, h⟩ hb => ⟨A, c, e, h.below hb⟩⟩
theorem scaleL_neg {p : Int} (xs : List Int) : scaleL p xs (p - 1) = scaleL p xs (-1) := by
 refine list_ext_getD 0 (by rw [scaleL_len, scaleL_len]) fun i hi => ?_
 rw [scaleL_len] at hi
 rw [scaleL_getD _ hi, scaleL_getD _ hi, show xs.getD i 0 * (p - 1) = xs.getD i 0 * -1 + p * xs.getD i 0 by rw [Int.mul_sub, Int.mul_comm p]; omega, Int.add_mul_emod_self_left]
set_option maxHeartbeats 6400000 in
set_option maxRecDepth 8000 in
theorem specMinimalPolynomial_any (P : Int) (A : Option Addr) (n c : Nat) (sq : List Int) (X : Option Addr) (m cx : Nat) (xs : List Int) (w : World) (hn : n ≤ 1048576) (hm : m ≤ 1048576) (ha : Rd w A n (ints sq)) (hx : Rd w X m (ints xs)) (hcx : m ≤ cx) :
    Calls Tryz.prog 63 #[.agg #[.int .i64 P, .slice A n c], .slice X m cx] w fun e w' => ∃ (A' : Option Addr) (k c' : Nat), e = .returned (.tuple #[.slice A' k c', .int .i64 (mnpR P sq xs).2]) ∧ MkI w w' A' k c' (mnpR P sq xs).1 := by
 have hB0 : Below w.heap.size w (w.alloc (.cells #[.int .i64 P, .slice A n c] 26)) := zG.alloc (Nat.le_refl _) _
 have k0 : Blk (w.alloc (.cells #[.int .i64 P, .slice A n c] 26)) w.heap.size 26 #[.int .i64 P, .slice A n c] := Blk.new _ _ _
 have hB1 : Below w.heap.size w ((w.alloc (.cells #[.int .i64 P, .slice A n c] 26)).alloc (.cells #[.slice X m cx] 24)) := hB0.alloc (by simp) _
 have k1 : Blk ((w.alloc (.cells #[.int .i64 P, .slice A n c] 26)).alloc (.cells #[.slice X m cx] 24)) w.heap.size 26 #[.int .i64 P, .slice A n c] := k0.alloc _
 have hreg := l09Code_any P A (some ⟨w.heap.size + 1, 0, none⟩) n c 1 1 sq [xs] ((w.alloc (.cells #[.int .i64 P, .slice A n c] 26)).alloc (.cells #[.slice X m cx] 24)) hn (by omega) (ha.below hB1) (rdII_one' (Blk.newAt3 (by simp)) (hx.below hB1) hcx) (all_one (by rw [hx.lenI]; exact hm))
 by_cases hr0 : codeA P sq [xs] = 0
 · rw [hr0] at hreg
   obtain ⟨hcM, h4⟩ := codeA_zero hr0
   obtain ⟨HP, hp, hp2, hd1, hd2, hs, hms⟩ := codeM_spec3 hcM
   obtain ⟨hx1, hxs⟩ := hms xs (by simp)
   have hsl := ha.lenI
   have hmn : m = pw n := by rw [← hx.lenI, hx1, hsl]
   subst hmn
   have hn4 : n ≤ 4 := by omega
   have hpw : pw n ≤ 16 := pw_le hn4
   have hpn := pw_pos n
   obtain ⟨f1, f2, f3⟩ := min_facts HP hx1 hxs
   rw [hsl] at f1 f2 f3
   obtain ⟨L, hL⟩ : ∃ L, L = minL P sq n xs := ⟨_, rfl⟩
   have HOK : Hid (mnpR P sq xs = (L, 0)) := Lib.hid (by rw [mnpR_ok hr0, hsl, hL])
   obtain ⟨K, hKK⟩ : ∃ K, K = minK P sq n xs := ⟨_, rfl⟩
   rw [← hKK] at f1
   have HL : Hid (L = scaleL P (mstR P sq n xs K).1 (-1) ++ [1]) := Lib.hid (by rw [hL, hKK]; rfl)
   have hK1 : 1 ≤ K := f1.1
   have hK2 : K ≤ pw n := f1.2.1
   have HK3 := Lib.hid f1.2.2
   have HF2 := Lib.hid f2
   have HF3 := Lib.hid f3
   have HXL := Lib.hid hx.lenI
   have HXS := Lib.hid hxs
   have HS := Lib.hid hs
   have HPP := Lib.hid HP
   clear hsl hs hxs hx1 hms hd1 hd2 h4 hcM hr0 HP hL hKK f1 f2 f3
   go_enter Tryz.func63, Tryz.ntmps63
   go_wp2_with fail
   refine hreg.mono ?_
   rintro e w2 ⟨rfl, hb2⟩
   have hB2 := hB1.trans (hb2.mono hB1.size)
   have k2 := k1.below hb2 k1.lt
   clear k0 k1 hreg hb2 hB0 hB1
   obtain ⟨q0, q1⟩ := k2.two
   go_wp2_with fail
   refine (l04One_any P A n c w2 (by omega)).mono ?_
   rintro e w3 ⟨A1, c1, rfl, hM1⟩
   have hM3 := MkII.single (hM1.after hB2)
   have k3 := (k2.below hM1.b k2.lt).alloc (.cells #[.slice A1 (pw n) c1] 24)
   clear q0 q1 k2 hM1
   go_wp2
   go_loopw [7] (fun pv wr => ∃ (k : Nat) (A' : Option Addr) (c' : Nat), 1 ≤ k ∧ k ≤ K ∧ pv = .slice A' k c' ∧ MkII w wr A' k c' (pwsL P sq n xs k) ∧ Blk wr w.heap.size 26 #[.int .i64 P, .slice A n c]) (fun pv _ => K - lenM pv)
   case atStart => exact ⟨1, _, _, by omega, hK1, rfl, hM3, k3⟩
   case round =>
    obtain ⟨k, A', c', hk1, hk2, rfl, hM, k6⟩ := hrel
    clear hM3 k3
    obtain ⟨q, rfl⟩ : ∃ q, k = q + 1 := ⟨k - 1, by omega⟩
    obtain ⟨k, hkq⟩ : ∃ k, k = q + 1 := ⟨_, rfl⟩
    rw [← hkq] at hk1 hk2 hM ⊢
    have hrd := hM.rd
    have hBw := hM.b
    obtain ⟨gp, op_, rfl, hxk, Ak, ck, hck, hrk, hcc⟩ := hrd.at_ (show q < k by omega)
    have hrow : (pwsL P sq n xs k)[q] = pwrL P sq n xs q := by
     rw [← getD_of_lt [] hxk]
     unfold pwsL
     rw [tab_getD (by omega)]
    rw [hrow, (HF3.out q).1] at hck hrk hcc
    obtain ⟨PQ, hPQ⟩ : ∃ X, X = pwrL P sq n xs q := ⟨_, rfl⟩
    obtain ⟨PK, hPK⟩ : ∃ X, X = pwrL P sq n xs k := ⟨_, rfl⟩
    have hpk : mulL P sq PQ xs = PK := by rw [hPQ, hPK, hkq]; rfl
    have hq3 := HF3.out q
    rw [← hPQ] at hrk hq3
    have HPQ := Lib.hid hrk
    have HXR := Lib.hid (hx.below hBw)
    have HAR := Lib.hid (ha.below hBw)
    have HAL : Hid (NumsL P PQ ∧ True) := Lib.hid ⟨hq3.2, trivial⟩
    have HTL : Hid (mulL P sq PQ xs = PK) := Lib.hid hpk
    have HPK := Lib.hid hPK
    have HM := Lib.hid hM
    have hk16 : k ≤ 16 := by omega
    have W1 : IntKind.i64.wrap ((k : Int) - 1) = (q : Int) := by rw [i64_fit _ (by omega) (by omega)]; omega
    have i1 : (0 : Int) ≤ (q : Int) := by omega
    have i2 : (q : Int) < (k : Int) := by omega
    have HKQ := Lib.hid hkq
    clear hrow hxk hPQ hPK hpk hq3 hrk hM hkq
    obtain ⟨q0, q1⟩ := k6.two
    go_wp2
    refine wp_obs 10 [[],[],[],[2],[2,3],[1,2,3,4],[1,2,3,4,5],[],[0,1,2,3,4,5,6,7],[0,1,2,3,4,5,6,7,8]] [VIs (.agg #[.int .i64 P, .slice A n c]), VIs (.slice (some ⟨gp, op_, none⟩) k c'), VIs (.slice (some ⟨gp, op_, none⟩) k c'), VIs (.int .i64 (k)), VIs (.int .i64 (q)), VIs (.pointer (some ⟨gp, op_ + q, none⟩)), VIs (.slice Ak (pw n) ck), VIs (.slice X (pw n) cx), VSl wr (pw n) PK, VSl wr (pw n) PK] (fun w' => w'.cell? ⟨gp, op_ + q, none⟩ = some (.slice Ak (pw n) ck) ∧ Blk w' w.heap.size 26 #[.int .i64 P, .slice A n c] ∧ Below wr.heap.size wr w') (by kernel_rfl) (by kernel_rfl) (fun _ _ h hb => ⟨(hb.cell (World.block_lt_of_cell? _ _ h.1)).trans h.1, h.2.1.below hb h.2.1.lt, h.2.2.trans (hb.mono h.2.2.size)⟩) (⟨hck, k6.drew, zG.drew⟩) (fun x => ?_)
    refine zS (fun w' hS hV K hK => ?_) ?_
    · have q2 := hS.1; obtain ⟨q0, q1⟩ := hS.2.1.two; go_simp; exact zO hK
    refine zS (fun w' hS hV K hK => ?_) ?_
    · have q2 := hS.1; obtain ⟨q0, q1⟩ := hS.2.1.two; go_simp; exact zO hK
    refine zS (fun w' hS hV K hK => ?_) ?_
    · have q2 := hS.1; obtain ⟨q0, q1⟩ := hS.2.1.two; go_simp; exact zO hK
    refine zS (fun w' hS hV K hK => ?_) ?_
    · have e2 := zQ hV 2; have q2 := hS.1; obtain ⟨q0, q1⟩ := hS.2.1.two; go_simp; exact zO hK
    refine zS (fun w' hS hV K hK => ?_) ?_
    · have e3 := zQ hV 3; have q2 := hS.1; obtain ⟨q0, q1⟩ := hS.2.1.two; go_simp; exact zO hK
    refine zS (fun w' hS hV K hK => ?_) ?_
    · have e1 := zQ hV 1; have e4 := zQ hV 4; have q2 := hS.1; obtain ⟨q0, q1⟩ := hS.2.1.two; go_simp; exact zO hK
    refine zS (fun w' hS hV K hK => ?_) ?_
    · have e5 := zQ hV 5; have q2 := hS.1; obtain ⟨q0, q1⟩ := hS.2.1.two; go_simp; exact zO hK
    refine zS (fun w' hS hV K hK => ?_) ?_
    · have q2 := hS.1; obtain ⟨q0, q1⟩ := hS.2.1.two; go_simp; exact zO hK
    refine zS (fun w' hS hV K hK => ?_) ?_
    · have e0 := zQ hV 0
      have e6 := zQ hV 6
      have e7 := zQ hV 7
      have q2 := hS.1; obtain ⟨q0, q1⟩ := hS.2.1.two
      go_simp
      have htm := l04Times_any P A n c sq Ak ck PQ X cx xs w' (by omega) hp2 (by omega) (HAR.out.below hS.2.2) HS.out (HPQ.out.below hS.2.2) HAL.out.1 (HXR.out.below hS.2.2) HXS.out
      refine htm.mono ?_
      rintro e v1 ⟨A9, c9, rfl, hM⟩
      have hM2 : MkI w' v1 A9 (pw n) c9 PK := by rw [← HTL.out]; exact hM
      exact hK.out _ _ _ rfl rfl ⟨_, _, rfl, hM2.after hS.2.2⟩ hM2.b
    refine zS (fun w' hS hV K hK => ?_) ?_
    · obtain ⟨A8, c8, e8, h8⟩ := hV 8 (by decide); have q2 := hS.1; obtain ⟨q0, q1⟩ := hS.2.1.two; go_simp; exact hK.out _ _ _ rfl rfl ⟨_, _, rfl, h8⟩ zG
    refine fun w' hS hV => ?_
    have e0 := zT hV 0
    have e1 := zT hV 1
    have e2 := zT hV 2
    have e3 := zT hV 3
    have e4 := zT hV 4
    have e5 := zT hV 5
    have e6 := zT hV 6
    have e7 := zT hV 7
    obtain ⟨A8, c8, e8, h8⟩ := hV 8 (by decide)
    obtain ⟨A9, c9, e9, h9⟩ := hV 9 (by decide)
    simp only [e0, e1, e2, e3, e4, e5, e6, e7, e8, e9]
    clear e0 e1 e2 e3 e4 e5 e6 e7 e8 e9
    refine wpAny_done (by kernel_rfl) ?_ _
    obtain ⟨w18, hw18⟩ : ∃ W, W = w' := ⟨_, rfl⟩
    rw [← hw18] at hS h9 ⊢
    have k7 := hS.2.1
    have hb18 := hS.2.2
    have HPR := Lib.hid h9
    have hrd2 := hrd.below hb18
    obtain ⟨AK, hAK⟩ : ∃ a, a = A9 := ⟨_, rfl⟩
    obtain ⟨cK, hcK⟩ : ∃ a, a = c9 := ⟨_, rfl⟩
    rw [← hAK, ← hcK] at HPR ⊢
    clear hS q0 q1 hw18 h9 hck k6 W1 hAK hcK hrd hcc i1 i2
    have HPN : Hid (NumsL P PK) := Lib.hid (by rw [HPK.out]; exact (HF3.out k).2)
    have HT := Lib.hid (HF2.out k)
    have hsn := solR_small (show 0 < P by omega) (HT.out.2.2 (by omega)) HPN.out
    have hsm : solR P (transL (pwsL P sq n xs k)) PK k = mstR P sq n xs k := by rw [HPK.out]; rfl
    rw [hsm] at hsn
    obtain ⟨⟨y, b⟩, hyb⟩ : ∃ R, R = mstR P sq n xs k := ⟨_, rfl⟩
    rw [← hyb] at hsn hsm
    have HYB := Lib.hid hyb
    have HSN := Lib.hid hsn
    have HSM := Lib.hid hsm
    clear hyb hsn hsm
    obtain ⟨q0, q1⟩ := k7.two
    go_wp2
    refine wp_obs 11 [[],[0],[],[2],[],[0,1,2,3,4],[0,1,2,3,4,5],[0,1,2,3,4,5,6],[0,1,2,3,4,5,6],[0,1,2,3,4,5,6,7],[0,1,2,3,4,5,6,8]] [VIs (.pointer (some ⟨w.heap.size, 0, none⟩)), VIs (.int .i64 (P)), VIs (.slice (some ⟨gp, op_, none⟩) k c'), VMat w18 (pw n) (transL (pwsL P sq n xs k)), VIs (.slice AK (pw n) cK), VTsb w18 y b, VTsb w18 y b, VSl w18 y.length y, VIs (.bool b), VSl w18 y.length y, VIs (.bool b)] (fun w' => Blk w' w.heap.size 26 #[.int .i64 P, .slice A n c] ∧ Below w18.heap.size w18 w') (by kernel_rfl) (by kernel_rfl) (fun _ _ h hb => ⟨h.1.below hb h.1.lt, h.2.trans (hb.mono h.2.size)⟩) (⟨k7.drew, zG.drew⟩) (fun x => ?_)
    refine zS (fun w' hS hV K hK => ?_) ?_
    · obtain ⟨q0, q1⟩ := hS.1.two; go_simp; exact zO hK
    refine zS (fun w' hS hV K hK => ?_) ?_
    · have e0 := zQ hV 0; obtain ⟨q0, q1⟩ := hS.1.two; go_simp; exact zO hK
    refine zS (fun w' hS hV K hK => ?_) ?_
    · obtain ⟨q0, q1⟩ := hS.1.two; go_simp; exact zO hK
    refine zS (fun w' hS hV K hK => ?_) ?_
    · have e2 := zQ hV 2; obtain ⟨q0, q1⟩ := hS.1.two; go_simp; refine (l02Turn_any P (some ⟨gp, op_, none⟩) k c' (pwsL P sq n xs k) (pw n) w' (by omega) (by omega) (by omega) (hrd2.below hS.2) HT.out.1).mono ?_; rintro e v1 ⟨A9, c9, rfl, hM⟩; exact hK.out _ _ _ rfl rfl ⟨_, _, rfl, hM.after hS.2⟩ hM.b
    refine zS (fun w' hS hV K hK => ?_) ?_
    · obtain ⟨q0, q1⟩ := hS.1.two; go_simp; exact zO hK
    refine zS (fun w' hS hV K hK => ?_) ?_
    · have e1 := zQ hV 1; obtain ⟨A3, c3, e3, h3⟩ := hV 3 (by decide); have e4 := zQ hV 4; obtain ⟨q0, q1⟩ := hS.1.two; go_simp; have hsv := l02Solve_any P A3 (pw n) c3 (transL (pwsL P sq n xs k)) k AK cK PK w' HPP.out hpn (by omega) (by omega) (by omega) h3.rd (HT.out.2.2 (by omega)) (HPR.out.rd.below hS.2) HPN.out; rw [HSM.out] at hsv; refine hsv.mono ?_; rintro e v1 ⟨A9, k9, c9, rfl, hM⟩; obtain rfl : y.length = k9 := hM.rd.lenI; exact hK.out _ _ _ rfl rfl ⟨_, _, rfl, hM.after hS.2⟩ hM.b
    refine zS (fun w' hS hV K hK => ?_) ?_
    · obtain ⟨A3, c3, e3, h3⟩ := hV 3 (by decide); obtain ⟨A5, c5, e5, h5⟩ := hV 5 (by decide); obtain ⟨q0, q1⟩ := hS.1.two; go_simp; exact hK.out _ _ _ rfl rfl ⟨_, _, rfl, h5⟩ zG
    refine zS (fun w' hS hV K hK => ?_) ?_
    · obtain ⟨A3, c3, e3, h3⟩ := hV 3 (by decide); obtain ⟨A5, c5, e5, h5⟩ := hV 5 (by decide); obtain ⟨A6, c6, e6, h6⟩ := hV 6 (by decide); obtain ⟨q0, q1⟩ := hS.1.two; go_simp; exact hK.out _ _ _ rfl rfl ⟨_, _, rfl, h6⟩ zG
    refine zS (fun w' hS hV K hK => ?_) ?_
    · obtain ⟨A3, c3, e3, h3⟩ := hV 3 (by decide); obtain ⟨A5, c5, e5, h5⟩ := hV 5 (by decide); obtain ⟨A6, c6, e6, h6⟩ := hV 6 (by decide); obtain ⟨q0, q1⟩ := hS.1.two; go_simp; exact zO hK
    refine zS (fun w' hS hV K hK => ?_) ?_
    · obtain ⟨A3, c3, e3, h3⟩ := hV 3 (by decide); obtain ⟨A5, c5, e5, h5⟩ := hV 5 (by decide); obtain ⟨A6, c6, e6, h6⟩ := hV 6 (by decide); obtain ⟨A7, c7, e7, h7⟩ := hV 7 (by decide); obtain ⟨q0, q1⟩ := hS.1.two; go_simp; exact hK.out _ _ _ rfl rfl ⟨_, _, rfl, h7⟩ zG
    refine zS (fun w' hS hV K hK => ?_) ?_
    · obtain ⟨A3, c3, e3, h3⟩ := hV 3 (by decide); obtain ⟨A5, c5, e5, h5⟩ := hV 5 (by decide); obtain ⟨A6, c6, e6, h6⟩ := hV 6 (by decide); have e8 := zQ hV 8; obtain ⟨q0, q1⟩ := hS.1.two; go_simp; exact zO hK
    refine fun w' hS hV => ?_
    have e0 := zT hV 0
    have e1 := zT hV 1
    have e2 := zT hV 2
    obtain ⟨A3, c3, e3, h3⟩ := hV 3 (by decide)
    have e4 := zT hV 4
    obtain ⟨A5, c5, e5, h5⟩ := hV 5 (by decide)
    obtain ⟨A6, c6, e6, h6⟩ := hV 6 (by decide)
    obtain ⟨A7, c7, e7, h7⟩ := hV 7 (by decide)
    have e8 := zT hV 8
    obtain ⟨A9, c9, e9, h9⟩ := hV 9 (by decide)
    have e10 := zT hV 10
    simp only [e0, e1, e2, e3, e4, e5, e6, e7, e8, e9, e10]
    clear e0 e1 e2 e3 e4 e5 e6 e7 e8 e9 e10
    refine wpAny_done (by kernel_rfl) ?_ _
    obtain ⟨w21, hw21⟩ : ∃ W, W = w' := ⟨_, rfl⟩
    rw [← hw21] at hS h9 ⊢
    have k10 := hS.1
    have hb21 := hb18.trans (hS.2.mono hb18.size)
    have hPR2 := HPR.out.below hS.2
    have hM9 := h9
    obtain ⟨A9, hA9⟩ : ∃ a, a = A9 := ⟨_, rfl⟩
    obtain ⟨c9, hc9⟩ : ∃ a, a = c9 := ⟨_, rfl⟩
    rw [← hA9, ← hc9] at hM9 ⊢
    obtain ⟨k9', hk9⟩ : ∃ j, j = y.length := ⟨_, rfl⟩
    rw [← hk9] at hM9 ⊢
    have hy9 : y.length = k9' := hk9.symm
    clear hS q0 q1 hw21 h9 hA9 hc9 hk9 k7 hb18 hrd2
    obtain ⟨q0, q1⟩ := k10.two
    cases b with
    | true =>
     have hkK : k = K := by
      rcases Nat.lt_or_ge k K with h | h
      · have h9 := HK3.out.2 k hk1 h
        rw [← HYB.out] at h9; cases h9
      · omega
     have hyk : y.length ≤ k := HSN.out.2
     have HLE : Hid (L = scaleL P y (-1) ++ [1]) := Lib.hid (by rw [HL.out, ← hkK, ← HYB.out])
     have HBB := Lib.hid (hBw.trans (hb21.mono hBw.size))
     clear hkK
     have hcall := l02Scale_any P A9 k9' c9 (P - 1) y w21 hp hp2 (by omega) hM9.rd HSN.out.1 (by omega) (by omega)
     rw [scaleL_neg] at hcall
     have WP : wrap64 (P - 1) = P - 1 := by unfold wrap64; omega
     go_wp2_with fail
     refine hcall.mono ?_
     rintro e w23 ⟨Az, cz, rfl, hMz⟩
     have HZ := Lib.hid (hMz.after HBB.out)
     clear hcall hMz hM9 WP q0 q1
     go_wp2_with (at_builtin; refine wpList_app1 w _ 24 2 _ _ Tryz.underlying24 info_i rfl (by omega) rfl _ _ rfl Az k9' cz _ _ HZ.out (by omega) rfl rfl rfl ?_; intro A4 c4 w4 hM4 _ _)
     go_ret2
     have hM5 : MkI w w4 A4 (k9' + 1) c4 L := by rw [HLE.out]; unfold MkI; rw [show ints (scaleL P y (-1) ++ [1]) = ints (scaleL P y (-1)) ++ [.int .i64 1] by simp [ints]]; exact hM4
     exact aRow3 HOK.out hM5
    | false =>
     have hkK : k + 1 ≤ K := by
      rcases Nat.lt_or_ge k K with h | h
      · exact h
      · have h9 := HK3.out.1
        rw [show K = k by omega, ← HYB.out] at h9; cases h9
     have hPS : Hid (pwsL P sq n xs (k + 1) = pwsL P sq n xs k ++ [PK]) := Lib.hid (by rw [HPK.out]; unfold pwsL; rw [tab_succ])
     clear q0 q1 hM9
     go_wp2_with (at_builtin; refine wpList_appRowG w wr _ rfl _ _ rfl (some ⟨gp, op_, none⟩) k c' _ AK (pw n) cK _ HM.out hPR2 (by omega) rfl ?_ ?_; (go_simp); intro A20 c20 w24 hM20 hg20 hat20)
     have k11 := k10.grown hg20 ((HM.out.below hb21).ne_blk k10 (by decide))
     clear hg20 hat20 k10
     go_roundw
     case rel => exact ⟨k + 1, A20, c20, by omega, hkK, rfl, by rw [hPS.out]; exact hM20, k11⟩
     case measure => simp [lenM]; omega
 · obtain ⟨r, hr⟩ : ∃ r, r = codeA P sq [xs] := ⟨_, rfl⟩
   have HR := Lib.hid hr
   have HR0 := Lib.hid hr0
   have b0 : (r != 0) = true := code_ne (by rw [hr]; exact hr0)
   rw [← hr] at hreg
   clear hr hr0
   go_enter Tryz.func63, Tryz.ntmps63
   go_wp2_with fail
   refine hreg.mono ?_
   rintro e w2 ⟨rfl, hb2⟩
   have hB2 := hB1.trans (hb2.mono hB1.size)
   go_wp2
   go_ret2
   exact noRow3 (by rw [mnpR_bad HR0.out, HR.out]) hB2
set_option maxHeartbeats 6400000 in
set_option maxRecDepth 8000 in
theorem LeftMatrix_ok (P : Int) (A : Option Addr) (n c : Nat) (sq : List Int) (X : Option Addr) (cx : Nat) (xs : List Int) (w : World) (hn : n ≤ 1048576) (hm : pw n ≤ 1048576) (ha : Rd w A n (ints sq)) (hx : Rd w X (pw n) (ints xs)) (hcx : pw n ≤ cx) (h0 : codeA P sq [xs] = 0) :
    Calls Tryz.prog 64 #[.agg #[.int .i64 P, .slice A n c], .slice X (pw n) cx] w fun e w' => ∃ (A' : Option Addr) (c' : Nat), e = .returned (.tuple #[.slice A' (pw n) c', .int .i64 0]) ∧ MkII w w' A' (pw n) c' (lmL P sq n xs) := by
 have hB0 : Below w.heap.size w (w.alloc (.cells #[.int .i64 P, .slice A n c] 26)) := zG.alloc (Nat.le_refl _) _
 have k0 : Blk (w.alloc (.cells #[.int .i64 P, .slice A n c] 26)) w.heap.size 26 #[.int .i64 P, .slice A n c] := Blk.new _ _ _
 have hB1 : Below w.heap.size w ((w.alloc (.cells #[.int .i64 P, .slice A n c] 26)).alloc (.cells #[.slice X (pw n) cx] 24)) := hB0.alloc (by simp) _
 have k1 : Blk ((w.alloc (.cells #[.int .i64 P, .slice A n c] 26)).alloc (.cells #[.slice X (pw n) cx] 24)) w.heap.size 26 #[.int .i64 P, .slice A n c] := k0.alloc _
 have hreg := checkAlgebra_any P A (some ⟨w.heap.size + 1, 0, none⟩) n c 1 1 sq [xs] ((w.alloc (.cells #[.int .i64 P, .slice A n c] 26)).alloc (.cells #[.slice X (pw n) cx] 24)) hn (by omega) (ha.below hB1) (rdII_one' (Blk.newAt3 (by simp)) (hx.below hB1) hcx) (all_one (by rw [hx.lenI]; exact hm))
 rw [h0] at hreg
 obtain ⟨hcM, h4⟩ := codeA_zero h0
 obtain ⟨HP, hp, hp2, hd1, hd2, hs, hms⟩ := codeM_spec3 hcM
 obtain ⟨hx1, hxs⟩ := hms xs (by simp)
 have hsl := ha.lenI
 have hn4 : n ≤ 4 := by omega
 go_enter Tryz.func64, Tryz.ntmps64
 go_wp2_with fail
 refine hreg.mono ?_
 rintro e w2 ⟨rfl, hb2⟩
 have hB2 := hB1.trans (hb2.mono hB1.size)
 have k2 := k1.below hb2 k1.lt
 have hcall := leftMatrix_any P A n c sq X cx xs w2 hp hp2 (by omega) (ha.below hB2) hs (hx.below hB2) hxs hcx
 clear k0 k1 hreg hb2 hB0 hB1 hms hxs hx1 h0 hcM
 obtain ⟨q0, q1⟩ := k2.two
 go_wp2_with fail
 refine hcall.mono ?_
 rintro e w3 ⟨A3, c3, rfl, hM⟩
 go_wp2
 go_ret2
 exact ⟨_, _, rfl, hM.after hB2⟩
set_option maxHeartbeats 6400000 in
set_option maxRecDepth 8000 in
theorem PowerOf_ok (P : Int) (A : Option Addr) (n c : Nat) (sq : List Int) (X : Option Addr) (cx : Nat) (xs : List Int) (kk : Nat) (w : World) (hn : n ≤ 1048576) (hm : pw n ≤ 1048576) (ha : Rd w A n (ints sq)) (hx : Rd w X (pw n) (ints xs)) (hcx : pw n ≤ cx) (h0 : codeM P sq [xs] = 0) (hk : kk ≤ 100) :
    Calls Tryz.prog 66 #[.agg #[.int .i64 P, .slice A n c], .slice X (pw n) cx, .int .i64 kk] w fun e w' => ∃ (A' : Option Addr) (c' : Nat), e = .returned (.tuple #[.slice A' (pw n) c', .int .i64 0]) ∧ MkI w w' A' (pw n) c' (pwrL P sq n xs kk) := by
 have hB0 : Below w.heap.size w (w.alloc (.cells #[.int .i64 P, .slice A n c] 26)) := zG.alloc (Nat.le_refl _) _
 have k0 : Blk (w.alloc (.cells #[.int .i64 P, .slice A n c] 26)) w.heap.size 26 #[.int .i64 P, .slice A n c] := Blk.new _ _ _
 have hB1 : Below w.heap.size w ((w.alloc (.cells #[.int .i64 P, .slice A n c] 26)).alloc (.cells #[.slice X (pw n) cx] 24)) := hB0.alloc (by simp) _
 have k1 : Blk ((w.alloc (.cells #[.int .i64 P, .slice A n c] 26)).alloc (.cells #[.slice X (pw n) cx] 24)) w.heap.size 26 #[.int .i64 P, .slice A n c] := k0.alloc _
 have hreg := checkMultis_any P A (some ⟨w.heap.size + 1, 0, none⟩) n c 1 1 sq [xs] ((w.alloc (.cells #[.int .i64 P, .slice A n c] 26)).alloc (.cells #[.slice X (pw n) cx] 24)) hn (by omega) (ha.below hB1) (rdII_one' (Blk.newAt3 (by simp)) (hx.below hB1) hcx) (all_one (by rw [hx.lenI]; exact hm))
 rw [h0] at hreg
 obtain ⟨HP, hp, hp2, hd1, hd2, hs, hms⟩ := codeM_spec3 h0
 obtain ⟨hx1, hxs⟩ := hms xs (by simp)
 have hsl := ha.lenI
 have hn6 : n ≤ 6 := by omega
 have hir : inR kk 0 100 = true := by unfold inR; simp; omega
 have hirc := fun w' => inRange_any kk 0 100 w'
 rw [hir] at hirc
 have HXN := Lib.hid (And.intro hxs hx.lenI)
 have HS := Lib.hid hs
 have HF3 : Hid (∀ j, (pwrL P sq n xs j).length = pw n ∧ NumsL P (pwrL P sq n xs j)) := Lib.hid (by
  obtain ⟨Z, rfl⟩ : ∃ Z : Cl P sq, Z.l = xs := ⟨⟨xs, hx1, hxs, by omega⟩, rfl⟩
  intro j
  have := pwr_nums (show 0 < P by omega) hp Z j
  rwa [hsl] at this)
 clear hms hxs hx1 h0 hsl hir hs
 go_enter Tryz.func66, Tryz.ntmps66
 go_wp2_with fail
 refine hreg.mono ?_
 rintro e w2 ⟨rfl, hb2⟩
 have hB2 := hB1.trans (hb2.mono hB1.size)
 have k2 := k1.below hb2 k1.lt
 clear k0 k1 hreg hb2 hB0 hB1
 go_wp2_with fail
 refine (hirc w2).mono ?_
 rintro e w3 ⟨rfl, rfl⟩
 clear hirc
 obtain ⟨q0, q1⟩ := k2.two
 go_wp2_with fail
 refine (one_any P A n c _ (by omega)).mono ?_
 rintro e w4 ⟨A1, c1, rfl, hM1⟩
 have hM4 := hM1.after hB2
 have k4 := k2.below hM1.b k2.lt
 clear q0 q1 k2 hM1
 go_wp2
 go_loopw [9, 23] (fun ov iv wr => ∃ (j : Nat) (A' : Option Addr) (c' : Nat), j ≤ kk ∧ iv = .int .i64 j ∧ ov = .slice A' (pw n) c' ∧ MkI w wr A' (pw n) c' (pwrL P sq n xs j) ∧ Blk wr w.heap.size 26 #[.int .i64 P, .slice A n c]) (fun _ iv _ => kk - (intOf iv).toNat)
 case atStart => exact ⟨0, _, _, by omega, rfl, rfl, hM4, k4⟩
 case round =>
  obtain ⟨j, A', c', hj, rfl, rfl, hM, k6⟩ := hrel
  clear hM4 k4
  by_cases hlt : j < kk
  · have hq := HF3.out j
    obtain ⟨Q, hQ⟩ : ∃ Q, Q = pwrL P sq n xs j := ⟨_, rfl⟩
    have HNX : Hid (pwrL P sq n xs (j + 1) = mulL P sq Q xs) := Lib.hid (by rw [hQ]; rfl)
    rw [← hQ] at hM hq
    have hcc := hM.2.cap
    have hAl : Below wr.heap.size wr (wr.alloc (.cells #[.slice A' (pw n) c', .slice X (pw n) cx] 24)) := zG.alloc (Nat.le_refl _) _
    have hBr := hM.b.trans (hAl.mono hM.b.size)
    have hcall := times_any P A n c sq (some ⟨wr.heap.size, 0, none⟩) 2 2 [Q, xs] (wr.alloc (.cells #[.slice A' (pw n) c', .slice X (pw n) cx] 24)) (by omega) hp2 hn6 (by omega) (ha.below hBr) HS.out (rdII_two (Blk.new wr 24 _) (hM.rd.below hAl) (hx.below hBr) hcc hcx) (all_two ⟨hq.2, hq.1⟩ ⟨HXN.out.1, HXN.out.2⟩)
    rw [timesL_two P sq n Q xs hq.1 hq.2] at hcall
    have HB := Lib.hid hBr
    have k7 := k6.alloc (.cells #[.slice A' (pw n) c', .slice X (pw n) cx] 24)
    obtain ⟨q0, q1⟩ := k6.two
    clear hM hQ hq hcc hAl hBr
    go_wp2_with fail
    refine hcall.mono ?_
    rintro e w7 ⟨A7, c7, rfl, hM7⟩
    have hM8 := hM7.after HB.out
    have k8 := k7.below hM7.b k7.lt
    clear hcall q0 q1 k6 k7 hM7
    go_wp2
    go_roundw
    case rel => exact ⟨j + 1, A7, c7, by omega, by go_num, rfl, by rw [HNX.out]; exact hM8, k8⟩
    case measure => simp [intOf]; omega
  · obtain rfl : j = kk := by omega
    go_wp2
    go_ret2
    exact ⟨_, _, rfl, hM⟩
theorem zeroL_at (xs : List Int) : zeroL xs = true ↔ ∀ i, i < xs.length → xs.getD i 0 = 0 := by
 unfold zeroL
 rw [beq_iff_eq]
 constructor
 · intro h i hi; exact leadL_before xs i (by omega)
 · exact fun h => leadL_eq xs xs.length h (.inl rfl)
theorem Cl.zero_iff {p : Int} {sq : List Int} (x : Cl p sq) : zeroL x.l = true ↔ x = Cl.zero x.pos := by
 rw [zeroL_at, Cl.len]
 constructor
 · intro h
   refine Cl.same fun m hm => ?_
   rw [Cl.zero_co x.pos hm]
   show x.co m % p = 0
   rw [show x.co m = 0 from h m hm, Int.zero_emod]
 · intro h i hi
   have := congrArg (fun y : Cl p sq => y.co i % p) h
   rw [Cl.zero_co x.pos hi, Cl.co_mod] at this
   exact this
set_option maxHeartbeats 6400000 in
set_option maxRecDepth 8000 in
theorem IsIdempotent_ok (P : Int) (A : Option Addr) (n c : Nat) (sq : List Int) (X : Option Addr) (cx : Nat) (xs : List Int) (w : World) (hn : n ≤ 1048576) (hm : pw n ≤ 1048576) (ha : Rd w A n (ints sq)) (hx : Rd w X (pw n) (ints xs)) (hcx : pw n ≤ cx) (h0 : codeA P sq [xs] = 0) :
    Calls Tryz.prog 71 #[.agg #[.int .i64 P, .slice A n c], .slice X (pw n) cx] w fun e w' => e = .returned (.tuple #[.bool (zeroL (plusL P (mulL P sq xs xs) xs (-1))), .int .i64 0]) ∧ Below w.heap.size w w' := by
 have hB0 : Below w.heap.size w (w.alloc (.cells #[.int .i64 P, .slice A n c] 26)) := zG.alloc (Nat.le_refl _) _
 have k0 : Blk (w.alloc (.cells #[.int .i64 P, .slice A n c] 26)) w.heap.size 26 #[.int .i64 P, .slice A n c] := Blk.new _ _ _
 have hB1 : Below w.heap.size w ((w.alloc (.cells #[.int .i64 P, .slice A n c] 26)).alloc (.cells #[.slice X (pw n) cx] 24)) := hB0.alloc (by simp) _
 have k1 : Blk ((w.alloc (.cells #[.int .i64 P, .slice A n c] 26)).alloc (.cells #[.slice X (pw n) cx] 24)) w.heap.size 26 #[.int .i64 P, .slice A n c] := k0.alloc _
 have hreg := checkAlgebra_any P A (some ⟨w.heap.size + 1, 0, none⟩) n c 1 1 sq [xs] ((w.alloc (.cells #[.int .i64 P, .slice A n c] 26)).alloc (.cells #[.slice X (pw n) cx] 24)) hn (by omega) (ha.below hB1) (rdII_one' (Blk.newAt3 (by simp)) (hx.below hB1) hcx) (all_one (by rw [hx.lenI]; exact hm))
 rw [h0] at hreg
 obtain ⟨hcM, h4⟩ := codeA_zero h0
 obtain ⟨HP, hp, hp2, hd1, hd2, hs, hms⟩ := codeM_spec3 hcM
 obtain ⟨hx1, hxs⟩ := hms xs (by simp)
 have hsl := ha.lenI
 have hn4 : n ≤ 4 := by omega
 have hpw : pw n ≤ 16 := pw_le hn4
 have HXS := Lib.hid hxs
 have HS := Lib.hid hs
 have HAL : Hid (∀ ys ∈ [xs, xs], NumsL P ys ∧ ys.length = pw n) := Lib.hid (all_two ⟨hxs, hx.lenI⟩ ⟨hxs, hx.lenI⟩)
 have HTL : Hid (timesL P sq n [xs, xs] = mulL P sq xs xs) := Lib.hid (timesL_two P sq n xs xs hx.lenI hxs)
 obtain ⟨z, hz⟩ : ∃ z, z = zeroL (plusL P (mulL P sq xs xs) xs (-1)) := ⟨_, rfl⟩
 have HZ : Hid (zeroL (plusL P (mulL P sq xs xs) xs (-1)) = z) := Lib.hid hz.symm
 rw [← hz]
 clear hms hx1 hxs hs h0 hcM hsl hz
 go_enter Tryz.func71, Tryz.ntmps71
 go_wp2_with fail
 refine hreg.mono ?_
 rintro e w2 ⟨rfl, hb2⟩
 have hB2 := hB1.trans (hb2.mono hB1.size)
 have k2 := k1.below hb2 k1.lt
 clear k0 k1 hreg hb2 hB0 hB1
 obtain ⟨q0, q1⟩ := k2.two
 go_wp2
 refine wp_obs 12 [[],[0],[],[],[],[3,4],[2,3,4,5],[],[0,1,2,3,4,5,6,7],[0,1,2,3,4,5,6,7,8],[0,1,2,3,4,5,6,7,8,9],[]] [VIs (.agg #[.int .i64 P, .slice A n c]), VIs (.int .i64 (P)), VIs (.agg #[.int .i64 P, .slice A n c]), VIs (.slice X (pw n) cx), VIs (.slice X (pw n) cx), VRow 2 [xs, xs], VSl w2 (pw n) (mulL P sq xs xs), VIs (.slice X (pw n) cx), VSl w2 (pw n) (plusL P (mulL P sq xs xs) xs (-1)), VIs (.bool z), VIs (.bool z), VIs (.int .i64 0)] (fun w' => Blk w' w.heap.size 26 #[.int .i64 P, .slice A n c] ∧ Below w2.heap.size w2 w') (by kernel_rfl) (by kernel_rfl) (fun _ _ h hb => ⟨h.1.below hb h.1.lt, h.2.trans (hb.mono h.2.size)⟩) (⟨k2.drew, zG.drew⟩) (fun x => ?_)
 refine zS (fun w' hS hV K hK => ?_) ?_
 · obtain ⟨q0, q1⟩ := hS.1.two; go_simp; exact zO hK
 refine zS (fun w' hS hV K hK => ?_) ?_
 · have e0 := zQ hV 0; obtain ⟨q0, q1⟩ := hS.1.two; go_simp; refine (field_any _ _ _ _ _).mono ?_; rintro e v1 ⟨rfl, hb⟩; exact hK.out _ _ _ rfl rfl rfl hb
 refine zS (fun w' hS hV K hK => ?_) ?_
 · obtain ⟨q0, q1⟩ := hS.1.two; go_simp; exact zO hK
 refine zS (fun w' hS hV K hK => ?_) ?_
 · obtain ⟨q0, q1⟩ := hS.1.two; go_simp; exact zO hK
 refine zS (fun w' hS hV K hK => ?_) ?_
 · obtain ⟨q0, q1⟩ := hS.1.two; go_simp; exact zO hK
 refine zS (fun w' hS hV K hK => ?_) ?_
 · have e3 := zQ hV 3; have e4 := zQ hV 4; obtain ⟨q0, q1⟩ := hS.1.two; go_simp; exact hK.out _ _ _ rfl rfl ⟨_, _, rfl, rdII_two (Blk.new w' 24 _) ((hx.below (hB2.trans (hS.2.mono hB2.size))).below (zG.alloc (Nat.le_refl _) _)) ((hx.below (hB2.trans (hS.2.mono hB2.size))).below (zG.alloc (Nat.le_refl _) _)) hcx hcx⟩ (zG.alloc (Nat.le_refl _) _)
 refine zS (fun w' hS hV K hK => ?_) ?_
 · have e2 := zQ hV 2; obtain ⟨A5, c5, e5, h5⟩ := hV 5 (by decide); obtain ⟨q0, q1⟩ := hS.1.two; go_simp; have htm := times_any P A n c sq A5 2 c5 [xs, xs] w' hp hp2 (by omega) (by omega) (ha.below (hB2.trans (hS.2.mono hB2.size))) HS.out h5 HAL.out; rw [HTL.out] at htm; refine htm.mono ?_; rintro e v1 ⟨A9, c9, rfl, hM⟩; exact hK.out _ _ _ rfl rfl ⟨_, _, rfl, hM.after hS.2⟩ hM.b
 refine zS (fun w' hS hV K hK => ?_) ?_
 · obtain ⟨q0, q1⟩ := hS.1.two; go_simp; exact zO hK
 refine zS (fun w' hS hV K hK => ?_) ?_
 · have e1 := zQ hV 1; obtain ⟨A5, c5, e5, h5⟩ := hV 5 (by decide); obtain ⟨A6, c6, e6, h6⟩ := hV 6 (by decide); have e7 := zQ hV 7; obtain ⟨q0, q1⟩ := hS.1.two; go_simp; refine (plus_any P A6 (pw n) c6 X (pw n) cx (-1) (mulL P sq xs xs) xs w' hp hp2 (by omega) (Nat.le_refl _) h6.rd (mulL_nums (by omega) _ _ _) (hx.below (hB2.trans (hS.2.mono hB2.size))) HXS.out (by omega) (by omega)).mono ?_; rintro e v1 ⟨A9, c9, rfl, hM⟩; exact hK.out _ _ _ rfl rfl ⟨_, _, rfl, hM.after hS.2⟩ hM.b
 refine zS (fun w' hS hV K hK => ?_) ?_
 · obtain ⟨A5, c5, e5, h5⟩ := hV 5 (by decide); obtain ⟨A6, c6, e6, h6⟩ := hV 6 (by decide); obtain ⟨A8, c8, e8, h8⟩ := hV 8 (by decide); obtain ⟨q0, q1⟩ := hS.1.two; go_simp; refine (isZero_any _ _ _ (plusL P (mulL P sq xs xs) xs (-1)) _ (by omega) h8.rd).mono ?_; rintro e v1 ⟨rfl, rfl⟩; rw [HZ.out]; exact zO hK
 refine zS (fun w' hS hV K hK => ?_) ?_
 · obtain ⟨A5, c5, e5, h5⟩ := hV 5 (by decide); obtain ⟨A6, c6, e6, h6⟩ := hV 6 (by decide); obtain ⟨A8, c8, e8, h8⟩ := hV 8 (by decide); have e9 := zQ hV 9; obtain ⟨q0, q1⟩ := hS.1.two; go_simp; exact zO hK
 refine zS (fun w' hS hV K hK => ?_) ?_
 · obtain ⟨q0, q1⟩ := hS.1.two; go_simp; exact zO hK
 refine fun w' hS hV => ?_
 have e0 := zT hV 0
 have e1 := zT hV 1
 have e2 := zT hV 2
 have e3 := zT hV 3
 have e4 := zT hV 4
 obtain ⟨A5, c5, e5, h5⟩ := hV 5 (by decide)
 obtain ⟨A6, c6, e6, h6⟩ := hV 6 (by decide)
 have e7 := zT hV 7
 obtain ⟨A8, c8, e8, h8⟩ := hV 8 (by decide)
 have e9 := zT hV 9
 have e10 := zT hV 10
 have e11 := zT hV 11
 simp only [e0, e1, e2, e3, e4, e5, e6, e7, e8, e9, e10, e11]
 clear e0 e1 e2 e3 e4 e5 e6 e7 e8 e9 e10 e11
 refine wpAny_done (by kernel_rfl) ?_ _
 go_wp2
 go_ret2
 exact ⟨rfl, hB2.trans (hS.2.mono hB2.size)⟩
theorem vid_same {P : Int} (hp : 0 < P) (xs ys : List Int) (a b : Int) (hl : xs.length = ys.length) : scaleL P (plusL P xs ys a) b = plusL P (scaleL P xs b) ys (b * a % P) := by
 refine list_ext_getD 0 (by rw [scaleL_len, plusL_len, plusL_len, scaleL_len]) fun i hi => ?_
 rw [scaleL_len, plusL_len] at hi
 rw [scaleL_getD _ (by rw [plusL_len]; exact hi), plusL_getD _ _ hi, plusL_getD _ _ (by rw [scaleL_len]; exact hi), scaleL_getD _ hi]
 refine (cg_mul (Int.emod_emod_of_dvd _ (Int.dvd_refl P)) rfl).trans ?_
 refine Eq.trans ?_ (cg_add (Int.emod_emod_of_dvd _ (Int.dvd_refl P)) (cg_mul (Int.emod_emod_of_dvd _ (Int.dvd_refl P)) rfl)).symm
 congr 1
 rw [Int.add_mul]
 congr 1
 rw [Int.mul_comm b a, Int.mul_assoc, Int.mul_assoc, Int.mul_comm (ys.getD i 0)]
set_option maxHeartbeats 6400000 in
set_option maxRecDepth 8000 in
theorem VectorIdempotent_any (P : Int) (A : Option Addr) (n c : Nat) (sq : List Int) (X : Option Addr) (m cx : Nat) (xs : List Int) (w : World) (hn : n ≤ 1048576) (hm : m ≤ 1048576) (ha : Rd w A n (ints sq)) (hx : Rd w X m (ints xs)) (hcx : m ≤ cx) :
    Calls Tryz.prog 69 #[.agg #[.int .i64 P, .slice A n c], .slice X m cx] w fun e w' => ∃ (A' : Option Addr) (k c' : Nat), e = .returned (.tuple #[.slice A' k c', .int .i64 (vidR P sq xs).2]) ∧ MkI w w' A' k c' (vidR P sq xs).1 := by
 have hB0 : Below w.heap.size w (w.alloc (.cells #[.int .i64 P, .slice A n c] 26)) := zG.alloc (Nat.le_refl _) _
 have k0 : Blk (w.alloc (.cells #[.int .i64 P, .slice A n c] 26)) w.heap.size 26 #[.int .i64 P, .slice A n c] := Blk.new _ _ _
 have hB1 : Below w.heap.size w ((w.alloc (.cells #[.int .i64 P, .slice A n c] 26)).alloc (.cells #[.slice X m cx] 24)) := hB0.alloc (by simp) _
 have k1 : Blk ((w.alloc (.cells #[.int .i64 P, .slice A n c] 26)).alloc (.cells #[.slice X m cx] 24)) w.heap.size 26 #[.int .i64 P, .slice A n c] := k0.alloc _
 have hreg := checkAlgebra_any P A (some ⟨w.heap.size + 1, 0, none⟩) n c 1 1 sq [xs] ((w.alloc (.cells #[.int .i64 P, .slice A n c] 26)).alloc (.cells #[.slice X m cx] 24)) hn (by omega) (ha.below hB1) (rdII_one' (Blk.newAt3 (by simp)) (hx.below hB1) hcx) (all_one (by rw [hx.lenI]; exact hm))
 by_cases hr0 : codeA P sq [xs] = 0
 · rw [hr0] at hreg
   obtain ⟨hcM, h4⟩ := codeA_zero hr0
   obtain ⟨HP, hp, hp2, hd1, hd2, hs, hms⟩ := codeM_spec3 hcM
   obtain ⟨hx1, hxs⟩ := hms xs (by simp)
   have hsl := ha.lenI
   have hmn : m = pw n := by rw [← hx.lenI, hx1, hsl]
   subst hmn
   have hn4 : n ≤ 4 := by omega
   have hpw : pw n ≤ 16 := pw_le hn4
   have HR0 := Lib.hid hr0
   have HSL := Lib.hid hsl
   have HXS := Lib.hid hxs
   have HXL := Lib.hid hx.lenI
   have HS := Lib.hid hs
   have HPP := Lib.hid HP
   obtain ⟨nm, hnm⟩ : ∃ z, z = pairL P sq (partL n xs) (partL n xs) := ⟨_, rfl⟩
   have HNM : Hid (pairL P sq (partL n xs) (partL n xs) = nm) := Lib.hid hnm.symm
   have hnm2 : 0 ≤ nm ∧ nm < P := by rw [hnm]; exact pairL_small (by omega) sq _ _
   have HVR : Hid (vrtL P sq sq.length xs = rootI (rootF P nm P.toNat 0)) := Lib.hid (by unfold vrtL; rw [hsl, ← hnm])
   have HON : Hid (decide (xs = partG xs 1) = onlyL xs 1) := Lib.hid (onlyL_part2 (by rw [hx.lenI]; omega) 1)
   clear hsl hs hxs hx1 hms hd1 hd2 h4 hcM hr0 HP hnm
   go_enter Tryz.func69, Tryz.ntmps69
   go_wp2_with fail
   refine hreg.mono ?_
   rintro e w2 ⟨rfl, hb2⟩
   have hB2 := hB1.trans (hb2.mono hB1.size)
   have k2 := k1.below hb2 k1.lt
   clear k0 k1 hreg hb2 hB0 hB1
   obtain ⟨q0, q1⟩ := k2.two
   go_wp2
   refine wp_obs 6 [[],[],[],[1,2],[0,1,2,3],[0,1,2,3,4]] [VIs (.agg #[.int .i64 P, .slice A n c]), VIs (.agg #[.int .i64 P, .slice A n c]), VIs (.slice X (pw n) cx), VSl w2 n (partL n xs), VIs (.int .i64 (nm)), VIs (.int .i64 (nm))] (fun w' => Blk w' w.heap.size 26 #[.int .i64 P, .slice A n c] ∧ Below w2.heap.size w2 w') (by kernel_rfl) (by kernel_rfl) (fun _ _ h hb => ⟨h.1.below hb h.1.lt, h.2.trans (hb.mono h.2.size)⟩) (⟨k2.drew, zG.drew⟩) (fun x => ?_)
   refine zS (fun w' hS hV K hK => ?_) ?_
   · obtain ⟨q0, q1⟩ := hS.1.two; go_simp; exact zO hK
   refine zS (fun w' hS hV K hK => ?_) ?_
   · obtain ⟨q0, q1⟩ := hS.1.two; go_simp; exact zO hK
   refine zS (fun w' hS hV K hK => ?_) ?_
   · obtain ⟨q0, q1⟩ := hS.1.two; go_simp; exact zO hK
   refine zS (fun w' hS hV K hK => ?_) ?_
   · have e1 := zQ hV 1; have e2 := zQ hV 2; obtain ⟨q0, q1⟩ := hS.1.two; go_simp; refine (vectorPart_any P A n c X cx xs w' (by omega) (hx.below (hB2.trans (hS.2.mono hB2.size)))).mono ?_; rintro e v1 ⟨A9, c9, rfl, hM⟩; exact hK.out _ _ _ rfl rfl ⟨_, _, rfl, hM.after hS.2⟩ hM.b
   refine zS (fun w' hS hV K hK => ?_) ?_
   · have e0 := zQ hV 0; obtain ⟨A3, c3, e3, h3⟩ := hV 3 (by decide); obtain ⟨q0, q1⟩ := hS.1.two; go_simp; refine (norm_any P A n c sq A3 c3 (partL n xs) w' hp hp2 (by omega) (ha.below (hB2.trans (hS.2.mono hB2.size))) HS.out h3.rd (partL_nums (by omega) _ _ HXS.out)).mono ?_; rintro e v1 ⟨rfl, hb⟩; rw [HNM.out]; exact hK.out _ _ _ rfl rfl rfl hb
   refine zS (fun w' hS hV K hK => ?_) ?_
   · obtain ⟨A3, c3, e3, h3⟩ := hV 3 (by decide); have e4 := zQ hV 4; obtain ⟨q0, q1⟩ := hS.1.two; go_simp; exact zO hK
   refine fun w' hS hV => ?_
   have e0 := zT hV 0
   have e1 := zT hV 1
   have e2 := zT hV 2
   obtain ⟨A3, c3, e3, h3⟩ := hV 3 (by decide)
   have e4 := zT hV 4
   have e5 := zT hV 5
   simp only [e0, e1, e2, e3, e4, e5]
   clear e0 e1 e2 e3 e4 e5
   refine wpAny_done (by kernel_rfl) ?_ _
   obtain ⟨w3, hw3⟩ : ∃ W, W = w' := ⟨_, rfl⟩
   rw [← hw3] at hS ⊢
   have k3 := hS.1
   have hB3 := hB2.trans (hS.2.mono hB2.size)
   clear hS q0 q1 hw3 k2
   obtain ⟨q0, q1⟩ := k3.two
   go_wp2_with fail
   refine (field_any P A n c w3).mono ?_
   rintro e w4 ⟨rfl, hb4⟩
   have hB4 := hB3.trans (hb4.mono hB3.size)
   have k4 := k3.below hb4 k3.lt
   have hrt := root_any P nm w4 hp hp2
   have hon := fun w' (h : Below w4.heap.size w4 w') => onlyGrade_any X (pw n) cx xs 1 w' (by omega) (hx.below (hB4.trans (h.mono hB4.size)))
   clear q0 q1 k3 hb4
   cases hr : rootF P nm P.toNat 0 with
   | none =>
    rw [hr] at hrt
    unfold rootV at hrt
    have HNO : Hid ((decide (xs = partG xs 1) && decide (0 < vrtL P sq sq.length xs)) = false) := Lib.hid (by rw [HVR.out, hr]; simp [rootI])
    clear hr
    go_wp2_with fail
    refine hrt.mono ?_
    rintro e w5 ⟨rfl, rfl⟩
    go_wp2_with fail
    refine (hon w4 zG).mono ?_
    rintro e w6 ⟨rfl, hb6⟩
    have HBB := Lib.hid (hB4.trans (hb6.mono hB4.size))
    clear hon hrt
    cases onlyL xs 1 <;> by_cases hz : nm = 0
    · have t1 : (nm == 0) = true := by simp [hz]
      go_wp2
      go_ret2
      exact noRow3 (vidR_no HR0.out HNO.out) HBB.out
    · have t1 : (nm == 0) = false := by simp [hz]
      go_wp2
      go_ret2
      exact noRow3 (vidR_no HR0.out HNO.out) HBB.out
    · have t1 : (nm == 0) = true := by simp [hz]
      go_wp2
      go_ret2
      exact noRow3 (vidR_no HR0.out HNO.out) HBB.out
    · have t1 : (nm == 0) = false := by simp [hz]
      go_wp2
      go_ret2
      exact noRow3 (vidR_no HR0.out HNO.out) HBB.out
   | some rt =>
    rw [hr] at hrt
    unfold rootV at hrt
    obtain ⟨r1, r2, r3⟩ := rootF_spec P nm _ _ _ hr
    have HRT : Hid (vrtL P sq sq.length xs = rt) := Lib.hid (by rw [HVR.out, hr]; rfl)
    clear hr
    go_wp2_with fail
    refine hrt.mono ?_
    rintro e w5 ⟨rfl, rfl⟩
    go_wp2_with fail
    refine (hon w4 zG).mono ?_
    rintro e w6 ⟨rfl, hb6⟩
    have HBB := Lib.hid (hB4.trans (hb6.mono hB4.size))
    clear hon hrt
    cases ho : onlyL xs 1 with
    | false =>
     have HNO : Hid ((decide (xs = partG xs 1) && decide (0 < vrtL P sq sq.length xs)) = false) := Lib.hid (by rw [HON.out, ho]; rfl)
     clear ho
     by_cases hz : nm = 0
     · have t1 : (nm == 0) = true := by simp [hz]
       go_wp2
       go_ret2
       exact noRow3 (vidR_no HR0.out HNO.out) HBB.out
     · have t1 : (nm == 0) = false := by simp [hz]
       go_wp2
       go_ret2
       exact noRow3 (vidR_no HR0.out HNO.out) HBB.out
    | true =>
     have hrtn : rt = 0 ↔ nm = 0 := by
      constructor
      · intro h; rw [← r3, h]; simp
      · intro h
        refine Classical.byContradiction fun hne => ?_
        have h1 : rt % P ≠ 0 := by rw [Int.emod_eq_of_lt (by omega) (by omega)]; exact hne
        exact mul_ne HPP.out h1 h1 (by rw [r3, h])
     by_cases hz : nm = 0
     · have t1 : (nm == 0) = true := by simp [hz]
       have HNO : Hid ((decide (xs = partG xs 1) && decide (0 < vrtL P sq sq.length xs)) = false) := Lib.hid (by rw [HRT.out, hrtn.2 hz]; simp)
       clear ho hrtn
       go_wp2
       go_ret2
       exact noRow3 (vidR_no HR0.out HNO.out) HBB.out
     · have t1 : (nm == 0) = false := by simp [hz]
       have hrt0 : 0 < rt := by have : rt ≠ 0 := fun h => hz (hrtn.1 h); omega
       have hrtP : rt < P := by omega
       have hi1 := inv_spec HPP.out hrt0 hrtP
       have hi2 := inv_spec HPP.out (show (0 : Int) < 2 by omega) (show (2 : Int) < P by have := isP_ge HPP.out; omega)
       have HVO : Hid (vidR P sq xs = (vidL P sq sq.length xs, 0)) := Lib.hid (vidR_ok HR0.out (by rw [HON.out, ho]) (by rw [HRT.out]; exact hrt0))
       have HVL : Hid (vidL P sq sq.length xs = scaleL P (plusL P (bladeL n 0) xs (invF P rt)) (invF P 2)) := Lib.hid (by
        rw [vid_same (show 0 < P by omega) (bladeL n 0) xs (invF P rt) (invF P 2) (by rw [bladeL_len]; exact HXL.out.symm)]
        unfold vidL
        rw [HRT.out, HSL.out])
       obtain ⟨ir, hir⟩ : ∃ z, z = invF P rt := ⟨_, rfl⟩
       obtain ⟨h2, hh2⟩ : ∃ z, z = invF P 2 := ⟨_, rfl⟩
       have hc1 := fun w' => inv_any P rt w' hp hp2 (by omega) hrtP
       have hc2 := fun w' => inv_any P 2 w' hp hp2 (by omega) (show (2 : Int) < P by have := isP_ge HPP.out; omega)
       rw [← hir] at hc1 hi1 HVL
       rw [← hh2] at hc2 hi2 HVL
       have hia : 0 < ir ∧ ir < P := ⟨hi1.1, hi1.2.1⟩
       have hib : 0 < h2 ∧ h2 < P := ⟨hi2.1, hi2.2.1⟩
       have k6 := k4.below hb6 k4.lt
       clear ho hrtn hi1 hi2 hir hh2 k4 hb6 hB3 hB4 r1 r2 r3 hrt0 hrtP
       obtain ⟨q0, q1⟩ := k6.two
       go_wp2_with fail
       refine (field_any P A n c w6).mono ?_
       rintro e w7 ⟨rfl, hb7⟩
       have hB7 := HBB.out.trans (hb7.mono HBB.out.size)
       have k7 := k6.below hb7 k6.lt
       clear q0 q1 k6 hb7
       obtain ⟨q0, q1⟩ := k7.two
       go_wp2_with fail
       refine (one_any P A n c w7 (by omega)).mono ?_
       rintro e w8 ⟨A8, c8, rfl, hM8⟩
       have hB8 := hB7.trans (hM8.b.mono hB7.size)
       clear q0 q1 k7
       go_wp2_with fail
       refine (hc1 w8).mono ?_
       rintro e w9 ⟨rfl, rfl⟩
       have hpl := plus_any P A8 (pw n) c8 X (pw n) cx ir (bladeL n 0) xs w8 hp hp2 (by omega) (Nat.le_refl _) hM8.rd (bladeL_nums hp _ _) (hx.below hB8) HXS.out (by omega) (by omega)
       clear hc1
       go_wp2_with fail
       refine hpl.mono ?_
       rintro e w10 ⟨A10, c10, rfl, hM10⟩
       have hB10 := hB8.trans (hM10.b.mono hB8.size)
       clear hpl hM8
       go_wp2_with fail
       refine (hc2 w10).mono ?_
       rintro e w11 ⟨rfl, rfl⟩
       have hsc := scaled_any P A10 (pw n) c10 h2 (plusL P (bladeL n 0) xs ir) w10 hp hp2 (by omega) hM10.rd (plusL_nums (by omega) _ _ _) (by omega) (by omega)
       clear hc2
       go_wp2_with fail
       refine hsc.mono ?_
       rintro e w12 ⟨A12, c12, rfl, hM12⟩
       go_wp2
       go_ret2
       exact aRow3 (HVO.out.trans (by rw [HVL.out])) (hM12.after hB10)
 · obtain ⟨r, hr⟩ : ∃ r, r = codeA P sq [xs] := ⟨_, rfl⟩
   have HR := Lib.hid hr
   have HR0 := Lib.hid hr0
   have b0 : (r != 0) = true := code_ne (by rw [hr]; exact hr0)
   rw [← hr] at hreg
   clear hr hr0
   go_enter Tryz.func69, Tryz.ntmps69
   go_wp2_with fail
   refine hreg.mono ?_
   rintro e w2 ⟨rfl, hb2⟩
   have hB2 := hB1.trans (hb2.mono hB1.size)
   go_wp2
   go_ret2
   exact noRow3 (by rw [vidR_bad HR0.out, HR.out]) hB2
theorem Nest.cellSet {w : World} {B : Nat} {rows : List Value} {xss : List (List Int)} (h : Nest w B rows xss) {i gr m c : Nat} (hi : i < xss.length) (ei : rows[i]? = some (.slice (some ⟨gr, 0, none⟩) m c)) (k : Nat) (x : Int) :
    Nest (w.setCell ⟨gr, k, none⟩ (.int .i64 x)) B rows (xss.set i ((xss.getD i []).set k x)) ∧ w.grownBy (w.setCell ⟨gr, k, none⟩ (.int .i64 x)) (some gr) ∧ B ≤ gr := by
 obtain ⟨A, c', e, ho⟩ := h.row i hi
 have e0 := ei
 rw [e] at ei
 injection ei with ei; injection ei with e1 e2 e3
 subst e1; subst e3
 obtain ⟨s1, s2⟩ := World.ownsRow.stored ho k (.int .i64 x)
 have hgd : xss.getD i [] = xss[i] := getD_of_lt [] hi
 refine ⟨⟨by simp [h.len], fun j hj => ?_, h.apart⟩, s2, (ho.lt gr rfl).1⟩
 have hj' : j < xss.length := by simpa using hj
 by_cases hij : i = j
 · subst hij
   rw [List.getElem_set_self, hgd]
   refine ⟨some ⟨gr, 0, none⟩, c', by rw [List.length_set]; exact e, ?_⟩
   rw [List.length_set, ← ints_set]
   exact s1
 · obtain ⟨A', c2, e', ho'⟩ := h.row j hj'
   rw [List.getElem_set_ne hij]
   refine ⟨A', c2, e', Own.grown (row := some gr) ho' s2 (Or.inr fun hb => ?_)⟩
   refine h.apart_ne i j gr hij ?_ ?_
   · rw [e0]; rfl
   · rw [e']; exact hb
/-- One number of one row written. -/
theorem MkII.cellSet1 {w0 w : World} {g n c : Nat} {xss : List (List Int)} (h : MkII w0 w (some ⟨g, 0, none⟩) n c xss) {i gr m cr : Nat} (hi : i < n) (ci : w.cell? ⟨g, i, none⟩ = some (.slice (some ⟨gr, 0, none⟩) m cr)) (k : Nat) (x : Int) :
    MkII w0 (w.setCell ⟨gr, k, none⟩ (.int .i64 x)) (some ⟨g, 0, none⟩) n c (xss.set i ((xss.getD i []).set k x)) ∧ g ≠ gr ∧ w0.heap.size ≤ gr := by
 have hl := h.len
 obtain ⟨rows, hm, hn⟩ := h
 obtain ⟨u, hu, hc⟩ := hm.2.cell_ hi
 rw [ci] at hc
 injection hc with hc
 subst hc
 obtain ⟨n1, g1, b1⟩ := hn.cellSet (by omega) hu k x
 have hne : g ≠ gr := fun e => by
  obtain ⟨A', c2, e', ho'⟩ := hn.row i (by omega)
  rw [hu] at e'
  injection e' with e'; injection e' with e1 e2 e3
  subst e1
  have := hm.2.ne ho' (by decide)
  rcases this with h1 | h1
  · cases h1
  · exact h1 (by rw [e]; rfl)
 refine ⟨⟨rows, ⟨hm.1.setCell b1 _, Own.grown (row := some gr) hm.2 g1 (Or.inr fun hb => hne (by injection hb))⟩, n1⟩, hne, b1⟩
theorem mul_smallA {k y : Int} (h1 : -1000 ≤ k) (h2 : k ≤ 1000) (y1 : 0 ≤ y) (y2 : y ≤ 13) : -13000 ≤ k * y ∧ k * y ≤ 13000 := by
 rcases Int.le_total 0 k with h | h
 · have a := Int.mul_nonneg h y1
   have b := Int.le_trans (Int.mul_le_mul_of_nonneg_right h2 y1) (show 1000 * y ≤ 13000 by omega)
   omega
 · have a := Int.mul_nonneg (show 0 ≤ -k by omega) y1
   have b := Int.le_trans (Int.mul_le_mul_of_nonneg_right (show -k ≤ 1000 by omega) y1) (show 1000 * y ≤ 13000 by omega)
   rw [Int.neg_mul] at a b
   omega
def adF (p k : Int) (xs ys : List Int) (i : Nat) : Int := (xs.getD i 0 + k * ys.getD i 0) % p
theorem adF_all {p k : Int} {xs ys : List Int} (hx : NumsL p xs) : mixL (adF p k xs ys) xs ys.length = plusL p xs ys k := by
 refine tab_congr fun i hi => ?_
 by_cases h : i < ys.length
 · rw [if_pos h]; rfl
 · have e : ys.getD i 0 = 0 := by rw [List.getD_eq_getElem?_getD, List.getElem?_eq_none (by omega)]; rfl
   have hn := hx (xs.getD i 0) (by rw [getD_of_lt 0 hi]; exact List.getElem_mem hi)
   rw [if_neg h, e, Int.mul_zero, Int.add_zero, Int.emod_eq_of_lt hn.1 hn.2]
set_option maxHeartbeats 1600000 in
set_option maxRecDepth 8000 in
theorem added_any (p : Int) (A : Option Addr) (n c : Nat) (B : Option Addr) (m d : Nat) (k : Int) (xs ys : List Int) (w : World) (hp : 2 ≤ p) (hp2 : p ≤ 13) (h0 : 0 < n) (hn : n ≤ 65536) (hnm : m ≤ n) (ha : Rd w A n (ints xs)) (hx : NumsL p xs) (hb : Rd w B m (ints ys)) (hy : NumsL p ys) (hk1 : -1000 ≤ k) (hk2 : k ≤ 1000) :
    Calls Tryz.prog 243 #[.int .i64 p, .slice A n c, .slice B m d, .int .i64 k] w fun e w' => ∃ A' c', e = .returned (.slice A' n c') ∧ MkI w w' A' n c' (plusL p xs ys k) := by
 have hxl := ha.lenI
 have hyl := hb.lenI
 have hcl := clone_any A n c xs w hn ha
 have HALL : Hid (mixL (adF p k xs ys) xs m = plusL p xs ys k) := Lib.hid (by rw [← hyl]; exact adF_all hx)
 have HXL := Lib.hid hxl
 have HYL := Lib.hid hyl
 clear hxl hyl
 go_enter Tryz.func243, Tryz.ntmps243
 go_wp2_with fail
 refine hcl.mono ?_
 rintro e w1 ⟨A1, c1, rfl, hM1⟩
 rcases hM1.2.form with ⟨_, hz⟩ | ⟨g, rfl, -, -⟩
 · omega
 have hM0 : MkI w w1 (some ⟨g, 0, none⟩) n c1 (mixL (adF p k xs ys) xs 0) := by rw [mixL_zero]; exact hM1
 clear hcl hM1
 go_wp2
 go_loopw [10, 11, 16] (fun _ _ i wr => ∃ j : Nat, j ≤ m ∧ i = .int .i64 j ∧ MkI w wr (some ⟨g, 0, none⟩) n c1 (mixL (adF p k xs ys) xs j)) (fun _ _ i _ => m - (intOf i).toNat)
 case atStart => exact ⟨0, by omega, rfl, hM0⟩
 case round =>
  obtain ⟨j, hj, rfl, hM⟩ := hrel
  clear hM0
  by_cases hlt : j < m
  · obtain ⟨gy, oy, rfl, hyj, hcy⟩ := (hb.below hM.b).int hlt
    obtain ⟨y1, y2⟩ := hy _ (List.getElem_mem hyj)
    obtain ⟨m1, m2⟩ := mul_smallA hk1 hk2 y1 (show ys[j] ≤ 13 by omega)
    obtain ⟨hoc, hof⟩ := mkI_at hM (show j < n by omega)
    have hxj : (mixL (adF p k xs ys) xs j).getD j 0 = xs.getD j 0 := by
     unfold mixL
     rw [tab_getD (by rw [HXL.out]; omega), if_neg (by omega)]
    rw [hxj] at hoc
    have hxb := hx.getD (show 0 < p by omega) j
    obtain ⟨x, hxx⟩ : ∃ x, x = xs.getD j 0 := ⟨_, rfl⟩
    obtain ⟨y, hyy⟩ : ∃ y, y = ys[j] := ⟨_, rfl⟩
    have hset := (hM.set j (.int .i64 ((x + k * y) % p))).1
    rw [ints_set] at hset
    have hfk : adF p k xs ys j = (x + k * y) % p := by unfold adF; rw [hxx, hyy, getD_of_lt 0 hyj]
    have HS : Hid (MkI w (wr.setCell ⟨g, j, none⟩ (.int .i64 ((x + k * y) % p))) (some ⟨g, 0, none⟩) n c1 (mixL (adF p k xs ys) xs (j + 1))) := Lib.hid (by rw [mixL_succ _ _ _ (by rw [HXL.out]; omega), hfk]; exact hset)
    rw [← hxx] at hoc hxb
    rw [← hyy] at hcy y1 y2 m1 m2
    have W1 := i64_fit (k * y) (by omega) (by omega)
    have W2 := i64_fit (x + k * y) (by omega) (by omega)
    have hnum := fun w' => num_any p (x + k * y) w' (by omega) hp2 (by omega) (by omega)
    clear hset hfk hxx hyy hxj hM hyj
    go_wp2_with fail
    refine (hnum _).mono ?_
    rintro e w2 ⟨rfl, rfl⟩
    clear hnum
    go_wp2
    go_roundw
    case rel => exact ⟨j + 1, by omega, by go_num, HS.out⟩
    case measure => simp [intOf]; omega
  · obtain rfl : j = m := by omega
    go_wp2
    go_ret
    exact ⟨_, _, rfl, by rw [← HALL.out]; exact hM⟩
/-- A row of a table whose rows are the call's own. -/
theorem MkII.rowAt {w0 w : World} {g n c m : Nat} {p : Int} {L : List (List Int)} (h : MkII w0 w (some ⟨g, 0, none⟩) n c L) (hT : Tab p m L) (hm : 0 < m) {i : Nat} (hi : i < n) :
    ∃ gi ci, w.cell? ⟨g, i, none⟩ = some (.slice (some ⟨gi, 0, none⟩) m ci) ∧ Rd w (some ⟨gi, 0, none⟩) m (ints (L.getD i [])) ∧ (L.getD i []).length = m ∧ NumsL p (L.getD i []) ∧ (∀ q, q < m → w.cell? ⟨gi, q, none⟩ = some (.int .i64 (ent L i q))) ∧ ∀ q, w.frozen? ⟨gi, q, none⟩ = false := by
 have hl := h.len
 obtain ⟨rows, hmk, hn⟩ := h
 have hi2 : i < L.length := by omega
 obtain ⟨A, c', e, ho⟩ := hn.row i hi2
 have hr := hT.row hi2
 have hg : L.getD i [] = L[i] := getD_of_lt [] hi2
 rw [hg] at hr ⊢
 rw [hr.1] at e ho
 rcases ho.form with ⟨_, hz⟩ | ⟨gi, rfl, -, -⟩
 · omega
 obtain ⟨u, hu, hc⟩ := hmk.2.cell_ hi
 rw [e] at hu
 injection hu with hu
 subst hu
 refine ⟨gi, c', hc, ho.rd, hr.1, hr.2, fun q hq => ?_, fun q => ho.frozen_ q⟩
 have hql : q < L[i].length := by rw [hr.1]; exact hq
 refine (World.ownsRow.cellAt ho q (by omega)).trans ?_
 rw [ints_get _ _ hql]
 unfold ent
 rw [hg, getD_of_lt 0 hql]
/-- A list of one list. -/
theorem MkII.lone (w : World) (x : Int) : MkII w ((w.alloc (.cells #[.int .i64 x] 2)).alloc (.cells #[.slice (some ⟨w.heap.size, 0, none⟩) 1 1] 24)) (some ⟨w.heap.size + 1, 0, none⟩) 1 1 [[x]] := by
 have hm1 : MkI w (w.alloc (.cells #[.int .i64 x] 2)) (some ⟨w.heap.size, 0, none⟩) 1 1 [x] := Mk.lit zG #[.int .i64 x] (by simp [maxLen])
 have h := Mk.lit (E := 24) hm1.1 #[.slice (some ⟨w.heap.size, 0, none⟩) 1 1] (by simp [maxLen])
 rw [World.size_alloc] at h
 exact ⟨_, h, ((Nest.nil w w.heap.size).snoc hm1 (Nat.le_refl _)).below (zG.alloc (Nat.le_refl _) _)⟩
theorem nums_cons {p : Int} {R : List Int} (hp : 0 < p) (h : NumsL p R) : NumsL p (0 :: R) := fun x hx => by
 rcases List.mem_cons.1 hx with e | h1
 · rw [e]; exact ⟨by omega, hp⟩
 · exact h x h1
/-- What a whole copy leaves. -/
theorem copy_all {w w0 : World} {g gl ol N cl : Nat} {L : List Int} {cs : Array Value} (hb : Below w0.heap.size w0 w) (hg : w0.heap.size ≤ g) (k : Blk w g 2 cs) (hs : cs.size = N) (hN : N ≤ 1048576) (hr : Rd w (some ⟨gl, ol, none⟩) N (ints L)) (h0 : 0 < N) :
    ∃ X : Array Value, (∀ ty, (Builtin.copy_ #[24, 24] ty #[.slice (some ⟨g, 0, none⟩) N N, .slice (some ⟨gl, ol, none⟩) N cl]).run Tryz.prog w = .ok (goInt N) (w.setRow g X)) ∧ MkI w0 (w.setRow g X) (some ⟨g, 0, none⟩) N N L := by
 have hll : L.length = N := hr.lenI
 have hil : (ints L).length = N := by rw [ints_length]; exact hll
 refine ⟨(ints L).toArray, fun ty => ?_, ?_⟩
 · have h := run_copy_row (P := Tryz.prog) w 24 24 ty 2 g 0 N N ⟨gl, ol, none⟩ N cl cs 2 (ints L) Tryz.underlying24 (by obtain ⟨i, hi, _, h2, _⟩ := info_parts info_i; rw [hi]; exact congrArg some h2) k (by rw [hil]; exact (Nat.min_self N).symm)
    (fun j v hv => by
     obtain ⟨g2, o2, e, hc⟩ := hr.2 h0
     injection e with e
     subst_eqs
     rw [Addr.add_lit]
     exact hc j v hv) (by omega) (fun v hv => by unfold ints at hv; obtain ⟨y, _, rfl⟩ := List.mem_map.1 hv; rfl)
   rw [hil] at h
   have e : (cs.toList.take 0 ++ ints L ++ cs.toList.drop (0 + N)).toArray = (ints L).toArray := by
    rw [List.take_zero, List.nil_append, Nat.zero_add, List.drop_of_length_le (by rw [Array.length_toList]; omega), List.append_nil]
   rw [e] at h
   exact h
 · have h1 := setRow_heap w g cs (ints L).toArray _ _ k
   have h2 : Below w0.heap.size w0 (w.setRow g (ints L).toArray) := below_setRow hb hg _
   have h3 := Mk.of_cells h2 hg h1 (by simp only [maxLen, List.size_toArray]; rw [hil]; omega)
   have e : (ints L).toArray.size = N := by rw [List.size_toArray]; exact hil
   rw [e, List.toList_toArray] at h3
   exact h3
set_option maxHeartbeats 12800000 in
set_option maxRecDepth 8000 in
theorem characteristic_any (p : Int) (A : Option Addr) (n c : Nat) (M : List (List Int)) (w : World) (HP : isP p = true) (h0 : 0 < n) (hn : n ≤ 16) (ha : RdII w A n M) (hT : Tab p n M) :
    Calls Tryz.prog 167 #[.int .i64 p, .slice A n c] w fun e w' => ∃ (A' : Option Addr) (c' : Nat), e = .returned (.slice A' (n + 1) c') ∧ MkI w w' A' (n + 1) c' (charL p M) := by
 have hML := ha.len
 obtain ⟨hp3, hp2⟩ := isP_ge HP
 have hp : 2 ≤ p := by omega
 have hp0 : 0 < p := by omega
 have HPP := Lib.hid HP
 have HT := Lib.hid (And.intro (show Tab p M.length M by rw [hML]; exact hT) hML)
 have hmk := make_i (P := Tryz.prog) 24 2 Tryz.underlying24 info_i (n + 1) (by omega)
 rw [show (((n + 1 : Nat)) : Int) = (n : Int) + 1 by omega] at hmk
 have hMo := Mk.made (E := 2) (n := n + 1) (z := .int .i64 0) (Below.refl w.heap.size w) (by simp only [maxLen]; omega)
 rw [ints_replicate] at hMo
 have hB0 : Below w.heap.size w (w.alloc (.cells (madeCells #[.int .i64 0] (n + 1)) 2)) := (Below.refl _ w).alloc (Nat.le_refl _) _
 have hclone := cloneRows_any p A n c M n (w.alloc (.cells (madeCells #[.int .i64 0] (n + 1)) 2)) (by omega) (by omega) (ha.below hB0) hT
 clear hT HP ha hML hB0
 go_enter Tryz.func167, Tryz.ntmps167
 go_wp2_with fail
 refine hclone.mono ?_
 rintro e w2 ⟨A1, c1, rfl, hM1⟩
 obtain ⟨w1, hw1⟩ : ∃ W, W = w.alloc (.cells (madeCells #[.int .i64 0] (n + 1)) 2) := ⟨_, rfl⟩
 have hblk0 := Blk.new w 2 (madeCells #[.int .i64 0] (n + 1))
 rw [← hw1] at hM1 hMo hblk0
 have HBLK := Lib.hid hblk0
 clear hblk0
 have HMO := Lib.hid hMo
 clear hmk hclone hw1 hMo
 obtain ⟨g, rfl, -⟩ := hM1.at_ h0
 have W0 : wrap64 ((n : Int) - 1) = (n : Int) - 1 := by unfold wrap64; omega
 go_wp2
 go_loopw [8] (fun q wr => ∃ kk : Nat, (kk + 1 < n ∨ kk = 0) ∧ q = .int .i64 ((kk + 1 : Nat) : Int) ∧ MkII w1 wr (some ⟨g, 0, none⟩) n c1 (hesTo p M kk)) (fun q _ => n - (intOf q).toNat)
 case atStart => exact ⟨0, Or.inr rfl, rfl, hM1⟩
 case round =>
  obtain ⟨kk, hkk, rfl, hM⟩ := hrel
  clear hM1
  obtain ⟨k, hk⟩ : ∃ k, k = kk + 1 := ⟨_, rfl⟩
  rw [← hk]
  obtain ⟨L, hL⟩ : ∃ L, L = hesTo p M kk := ⟨_, rfl⟩
  have HTT : Hid (Tab p n L ∧ L.length = n) := Lib.hid (by
   have h1 := hesTo_tab hp0 HT.out.1 kk (by rw [HT.out.2]; exact hkk)
   rw [← hL, HT.out.2] at h1
   exact h1)
  rw [← hL] at hM
  have HL := Lib.hid hL
  have HK := Lib.hid hk
  have HM := Lib.hid hM
  clear hL hM
  by_cases hlk : (k : Int) < (n : Int) - 1
  · have W1 : wrap64 ((k : Int) - 1) = (kk : Int) := by rw [hk]; unfold wrap64; omega
    have W1i : IntKind.i64.wrap ((k : Int) - 1) = (kk : Int) := by rw [i64_fit _ (by omega) (by omega)]; omega
    have hk1n : k + 1 < n := by omega
    have hkn : k < n := by omega
    have hkkn : kk < n := by omega
    have tk : decide ((k : Int) < (n : Int) - 1) = true := by simp; exact hlk
    clear hk hlk hkk
    go_wp2
    go_loop [9] (fun q => ∃ i : Nat, k ≤ i ∧ i ≤ n ∧ q = .int .i64 i ∧ Hid (piv L kk (n - i) i = pivOf L kk k)) (fun q => n - (intOf q).toNat)
    case atStart => exact ⟨k, by omega, by omega, rfl, Lib.hid (by unfold pivOf; rw [HTT.out.2])⟩
    case round =>
     obtain ⟨i, hi1, hi2, rfl, hi3⟩ := hrel
     by_cases hli : i < n
     · obtain ⟨gi, ci, hci, hri, hli2, hni, hce, hcf⟩ := HM.out.rowAt HTT.out.1 (by omega) hli
       have hcx := hce kk hkkn
       obtain ⟨xe, hxe⟩ : ∃ x, x = ent L i kk := ⟨_, rfl⟩
       rw [← hxe] at hcx
       have HX := Lib.hid hxe
       have HPV : Hid (piv L kk (n - i) i = if ent L i kk = 0 then piv L kk (n - (i + 1)) (i + 1) else i) := Lib.hid (by
        rw [show n - i = (n - (i + 1)) + 1 by omega]; rfl)
       cases hz : (xe == 0)
       · have hne : xe ≠ 0 := by simpa using hz
         have HVP : Hid (pivOf L kk k = i) := Lib.hid (by rw [← hi3.out, HPV.out, if_neg (by rw [← HX.out]; exact hne)])
         have hxb := hni.getD hp0 kk
         have HXB : Hid (0 ≤ xe ∧ xe < p) := Lib.hid (by rw [HX.out]; exact hxb)
         clear hi3 HPV hxe hxb hni hli2 hri
         have ti : ((i : Int) == (n : Int)) = false := by simp; omega
         obtain ⟨gk, ck, hck, -, -, -, -, -⟩ := HM.out.rowAt HTT.out.1 (by omega) hkn
         have HSW := Lib.hid (HM.out.swap hli hkn hci hck)
         obtain ⟨uj, hcs⟩ := HM.out.cellSet i (A1 := some ⟨gk, 0, none⟩) (m := n) (c1 := ck) hkn
         have fd := HM.out.frozen_ i
         have fj := HM.out.frozen_ k
         clear hce hcf
         go_wp2
         go_region
         obtain ⟨w3, hw3⟩ : ∃ W, W = ((wr.setCell ⟨g, i, none⟩ (.slice (some ⟨gk, 0, none⟩) n ck)).setCell ⟨g, k, none⟩ (.slice (some ⟨gi, 0, none⟩) n ci)).drew := ⟨_, rfl⟩
         have hM2 : MkII w1 w3 (some ⟨g, 0, none⟩) n c1 (swapL L i k) := by rw [hw3]; exact HSW.out.below (zG.drew)
         rw [← hw3]
         clear hw3 HSW hcs fd fj hci hck hcx hz
         obtain ⟨N, hN⟩ : ∃ N, N = swapL L i k := ⟨_, rfl⟩
         have HTN : Hid (Tab p n N ∧ N.length = n) := Lib.hid (by rw [hN]; exact ⟨swapL_tab HTT.out.1 (by rw [HTT.out.2]; exact hli) (by rw [HTT.out.2]; exact hkn), by rw [swapL_len, HTT.out.2]⟩)
         have HW : Hid (hesW L i k = rowsTo (swapR i k) N n) := Lib.hid (by unfold hesW; rw [HTT.out.2, hN])
         rw [← hN] at hM2
         have hM3 : MkII w1 w3 (some ⟨g, 0, none⟩) n c1 (rowsTo (swapR i k) N 0) := by rw [rowsTo_zero]; exact hM2
         clear hN hM2
         go_wp2
         go_loopw [68] (fun q wr => ∃ r : Nat, r ≤ n ∧ q = .int .i64 r ∧ MkII w1 wr (some ⟨g, 0, none⟩) n c1 (rowsTo (swapR i k) N r)) (fun q _ => n - (intOf q).toNat)
         case atStart => exact ⟨0, by omega, rfl, hM3⟩
         case round =>
          obtain ⟨r, hr, rfl, hM4⟩ := hrel
          clear hM3
          by_cases hlr : r < n
          · have hT4 : Tab p n (rowsTo (swapR i k) N r) := rowsTo_tab HTN.out.1 (fun x h1 h2 => swapR_ok hp0 x h1 h2) r
            obtain ⟨X, hX⟩ : ∃ X, X = rowsTo (swapR i k) N r := ⟨_, rfl⟩
            have hr4 : (rowsTo (swapR i k) N r).getD r [] = N.getD r [] := by rw [rowsTo_getD (by rw [HTN.out.2]; exact hlr), if_neg (by omega)]
            have HNX : Hid (rowsTo (swapR i k) N (r + 1) = X.set r (swapR i k (X.getD r []))) := Lib.hid (by rw [rowsTo_succ _ _ (by rw [HTN.out.2]; exact hlr), hX, hr4])
            rw [← hX] at hM4 hT4
            have hXl := hM4.len
            obtain ⟨gr, cr, hcr, -, hlr2, -, hce, hcf⟩ := hM4.rowAt hT4 (by omega) hlr
            have hci := hce i hli
            have hck := hce k hkn
            obtain ⟨vi, hvi⟩ : ∃ v, v = ent X r i := ⟨_, rfl⟩
            obtain ⟨vk, hvk⟩ : ∃ v, v = ent X r k := ⟨_, rfl⟩
            rw [← hvi] at hci
            rw [← hvk] at hck
            have fi := hcf i
            have fk := hcf k
            obtain ⟨h1, hne, -⟩ := hM4.cellSet1 hlr hcr i vk
            have hcr2 : (wr.setCell ⟨gr, i, none⟩ (.int .i64 vk)).cell? ⟨g, r, none⟩ = some (.slice (some ⟨gr, 0, none⟩) n cr) := (World.cell?_setCell_far _ _ _ _ (fun e => hne e.symm)).trans hcr
            obtain ⟨h2, -, -⟩ := h1.cellSet1 hlr hcr2 k vi
            obtain ⟨uk, huk⟩ := cell?_setCell_some (p := ⟨gr, i, none⟩) (x := .int .i64 vk) hck
            have HM5 : Hid (MkII w1 ((wr.setCell ⟨gr, i, none⟩ (.int .i64 vk)).setCell ⟨gr, k, none⟩ (.int .i64 vi)) (some ⟨g, 0, none⟩) n c1 (rowsTo (swapR i k) N (r + 1))) := Lib.hid (by
             have e : (X.set r ((X.getD r []).set i vk)).set r (((X.set r ((X.getD r []).set i vk)).getD r []).set k vi) = X.set r (swapR i k (X.getD r [])) := by
              rw [List.set_set, getD_set, if_pos ⟨rfl, by omega⟩]
              unfold swapR
              rw [hvi, hvk]; rfl
             rw [HNX.out, ← e]; exact h2)
            clear h1 h2 hne hcr2 hvi hvk hX hr4 hT4 hlr2 hce hcf hXl hM4
            go_wp2
            go_region
            obtain ⟨w5, hw5⟩ : ∃ W, W = ((wr.setCell ⟨gr, i, none⟩ (.int .i64 vk)).setCell ⟨gr, k, none⟩ (.int .i64 vi)).drew := ⟨_, rfl⟩
            have hM6 : MkII w1 w5 (some ⟨g, 0, none⟩) n c1 (rowsTo (swapR i k) N (r + 1)) := by rw [hw5]; exact HM5.out.below (zG.drew)
            rw [← hw5]
            clear hw5 HM5 hci hck huk fi fk hcr
            go_wp2
            go_roundw
            case rel => exact ⟨r + 1, by omega, by go_num, hM6⟩
            case measure => simp [intOf]; omega
          · have hrn : r = n := by omega
            rw [hrn] at hM4 ⊢
            clear hrn hlr hr
            obtain ⟨W, hW⟩ : ∃ W, W = hesW L i k := ⟨_, rfl⟩
            have hM5 : MkII w1 wr (some ⟨g, 0, none⟩) n c1 (hesRs p k W 0) := by
             show MkII w1 wr (some ⟨g, 0, none⟩) n c1 W
             rw [hW, HW.out]; exact hM4
            have HTW : Hid (Tab p n W ∧ W.length = n) := Lib.hid (by
             have h9 := hesW_tab hp0 HTT.out.1 (i := i) (k := k) (by rw [HTT.out.2]; exact hli) (by rw [HTT.out.2]; exact hkn)
             rw [← hW, HTT.out.2] at h9; exact h9)
            have HNX : Hid (hesTo p M (kk + 1) = hesRs p k W (n - (k + 1))) := Lib.hid (by
             show hesS p (kk + 1) (hesTo p M kk) = _
             rw [← HL.out]
             unfold hesS
             rw [Nat.add_sub_cancel, ← HK.out, HVP.out, HTT.out.2, if_neg (by omega), ← hW])
            clear hW hM4
            have tkr : k + 1 ≤ n := by omega
            go_wp2
            go_loopw [11] (fun q wr => ∃ j : Nat, k + 1 + j ≤ n ∧ q = .int .i64 ((k + 1 + j : Nat) : Int) ∧ MkII w1 wr (some ⟨g, 0, none⟩) n c1 (hesRs p k W j)) (fun q _ => n - (intOf q).toNat)
            case atStart => exact ⟨0, by omega, by go_num, hM5⟩
            case round =>
             obtain ⟨j, hj, rfl, hM6⟩ := hrel
             clear hM5
             obtain ⟨r, hr⟩ : ∃ r, r = k + 1 + j := ⟨_, rfl⟩
             rw [← hr] at hj ⊢
             obtain ⟨X, hX⟩ : ∃ X, X = hesRs p k W j := ⟨_, rfl⟩
             have HTX : Hid (Tab p n X ∧ X.length = n) := Lib.hid (by
              have h9 := hesRs_tab hp0 HTW.out.1 k j (by rw [HTW.out.2]; omega)
              rw [← hX, HTW.out.2] at h9; exact h9)
             have HRE : Hid (r = k + 1 + j) := Lib.hid hr
             have HXE : Hid (X = hesRs p k W j) := Lib.hid hX
             rw [← hX] at hM6
             have hkr : k < r := by omega
             clear hX hr tkr
             by_cases hlr : r < n
             · obtain ⟨gr, cr, hcr, hrr, hlr2, hnr, hcer, -⟩ := hM6.rowAt HTX.out.1 (by omega) hlr
               obtain ⟨gk, ck, hck, hrk, hlk2, hnk, hcek, -⟩ := hM6.rowAt HTX.out.1 (by omega) hkn
               have hcy := hcer kk hkkn
               have hcz := hcek kk hkkn
               have hyb : 0 ≤ ent X r kk ∧ ent X r kk < p := hnr.getD hp0 kk
               have hzb : 0 ≤ ent X k kk ∧ ent X k kk < p := hnk.getD hp0 kk
               obtain ⟨y, hy⟩ : ∃ y, y = ent X r kk := ⟨_, rfl⟩
               obtain ⟨z, hz⟩ : ∃ z, z = ent X k kk := ⟨_, rfl⟩
               rw [← hy] at hcy hyb
               rw [← hz] at hcz hzb
               have hiv := invF_small hp z
               have hmy := mul_b (a := y) (b := invF p z) (by omega) (by omega)
               have W2 := i64_small (x := y * invF p z) (by omega) (by omega)
               obtain ⟨f, hf⟩ : ∃ f, f = y * invF p z % p := ⟨_, rfl⟩
               have hfb : 0 ≤ f ∧ f < p := by rw [hf]; exact ⟨Int.emod_nonneg _ (by omega), Int.emod_lt_of_pos _ (by omega)⟩
               have HFF : Hid (f = hesF p k X r) := Lib.hid (by
                have e : k - 1 = kk := by have := HK.out; omega
                unfold hesF
                rw [e, ← hy, ← hz, hf])
               have HF := Lib.hid hf
               have HRR := Lib.hid (And.intro hrr (And.intro hlr2 hnr))
               have HRK := Lib.hid (And.intro hrk (And.intro hlk2 hnk))
               have HM6 := Lib.hid hM6
               clear hy hz hf hcer hcek hrr hrk hlr2 hlk2 hnr hnk hM6
               go_wp2
               refine wp_obs 22 [[],[],[],[1,2],[1,2,3],[],[5],[1,2,3,4,5,6],[1,2,3,4,5,6,7],[],[],[],[10,11],[10,11,12],[],[14],[10,11,12,13,14,15],[10,11,12,13,14,15,16],[9,10,11,12,13,14,15,16,17],[1,2,3,4,5,6,7,8,9,10,11,12,13,14,15,16,17,18],[0,1,2,3,4,5,6,7,8,9,10,11,12,13,14,15,16,17,18,19],[0,1,2,3,4,5,6,7,8,9,10,11,12,13,14,15,16,17,18,19,20]] [VIs (.int .i64 (p)), VIs (.slice (some ⟨g, 0, none⟩) n c1), VIs (.int .i64 (r)), VIs (.pointer (some ⟨g, r, none⟩)), VIs (.slice (some ⟨gr, 0, none⟩) n cr), VIs (.int .i64 (k)), VIs (.int .i64 (kk)), VIs (.pointer (some ⟨gr, kk, none⟩)), VIs (.int .i64 (y)), VIs (.int .i64 (p)), VIs (.slice (some ⟨g, 0, none⟩) n c1), VIs (.int .i64 (k)), VIs (.pointer (some ⟨g, k, none⟩)), VIs (.slice (some ⟨gk, 0, none⟩) n ck), VIs (.int .i64 (k)), VIs (.int .i64 (kk)), VIs (.pointer (some ⟨gk, kk, none⟩)), VIs (.int .i64 (z)), VIs (.int .i64 (invF p z)), VIs (.int .i64 (y * invF p z)), VIs (.int .i64 (f)), VIs (.int .i64 (f))] (fun w' => w'.cell? ⟨g, r, none⟩ = some (.slice (some ⟨gr, 0, none⟩) n cr) ∧ w'.cell? ⟨g, k, none⟩ = some (.slice (some ⟨gk, 0, none⟩) n ck) ∧ w'.cell? ⟨gr, kk, none⟩ = some (.int .i64 y) ∧ w'.cell? ⟨gk, kk, none⟩ = some (.int .i64 z) ∧ Below wr.heap.size wr w') (by kernel_rfl) (by kernel_rfl) (fun _ _ h hb => ⟨(hb.cell (World.block_lt_of_cell? _ _ h.1)).trans h.1, (hb.cell (World.block_lt_of_cell? _ _ h.2.1)).trans h.2.1, (hb.cell (World.block_lt_of_cell? _ _ h.2.2.1)).trans h.2.2.1, (hb.cell (World.block_lt_of_cell? _ _ h.2.2.2.1)).trans h.2.2.2.1, h.2.2.2.2.trans (hb.mono h.2.2.2.2.size)⟩) (⟨hcr, hck, hcy, hcz, zG.drew⟩) (fun x => ?_)
               refine zS (fun w' hS hV K hK => ?_) ?_
               · have q0 := hS.1; have q1 := hS.2.1; have q2 := hS.2.2.1; have q3 := hS.2.2.2.1; go_simp; exact zO hK
               refine zS (fun w' hS hV K hK => ?_) ?_
               · have q0 := hS.1; have q1 := hS.2.1; have q2 := hS.2.2.1; have q3 := hS.2.2.2.1; go_simp; exact zO hK
               refine zS (fun w' hS hV K hK => ?_) ?_
               · have q0 := hS.1; have q1 := hS.2.1; have q2 := hS.2.2.1; have q3 := hS.2.2.2.1; go_simp; exact zO hK
               refine zS (fun w' hS hV K hK => ?_) ?_
               · have e1 := zQ hV 1; have e2 := zQ hV 2; have q0 := hS.1; have q1 := hS.2.1; have q2 := hS.2.2.1; have q3 := hS.2.2.2.1; go_simp; exact zO hK
               refine zS (fun w' hS hV K hK => ?_) ?_
               · have e3 := zQ hV 3; have q0 := hS.1; have q1 := hS.2.1; have q2 := hS.2.2.1; have q3 := hS.2.2.2.1; go_simp; exact zO hK
               refine zS (fun w' hS hV K hK => ?_) ?_
               · have q0 := hS.1; have q1 := hS.2.1; have q2 := hS.2.2.1; have q3 := hS.2.2.2.1; go_simp; exact zO hK
               refine zS (fun w' hS hV K hK => ?_) ?_
               · have e5 := zQ hV 5; have q0 := hS.1; have q1 := hS.2.1; have q2 := hS.2.2.1; have q3 := hS.2.2.2.1; go_simp; exact zO hK
               refine zS (fun w' hS hV K hK => ?_) ?_
               · have e4 := zQ hV 4; have e6 := zQ hV 6; have q0 := hS.1; have q1 := hS.2.1; have q2 := hS.2.2.1; have q3 := hS.2.2.2.1; go_simp; exact zO hK
               refine zS (fun w' hS hV K hK => ?_) ?_
               · have e7 := zQ hV 7; have q0 := hS.1; have q1 := hS.2.1; have q2 := hS.2.2.1; have q3 := hS.2.2.2.1; go_simp; exact zO hK
               refine zS (fun w' hS hV K hK => ?_) ?_
               · have q0 := hS.1; have q1 := hS.2.1; have q2 := hS.2.2.1; have q3 := hS.2.2.2.1; go_simp; exact zO hK
               refine zS (fun w' hS hV K hK => ?_) ?_
               · have q0 := hS.1; have q1 := hS.2.1; have q2 := hS.2.2.1; have q3 := hS.2.2.2.1; go_simp; exact zO hK
               refine zS (fun w' hS hV K hK => ?_) ?_
               · have q0 := hS.1; have q1 := hS.2.1; have q2 := hS.2.2.1; have q3 := hS.2.2.2.1; go_simp; exact zO hK
               refine zS (fun w' hS hV K hK => ?_) ?_
               · have e10 := zQ hV 10; have e11 := zQ hV 11; have q0 := hS.1; have q1 := hS.2.1; have q2 := hS.2.2.1; have q3 := hS.2.2.2.1; go_simp; exact zO hK
               refine zS (fun w' hS hV K hK => ?_) ?_
               · have e12 := zQ hV 12; have q0 := hS.1; have q1 := hS.2.1; have q2 := hS.2.2.1; have q3 := hS.2.2.2.1; go_simp; exact zO hK
               refine zS (fun w' hS hV K hK => ?_) ?_
               · have q0 := hS.1; have q1 := hS.2.1; have q2 := hS.2.2.1; have q3 := hS.2.2.2.1; go_simp; exact zO hK
               refine zS (fun w' hS hV K hK => ?_) ?_
               · have e14 := zQ hV 14; have q0 := hS.1; have q1 := hS.2.1; have q2 := hS.2.2.1; have q3 := hS.2.2.2.1; go_simp; exact zO hK
               refine zS (fun w' hS hV K hK => ?_) ?_
               · have e13 := zQ hV 13; have e15 := zQ hV 15; have q0 := hS.1; have q1 := hS.2.1; have q2 := hS.2.2.1; have q3 := hS.2.2.2.1; go_simp; exact zO hK
               refine zS (fun w' hS hV K hK => ?_) ?_
               · have e16 := zQ hV 16; have q0 := hS.1; have q1 := hS.2.1; have q2 := hS.2.2.1; have q3 := hS.2.2.2.1; go_simp; exact zO hK
               refine zS (fun w' hS hV K hK => ?_) ?_
               · have e9 := zQ hV 9; have e17 := zQ hV 17; have q0 := hS.1; have q1 := hS.2.1; have q2 := hS.2.2.1; have q3 := hS.2.2.2.1; go_simp; refine (inv_any p z _ hp hp2 hzb.1 hzb.2).mono ?_; rintro e v1 ⟨rfl, rfl⟩; exact zO hK
               refine zS (fun w' hS hV K hK => ?_) ?_
               · have e8 := zQ hV 8; have e18 := zQ hV 18; have q0 := hS.1; have q1 := hS.2.1; have q2 := hS.2.2.1; have q3 := hS.2.2.2.1; go_simp; exact zO hK
               refine zS (fun w' hS hV K hK => ?_) ?_
               · have e0 := zQ hV 0; have e19 := zQ hV 19; have q0 := hS.1; have q1 := hS.2.1; have q2 := hS.2.2.1; have q3 := hS.2.2.2.1; go_simp; refine (num_any p (y * invF p z) _ hp0 hp2 (by omega) (by omega)).mono ?_; rintro e v1 ⟨rfl, rfl⟩; exact hK.out _ _ _ rfl rfl (by rw [← HF.out]; rfl) zG
               refine zS (fun w' hS hV K hK => ?_) ?_
               · have e20 := zQ hV 20; have q0 := hS.1; have q1 := hS.2.1; have q2 := hS.2.2.1; have q3 := hS.2.2.2.1; go_simp; exact zO hK
               refine fun w' hS hV => ?_
               have e0 := zT hV 0
               have e1 := zT hV 1
               have e2 := zT hV 2
               have e3 := zT hV 3
               have e4 := zT hV 4
               have e5 := zT hV 5
               have e6 := zT hV 6
               have e7 := zT hV 7
               have e8 := zT hV 8
               have e9 := zT hV 9
               have e10 := zT hV 10
               have e11 := zT hV 11
               have e12 := zT hV 12
               have e13 := zT hV 13
               have e14 := zT hV 14
               have e15 := zT hV 15
               have e16 := zT hV 16
               have e17 := zT hV 17
               have e18 := zT hV 18
               have e19 := zT hV 19
               have e20 := zT hV 20
               have e21 := zT hV 21
               simp only [e0, e1, e2, e3, e4, e5, e6, e7, e8, e9, e10, e11, e12, e13, e14, e15, e16, e17, e18, e19, e20, e21]
               clear e0 e1 e2 e3 e4 e5 e6 e7 e8 e9 e10 e11 e12 e13 e14 e15 e16 e17 e18 e19 e20 e21
               refine wpAny_done (by kernel_rfl) ?_ _
               obtain ⟨wv, hwv⟩ : ∃ W, W = w' := ⟨_, rfl⟩
               rw [← hwv] at hS ⊢
               have hcr := hS.1
               have hck := hS.2.1
               have HRR := Lib.hid (And.intro (HRR.out.1.below hS.2.2.2.2) HRR.out.2)
               have HRK := Lib.hid (And.intro (HRK.out.1.below hS.2.2.2.2) HRK.out.2)
               have HM6 := Lib.hid (HM6.out.below hS.2.2.2.2)
               have W3 := i64_small (x := -f) (by omega) (by omega)
               clear hS hV hwv hcy hcz hyb hzb hiv hmy W2
               go_wp2
               refine wp_obs 15 [[],[],[],[],[],[3,4],[3,4,5],[],[],[7,8],[7,8,9],[],[11],[2,3,4,5,6,7,8,9,10,11,12],[0,1],[0,1,2,3,4,5,6,7,8,9,10,11,12,13,14]] [VIs (.slice (some ⟨g, 0, none⟩) n c1), VIs (.int .i64 (r)), VIs (.int .i64 (p)), VIs (.slice (some ⟨g, 0, none⟩) n c1), VIs (.int .i64 (r)), VIs (.pointer (some ⟨g, r, none⟩)), VIs (.slice (some ⟨gr, 0, none⟩) n cr), VIs (.slice (some ⟨g, 0, none⟩) n c1), VIs (.int .i64 (k)), VIs (.pointer (some ⟨g, k, none⟩)), VIs (.slice (some ⟨gk, 0, none⟩) n ck), VIs (.int .i64 (f)), VIs (.int .i64 (-f)), VSl wv n (plusL p (X.getD r []) (X.getD k []) (-f)), VIs (.pointer (some ⟨g, r, none⟩))] (fun w' => w'.cell? ⟨g, r, none⟩ = some (.slice (some ⟨gr, 0, none⟩) n cr) ∧ w'.cell? ⟨g, k, none⟩ = some (.slice (some ⟨gk, 0, none⟩) n ck) ∧ Below wv.heap.size wv w') (by kernel_rfl) (by kernel_rfl) (fun _ _ h hb => ⟨(hb.cell (World.block_lt_of_cell? _ _ h.1)).trans h.1, (hb.cell (World.block_lt_of_cell? _ _ h.2.1)).trans h.2.1, h.2.2.trans (hb.mono h.2.2.size)⟩) (⟨hcr, hck, zG.drew⟩) (fun x => ?_)
               refine zS (fun w' hS hV K hK => ?_) ?_
               · have q0 := hS.1; have q1 := hS.2.1; go_simp; exact zO hK
               refine zS (fun w' hS hV K hK => ?_) ?_
               · have q0 := hS.1; have q1 := hS.2.1; go_simp; exact zO hK
               refine zS (fun w' hS hV K hK => ?_) ?_
               · have q0 := hS.1; have q1 := hS.2.1; go_simp; exact zO hK
               refine zS (fun w' hS hV K hK => ?_) ?_
               · have q0 := hS.1; have q1 := hS.2.1; go_simp; exact zO hK
               refine zS (fun w' hS hV K hK => ?_) ?_
               · have q0 := hS.1; have q1 := hS.2.1; go_simp; exact zO hK
               refine zS (fun w' hS hV K hK => ?_) ?_
               · have e3 := zQ hV 3; have e4 := zQ hV 4; have q0 := hS.1; have q1 := hS.2.1; go_simp; exact zO hK
               refine zS (fun w' hS hV K hK => ?_) ?_
               · have e5 := zQ hV 5; have q0 := hS.1; have q1 := hS.2.1; go_simp; exact zO hK
               refine zS (fun w' hS hV K hK => ?_) ?_
               · have q0 := hS.1; have q1 := hS.2.1; go_simp; exact zO hK
               refine zS (fun w' hS hV K hK => ?_) ?_
               · have q0 := hS.1; have q1 := hS.2.1; go_simp; exact zO hK
               refine zS (fun w' hS hV K hK => ?_) ?_
               · have e7 := zQ hV 7; have e8 := zQ hV 8; have q0 := hS.1; have q1 := hS.2.1; go_simp; exact zO hK
               refine zS (fun w' hS hV K hK => ?_) ?_
               · have e9 := zQ hV 9; have q0 := hS.1; have q1 := hS.2.1; go_simp; exact zO hK
               refine zS (fun w' hS hV K hK => ?_) ?_
               · have q0 := hS.1; have q1 := hS.2.1; go_simp; exact zO hK
               refine zS (fun w' hS hV K hK => ?_) ?_
               · have e11 := zQ hV 11; have q0 := hS.1; have q1 := hS.2.1; go_simp; exact zO hK
               refine zS (fun w' hS hV K hK => ?_) ?_
               · have e2 := zQ hV 2; have e6 := zQ hV 6; have e10 := zQ hV 10; have e12 := zQ hV 12; have q0 := hS.1; have q1 := hS.2.1; go_simp; refine (plus_any p _ n _ _ n _ (-f) _ _ _ hp hp2 (by omega) (Nat.le_refl _) (HRR.out.1.below hS.2.2) HRR.out.2.2 (HRK.out.1.below hS.2.2) HRK.out.2.2 (by omega) (by omega)).mono ?_; rintro e v1 ⟨A2, c2, rfl, hM⟩; exact hK.out _ _ _ rfl rfl ⟨_, _, rfl, hM.after hS.2.2⟩ hM.b
               refine zS (fun w' hS hV K hK => ?_) ?_
               · have e0 := zQ hV 0; have e1 := zQ hV 1; have q0 := hS.1; have q1 := hS.2.1; go_simp; exact zO hK
               refine fun w' hS hV => ?_
               have e0 := zT hV 0
               have e1 := zT hV 1
               have e2 := zT hV 2
               have e3 := zT hV 3
               have e4 := zT hV 4
               have e5 := zT hV 5
               have e6 := zT hV 6
               have e7 := zT hV 7
               have e8 := zT hV 8
               have e9 := zT hV 9
               have e10 := zT hV 10
               have e11 := zT hV 11
               have e12 := zT hV 12
               obtain ⟨A13, c13, e13, h13⟩ := hV 13 (by decide)
               have e14 := zT hV 14
               simp only [e0, e1, e2, e3, e4, e5, e6, e7, e8, e9, e10, e11, e12, e13, e14]
               clear e0 e1 e2 e3 e4 e5 e6 e7 e8 e9 e10 e11 e12 e13 e14
               have hbn := hS.2.2
               have q0 := hS.1
               have ff := (HM6.out.below hbn).frozen_ r
               refine any_one (j := 15) (by kernel_rfl) (Eq.trans (by simp only [zA, zB, zC]; exact rfl) rfl) (fun K hK => ?_)
               go_simp
               refine hK.out _ _ (wpAny_done (by kernel_rfl) ?_ _)
               have hM7 := HM6.out.setRow h13 r
               obtain ⟨w7, hw7⟩ : ∃ W, W = w'.setCell ⟨g, r, none⟩ (.slice A13 n c13) := ⟨_, rfl⟩
               rw [← hw7] at hM7 ⊢
               obtain ⟨Y, hY⟩ : ∃ Y, Y = hesA p k X r := ⟨_, rfl⟩
               have hM8 : MkII w1 w7 (some ⟨g, 0, none⟩) n c1 (rowsTo (addC p k r f) Y 0) := by
                rw [rowsTo_zero, hY]
                unfold hesA
                rw [← HFF.out]; exact hM7
               have HTY : Hid (Tab p n Y ∧ Y.length = n) := Lib.hid (by
                have h9 := hesA_tab hp0 HTX.out.1 k r (by rw [HTX.out.2]; exact hlr)
                rw [← hY, HTX.out.2] at h9; exact h9)
               have HRS : Hid (hesRs p k W (j + 1) = rowsTo (addC p k r f) Y n) := Lib.hid (by
                show hesR p k (hesRs p k W j) (k + 1 + j) = _
                rw [← HXE.out, ← HRE.out]
                unfold hesR
                rw [HTX.out.2, ← hY, ← HFF.out])
               clear hS hV hbn q0 ff hw7 hY hM7 h13 hcr hck W3
               go_wp2
               go_loopw [143] (fun u wr => ∃ q : Nat, q ≤ n ∧ u = .int .i64 q ∧ MkII w1 wr (some ⟨g, 0, none⟩) n c1 (rowsTo (addC p k r f) Y q)) (fun u _ => n - (intOf u).toNat)
               case atStart => exact ⟨0, by omega, rfl, hM8⟩
               case round =>
                obtain ⟨q, hq, rfl, hM9⟩ := hrel
                clear hM8
                by_cases hlq : q < n
                · have hT9 : Tab p n (rowsTo (addC p k r f) Y q) := rowsTo_tab HTY.out.1 (fun x h1 h2 => addC_ok hp0 x h1 h2) q
                  obtain ⟨Z, hZ⟩ : ∃ Z, Z = rowsTo (addC p k r f) Y q := ⟨_, rfl⟩
                  have hr9 : (rowsTo (addC p k r f) Y q).getD q [] = Y.getD q [] := by rw [rowsTo_getD (by rw [HTY.out.2]; exact hlq), if_neg (by omega)]
                  have HNZ : Hid (rowsTo (addC p k r f) Y (q + 1) = Z.set q (addC p k r f (Z.getD q []))) := Lib.hid (by rw [rowsTo_succ _ _ (by rw [HTY.out.2]; exact hlq), hZ, hr9])
                  rw [← hZ] at hM9 hT9
                  obtain ⟨gq, cq, hcq, -, -, hnq, hceq, hcfq⟩ := hM9.rowAt hT9 (by omega) hlq
                  have hca := hceq k hkn
                  have hcb := hceq r hlr
                  have hab : 0 ≤ ent Z q k ∧ ent Z q k < p := hnq.getD hp0 k
                  have hbb : 0 ≤ ent Z q r ∧ ent Z q r < p := hnq.getD hp0 r
                  obtain ⟨a, ha⟩ : ∃ a, a = ent Z q k := ⟨_, rfl⟩
                  obtain ⟨b, hb⟩ : ∃ b, b = ent Z q r := ⟨_, rfl⟩
                  rw [← ha] at hca hab
                  rw [← hb] at hcb hbb
                  have hfm := mul_b (a := f) (b := b) (by omega) (by omega)
                  have W4 := i64_small (x := f * b) (by omega) (by omega)
                  have W5 := i64_fit (a + f * b) (by omega) (by omega)
                  obtain ⟨v, hv⟩ : ∃ v, v = (a + f * b) % p := ⟨_, rfl⟩
                  have HVV := Lib.hid hv
                  have HAD : Hid (addC p k r f (Z.getD q []) = (Z.getD q []).set k v) := Lib.hid (by unfold addC; rw [hv, ha, hb]; rfl)
                  have HM9 := Lib.hid hM9
                  clear hZ hr9 hT9 hceq hnq ha hb hv hM9
                  go_wp2
                  refine wp_obs 25 [[],[],[0,1],[0,1,2],[],[],[],[],[6,7],[6,7,8],[],[6,7,8,9,10],[6,7,8,9,10,11],[],[],[],[14,15],[14,15,16],[],[14,15,16,17,18],[14,15,16,17,18,19],[13,14,15,16,17,18,19,20],[6,7,8,9,10,11,12,13,14,15,16,17,18,19,20,21],[5,6,7,8,9,10,11,12,13,14,15,16,17,18,19,20,21,22],[0,1,2,3,4],[0,1,2,3,4,5,6,7,8,9,10,11,12,13,14,15,16,17,18,19,20,21,22,23,24]] [VIs (.slice (some ⟨g, 0, none⟩) n c1), VIs (.int .i64 (q)), VIs (.pointer (some ⟨g, q, none⟩)), VIs (.slice (some ⟨gq, 0, none⟩) n cq), VIs (.int .i64 (k)), VIs (.int .i64 (p)), VIs (.slice (some ⟨g, 0, none⟩) n c1), VIs (.int .i64 (q)), VIs (.pointer (some ⟨g, q, none⟩)), VIs (.slice (some ⟨gq, 0, none⟩) n cq), VIs (.int .i64 (k)), VIs (.pointer (some ⟨gq, k, none⟩)), VIs (.int .i64 (a)), VIs (.int .i64 (f)), VIs (.slice (some ⟨g, 0, none⟩) n c1), VIs (.int .i64 (q)), VIs (.pointer (some ⟨g, q, none⟩)), VIs (.slice (some ⟨gq, 0, none⟩) n cq), VIs (.int .i64 (r)), VIs (.pointer (some ⟨gq, r, none⟩)), VIs (.int .i64 (b)), VIs (.int .i64 (f * b)), VIs (.int .i64 (a + f * b)), VIs (.int .i64 (v)), VIs (.pointer (some ⟨gq, k, none⟩))] (fun w' => w'.cell? ⟨g, q, none⟩ = some (.slice (some ⟨gq, 0, none⟩) n cq) ∧ w'.cell? ⟨gq, k, none⟩ = some (.int .i64 a) ∧ w'.cell? ⟨gq, r, none⟩ = some (.int .i64 b) ∧ Below wr.heap.size wr w') (by kernel_rfl) (by kernel_rfl) (fun _ _ h hb => ⟨(hb.cell (World.block_lt_of_cell? _ _ h.1)).trans h.1, (hb.cell (World.block_lt_of_cell? _ _ h.2.1)).trans h.2.1, (hb.cell (World.block_lt_of_cell? _ _ h.2.2.1)).trans h.2.2.1, h.2.2.2.trans (hb.mono h.2.2.2.size)⟩) (⟨hcq, hca, hcb, zG.drew⟩) (fun x => ?_)
                  refine zS (fun w' hS hV K hK => ?_) ?_
                  · have q0 := hS.1; have q1 := hS.2.1; have q2 := hS.2.2.1; go_simp; exact zO hK
                  refine zS (fun w' hS hV K hK => ?_) ?_
                  · have q0 := hS.1; have q1 := hS.2.1; have q2 := hS.2.2.1; go_simp; exact zO hK
                  refine zS (fun w' hS hV K hK => ?_) ?_
                  · have e0 := zQ hV 0; have e1 := zQ hV 1; have q0 := hS.1; have q1 := hS.2.1; have q2 := hS.2.2.1; go_simp; exact zO hK
                  refine zS (fun w' hS hV K hK => ?_) ?_
                  · have e2 := zQ hV 2; have q0 := hS.1; have q1 := hS.2.1; have q2 := hS.2.2.1; go_simp; exact zO hK
                  refine zS (fun w' hS hV K hK => ?_) ?_
                  · have q0 := hS.1; have q1 := hS.2.1; have q2 := hS.2.2.1; go_simp; exact zO hK
                  refine zS (fun w' hS hV K hK => ?_) ?_
                  · have q0 := hS.1; have q1 := hS.2.1; have q2 := hS.2.2.1; go_simp; exact zO hK
                  refine zS (fun w' hS hV K hK => ?_) ?_
                  · have q0 := hS.1; have q1 := hS.2.1; have q2 := hS.2.2.1; go_simp; exact zO hK
                  refine zS (fun w' hS hV K hK => ?_) ?_
                  · have q0 := hS.1; have q1 := hS.2.1; have q2 := hS.2.2.1; go_simp; exact zO hK
                  refine zS (fun w' hS hV K hK => ?_) ?_
                  · have e6 := zQ hV 6; have e7 := zQ hV 7; have q0 := hS.1; have q1 := hS.2.1; have q2 := hS.2.2.1; go_simp; exact zO hK
                  refine zS (fun w' hS hV K hK => ?_) ?_
                  · have e8 := zQ hV 8; have q0 := hS.1; have q1 := hS.2.1; have q2 := hS.2.2.1; go_simp; exact zO hK
                  refine zS (fun w' hS hV K hK => ?_) ?_
                  · have q0 := hS.1; have q1 := hS.2.1; have q2 := hS.2.2.1; go_simp; exact zO hK
                  refine zS (fun w' hS hV K hK => ?_) ?_
                  · have e9 := zQ hV 9; have e10 := zQ hV 10; have q0 := hS.1; have q1 := hS.2.1; have q2 := hS.2.2.1; go_simp; exact zO hK
                  refine zS (fun w' hS hV K hK => ?_) ?_
                  · have e11 := zQ hV 11; have q0 := hS.1; have q1 := hS.2.1; have q2 := hS.2.2.1; go_simp; exact zO hK
                  refine zS (fun w' hS hV K hK => ?_) ?_
                  · have q0 := hS.1; have q1 := hS.2.1; have q2 := hS.2.2.1; go_simp; exact zO hK
                  refine zS (fun w' hS hV K hK => ?_) ?_
                  · have q0 := hS.1; have q1 := hS.2.1; have q2 := hS.2.2.1; go_simp; exact zO hK
                  refine zS (fun w' hS hV K hK => ?_) ?_
                  · have q0 := hS.1; have q1 := hS.2.1; have q2 := hS.2.2.1; go_simp; exact zO hK
                  refine zS (fun w' hS hV K hK => ?_) ?_
                  · have e14 := zQ hV 14; have e15 := zQ hV 15; have q0 := hS.1; have q1 := hS.2.1; have q2 := hS.2.2.1; go_simp; exact zO hK
                  refine zS (fun w' hS hV K hK => ?_) ?_
                  · have e16 := zQ hV 16; have q0 := hS.1; have q1 := hS.2.1; have q2 := hS.2.2.1; go_simp; exact zO hK
                  refine zS (fun w' hS hV K hK => ?_) ?_
                  · have q0 := hS.1; have q1 := hS.2.1; have q2 := hS.2.2.1; go_simp; exact zO hK
                  refine zS (fun w' hS hV K hK => ?_) ?_
                  · have e17 := zQ hV 17; have e18 := zQ hV 18; have q0 := hS.1; have q1 := hS.2.1; have q2 := hS.2.2.1; go_simp; exact zO hK
                  refine zS (fun w' hS hV K hK => ?_) ?_
                  · have e19 := zQ hV 19; have q0 := hS.1; have q1 := hS.2.1; have q2 := hS.2.2.1; go_simp; exact zO hK
                  refine zS (fun w' hS hV K hK => ?_) ?_
                  · have e13 := zQ hV 13; have e20 := zQ hV 20; have q0 := hS.1; have q1 := hS.2.1; have q2 := hS.2.2.1; go_simp; exact zO hK
                  refine zS (fun w' hS hV K hK => ?_) ?_
                  · have e12 := zQ hV 12; have e21 := zQ hV 21; have q0 := hS.1; have q1 := hS.2.1; have q2 := hS.2.2.1; go_simp; exact zO hK
                  refine zS (fun w' hS hV K hK => ?_) ?_
                  · have e5 := zQ hV 5; have e22 := zQ hV 22; have q0 := hS.1; have q1 := hS.2.1; have q2 := hS.2.2.1; go_simp; refine (num_any p (a + f * b) _ hp0 hp2 (by omega) (by omega)).mono ?_; rintro e v1 ⟨rfl, rfl⟩; exact hK.out _ _ _ rfl rfl (by rw [← HVV.out]; rfl) zG
                  refine zS (fun w' hS hV K hK => ?_) ?_
                  · have e3 := zQ hV 3; have e4 := zQ hV 4; have q0 := hS.1; have q1 := hS.2.1; have q2 := hS.2.2.1; go_simp; exact zO hK
                  refine fun w' hS hV => ?_
                  have e0 := zT hV 0
                  have e1 := zT hV 1
                  have e2 := zT hV 2
                  have e3 := zT hV 3
                  have e4 := zT hV 4
                  have e5 := zT hV 5
                  have e6 := zT hV 6
                  have e7 := zT hV 7
                  have e8 := zT hV 8
                  have e9 := zT hV 9
                  have e10 := zT hV 10
                  have e11 := zT hV 11
                  have e12 := zT hV 12
                  have e13 := zT hV 13
                  have e14 := zT hV 14
                  have e15 := zT hV 15
                  have e16 := zT hV 16
                  have e17 := zT hV 17
                  have e18 := zT hV 18
                  have e19 := zT hV 19
                  have e20 := zT hV 20
                  have e21 := zT hV 21
                  have e22 := zT hV 22
                  have e23 := zT hV 23
                  have e24 := zT hV 24
                  simp only [e0, e1, e2, e3, e4, e5, e6, e7, e8, e9, e10, e11, e12, e13, e14, e15, e16, e17, e18, e19, e20, e21, e22, e23, e24]
                  clear e0 e1 e2 e3 e4 e5 e6 e7 e8 e9 e10 e11 e12 e13 e14 e15 e16 e17 e18 e19 e20 e21 e22 e23 e24
                  have hbn := hS.2.2.2
                  have q0 := hS.2.1
                  have ff : w'.frozen? ⟨gq, k, none⟩ = false := (hbn.frozen (p := ⟨gq, k, none⟩) (World.block_lt_of_cell? _ _ hca)).trans (hcfq k)
                  refine any_one (j := 25) (by kernel_rfl) (Eq.trans (by simp only [zA, zB, zC]; exact rfl) rfl) (fun K hK => ?_)
                  go_simp
                  refine hK.out _ _ (wpAny_done (by kernel_rfl) ?_ _)
                  have hM10 := ((HM9.out.below hbn).cellSet1 hlq hS.1 k v).1
                  rw [← HAD.out, ← HNZ.out] at hM10
                  clear hS hV hbn q0 ff hcq hca hcb hab hbb hfm W4 W5 hcfq
                  go_wp2
                  go_roundw
                  case rel => exact ⟨q + 1, by omega, by go_num, hM10⟩
                  case measure => simp [intOf]; omega
                · have hqn : q = n := by omega
                  rw [hqn] at hM9 ⊢
                  clear hqn hlq hq
                  go_wp2
                  go_roundw
                  case rel => exact ⟨j + 1, by have := HRE.out; omega, by rw [HRE.out]; go_num, by rw [HRS.out]; exact hM9⟩
                  case measure => simp [intOf]; omega
             · have hrn : r = n := by omega
               have HEND : Hid (hesTo p M (kk + 1) = X) := Lib.hid (by rw [HNX.out, HXE.out, show n - (k + 1) = j by have := HRE.out; omega])
               go_wp2
               go_roundw
               case rel => exact ⟨kk + 1, Or.inl (by have := HK.out; omega), by rw [HK.out]; go_num, by rw [HEND.out]; exact hM6⟩
               case measure => have := HK.out; simp [intOf]; omega
       · have hx0' : xe = 0 := by simpa using hz
         clear hri hli2 hni hce hcf hxe
         go_wp2
         go_round
         case rel => exact ⟨i + 1, by omega, by omega, by go_num, Lib.hid (by rw [← hi3.out, HPV.out, if_pos (by rw [← HX.out]; exact hx0')])⟩
         case measure => simp [intOf]; omega
     · obtain rfl : i = n := by omega
       have HVP : Hid (pivOf L kk k = i) := Lib.hid (by rw [← hi3.out, Nat.sub_self]; rfl)
       have HNX : Hid (hesTo p M (kk + 1) = L) := Lib.hid (by
        show hesS p (kk + 1) (hesTo p M kk) = L
        rw [← HL.out]
        unfold hesS
        rw [Nat.add_sub_cancel, ← HK.out, HVP.out, HTT.out.2, if_pos rfl])
       go_wp2
       go_roundw
       case rel => exact ⟨kk + 1, Or.inl (by have := HK.out; omega), by rw [HK.out]; go_num, by rw [HNX.out]; exact HM.out⟩
       case measure => have := HK.out; simp [intOf]; omega
  · have tk : decide ((k : Int) < (n : Int) - 1) = false := by simp; omega
    have HLE : Hid (hesL p M = L) := Lib.hid (by rw [HL.out]; unfold hesL; rw [HT.out.2, show n - 2 = kk by omega])
    have HM1 := Lib.hid (HM.out.b)
    have hBB := HMO.out.1.trans (HM1.out.mono HMO.out.1.size)
    clear hk hlk hkk W0
    go_wp2
    obtain ⟨wb, hwb⟩ : ∃ W, W = wr := ⟨_, rfl⟩
    have HMB : Hid (MkII w1 wb (some ⟨g, 0, none⟩) n c1 L) := Lib.hid (by rw [hwb]; exact HM.out)
    rw [← hwb] at hBB ⊢
    have HBB := Lib.hid hBB
    have hML := MkII.lone wb 1
    have HEND : Hid (charL p M = chP p L n) := Lib.hid (by unfold charL chP; rw [HLE.out, HT.out.2])
    clear hwb hBB HM HM1 HL tk HK HLE
    go_wp2
    go_loopw [14, 15] (fun l q wr => ∃ (kk : Nat) (A' : Option Addr) (c' : Nat), kk ≤ n ∧ q = .int .i64 ((kk + 1 : Nat) : Int) ∧ l = .slice A' (kk + 1) c' ∧ MkII wb wr A' (kk + 1) c' (chTo p L kk)) (fun _ q _ => n + 1 - (intOf q).toNat)
    case atStart => exact ⟨0, _, _, by omega, rfl, rfl, hML⟩
    case round =>
     obtain ⟨kk, A', c', hkk, rfl, rfl, hM⟩ := hrel
     clear hML
     obtain ⟨kp, hkp⟩ : ∃ kp, kp = kk + 1 := ⟨_, rfl⟩
     rw [← hkp] at hM ⊢
     obtain ⟨gl, rfl, hxk, Ak, cA, hcl, hmk⟩ := hM.at_ (show kk < kp by omega)
     have hrow : (chTo p L kk)[kk] = chP p L kk := by unfold chP; rw [getD_of_lt [] hxk]
     have hrl : (chP p L kk).length = kp := by rw [chP_len, hkp]
     rw [hrow, hrl] at hcl hmk
     have hRn := chP_nums hp L kk
     obtain ⟨gA, oA, rfl, -⟩ := hmk.rd.2 (by omega)
     obtain ⟨R, hR⟩ : ∃ R, R = chP p L kk := ⟨_, rfl⟩
     have HCP := Lib.hid hR
     rw [← hR] at hmk hRn hrl
     have HBW := Lib.hid hM.b
     have HM := Lib.hid hM
     have HK := Lib.hid hkp
     by_cases hlk : kp ≤ n
     · have W1 : wrap64 ((kp : Int) - 1) = (kk : Int) := by rw [hkp]; unfold wrap64; omega
       have W1i : IntKind.i64.wrap ((kp : Int) - 1) = (kk : Int) := by rw [i64_fit _ (by omega) (by omega)]; omega
       have hkn : kk < n := by omega
       obtain ⟨KK, hKK⟩ : ∃ KK, KK = 1 + kp := ⟨_, rfl⟩
       have hz : MkI wr (wr.alloc (.cells #[.int .i64 0] 2)) (some ⟨wr.heap.size, 0, none⟩) 1 1 [0] := Mk.lit zG #[.int .i64 0] (by simp [maxLen])
       have HZ := Lib.hid hz
       have HRZ := Lib.hid ((show Rd wr (some ⟨gA, oA, none⟩) kp (ints R) from hmk.rd).below hz.b)
       have HRW := Lib.hid (show Rd wr (some ⟨gA, oA, none⟩) kp (ints R) from hmk.rd)
       have hclz := (hz.b.cell (World.block_lt_of_cell? _ _ hcl)).trans hcl
       have hk0 : 0 < kp := by omega
       have hkkp : kk < kp := by omega
       clear hkp hM hrow hxk hR hkk hmk hz
       go_wp2_with (at_builtin; refine wpList_appAll wr _ rfl _ _ rfl (some ⟨wr.heap.size, 0, none⟩) 1 1 [0] (some ⟨gA, oA, none⟩) kp cA R HZ.out HRZ.out hk0 (by omega) (by omega) rfl rfl ?_; intro A5 c5 w5 hM5 _)
       clear hclz HRZ HZ
       rw [← hKK] at hM5 ⊢
       obtain ⟨gm, cm, hcm, -, -, hnm, hcem, -⟩ := (HMB.out.below (HBW.out.trans (hM5.b.mono HBW.out.size))).rowAt HTT.out.1 (by omega) hkn
       have hcd := hcem kk hkn
       have hdb : 0 ≤ ent L kk kk ∧ ent L kk kk < p := hnm.getD hp0 kk
       obtain ⟨d, hd⟩ : ∃ d, d = ent L kk kk := ⟨_, rfl⟩
       rw [← hd] at hcd hdb
       have HD := Lib.hid hd
       have hcl := (hM5.b.cell (World.block_lt_of_cell? _ _ hcl)).trans hcl
       have HB5 := Lib.hid hM5.b
       have HR5 : Hid (Rd w5 A5 KK (ints (0 :: R)) ∧ NumsL p (0 :: R) ∧ Rd w5 (some ⟨gA, oA, none⟩) kp (ints R) ∧ NumsL p R) := Lib.hid ⟨hM5.rd, nums_cons hp0 hRn, HRW.out.below hM5.b, hRn⟩
       have Wd := i64_small (x := -d) (by omega) (by omega)
       have hKK2 : KK = kp + 1 := by omega
       have HKK := Lib.hid hKK2
       have hKa : kp ≤ KK := by omega
       have hKb : 0 < KK := by omega
       have hKc : KK ≤ 65536 := by omega
       clear hd hcem hnm hM5 HRW hKK hKK2
       go_wp2
       refine wp_obs 18 [[],[],[],[],[3],[2,3,4],[2,3,4,5],[],[],[8],[7,8,9],[7,8,9,10],[],[12],[7,8,9,10,11,12,13],[7,8,9,10,11,12,13,14],[7,8,9,10,11,12,13,14,15],[0,1,2,3,4,5,6,7,8,9,10,11,12,13,14,15,16],[0,1,2,3,4,5,6,7,8,9,10,11,12,13,14,15,16,17]] [VIs (.int .i64 (p)), VIs (.slice A5 KK c5), VIs (.slice (some ⟨gl, 0, none⟩) kp c'), VIs (.int .i64 (kp)), VIs (.int .i64 (kk)), VIs (.pointer (some ⟨gl, kk, none⟩)), VIs (.slice (some ⟨gA, oA, none⟩) kp cA), VIs (.slice (some ⟨g, 0, none⟩) n c1), VIs (.int .i64 (kp)), VIs (.int .i64 (kk)), VIs (.pointer (some ⟨g, kk, none⟩)), VIs (.slice (some ⟨gm, 0, none⟩) n cm), VIs (.int .i64 (kp)), VIs (.int .i64 (kk)), VIs (.pointer (some ⟨gm, kk, none⟩)), VIs (.int .i64 (d)), VIs (.int .i64 (-d)), VSl w5 KK (plusL p (0 :: R) R (-d))] (fun w' => w'.cell? ⟨gl, kk, none⟩ = some (.slice (some ⟨gA, oA, none⟩) kp cA) ∧ w'.cell? ⟨g, kk, none⟩ = some (.slice (some ⟨gm, 0, none⟩) n cm) ∧ w'.cell? ⟨gm, kk, none⟩ = some (.int .i64 d) ∧ Below w5.heap.size w5 w') (by kernel_rfl) (by kernel_rfl) (fun _ _ h hb => ⟨(hb.cell (World.block_lt_of_cell? _ _ h.1)).trans h.1, (hb.cell (World.block_lt_of_cell? _ _ h.2.1)).trans h.2.1, (hb.cell (World.block_lt_of_cell? _ _ h.2.2.1)).trans h.2.2.1, h.2.2.2.trans (hb.mono h.2.2.2.size)⟩) (⟨hcl, hcm, hcd, zG.drew⟩) (fun x => ?_)
       refine zS (fun w' hS hV K hK => ?_) ?_
       · have q0 := hS.1; have q1 := hS.2.1; have q2 := hS.2.2.1; go_simp; exact zO hK
       refine zS (fun w' hS hV K hK => ?_) ?_
       · have q0 := hS.1; have q1 := hS.2.1; have q2 := hS.2.2.1; go_simp; exact zO hK
       refine zS (fun w' hS hV K hK => ?_) ?_
       · have q0 := hS.1; have q1 := hS.2.1; have q2 := hS.2.2.1; go_simp; exact zO hK
       refine zS (fun w' hS hV K hK => ?_) ?_
       · have q0 := hS.1; have q1 := hS.2.1; have q2 := hS.2.2.1; go_simp; exact zO hK
       refine zS (fun w' hS hV K hK => ?_) ?_
       · have e3 := zQ hV 3; have q0 := hS.1; have q1 := hS.2.1; have q2 := hS.2.2.1; go_simp; exact zO hK
       refine zS (fun w' hS hV K hK => ?_) ?_
       · have e2 := zQ hV 2; have e4 := zQ hV 4; have q0 := hS.1; have q1 := hS.2.1; have q2 := hS.2.2.1; go_simp; exact zO hK
       refine zS (fun w' hS hV K hK => ?_) ?_
       · have e5 := zQ hV 5; have q0 := hS.1; have q1 := hS.2.1; have q2 := hS.2.2.1; go_simp; exact zO hK
       refine zS (fun w' hS hV K hK => ?_) ?_
       · have q0 := hS.1; have q1 := hS.2.1; have q2 := hS.2.2.1; go_simp; exact zO hK
       refine zS (fun w' hS hV K hK => ?_) ?_
       · have q0 := hS.1; have q1 := hS.2.1; have q2 := hS.2.2.1; go_simp; exact zO hK
       refine zS (fun w' hS hV K hK => ?_) ?_
       · have e8 := zQ hV 8; have q0 := hS.1; have q1 := hS.2.1; have q2 := hS.2.2.1; go_simp; exact zO hK
       refine zS (fun w' hS hV K hK => ?_) ?_
       · have e7 := zQ hV 7; have e9 := zQ hV 9; have q0 := hS.1; have q1 := hS.2.1; have q2 := hS.2.2.1; go_simp; exact zO hK
       refine zS (fun w' hS hV K hK => ?_) ?_
       · have e10 := zQ hV 10; have q0 := hS.1; have q1 := hS.2.1; have q2 := hS.2.2.1; go_simp; exact zO hK
       refine zS (fun w' hS hV K hK => ?_) ?_
       · have q0 := hS.1; have q1 := hS.2.1; have q2 := hS.2.2.1; go_simp; exact zO hK
       refine zS (fun w' hS hV K hK => ?_) ?_
       · have e12 := zQ hV 12; have q0 := hS.1; have q1 := hS.2.1; have q2 := hS.2.2.1; go_simp; exact zO hK
       refine zS (fun w' hS hV K hK => ?_) ?_
       · have e11 := zQ hV 11; have e13 := zQ hV 13; have q0 := hS.1; have q1 := hS.2.1; have q2 := hS.2.2.1; go_simp; exact zO hK
       refine zS (fun w' hS hV K hK => ?_) ?_
       · have e14 := zQ hV 14; have q0 := hS.1; have q1 := hS.2.1; have q2 := hS.2.2.1; go_simp; exact zO hK
       refine zS (fun w' hS hV K hK => ?_) ?_
       · have e15 := zQ hV 15; have q0 := hS.1; have q1 := hS.2.1; have q2 := hS.2.2.1; go_simp; exact zO hK
       refine zS (fun w' hS hV K hK => ?_) ?_
       · have e0 := zQ hV 0; have e1 := zQ hV 1; have e6 := zQ hV 6; have e16 := zQ hV 16; have q0 := hS.1; have q1 := hS.2.1; have q2 := hS.2.2.1; go_simp; refine (added_any p A5 KK c5 _ kp cA (-d) (0 :: R) R _ hp hp2 (by omega) (by omega) (by omega) (HR5.out.1.below hS.2.2.2) HR5.out.2.1 (HR5.out.2.2.1.below hS.2.2.2) HR5.out.2.2.2 (by omega) (by omega)).mono ?_; rintro e v1 ⟨A2, c2, rfl, hM⟩; exact hK.out _ _ _ rfl rfl ⟨_, _, rfl, hM.after hS.2.2.2⟩ hM.b
       refine fun w' hS hV => ?_
       have e0 := zT hV 0
       have e1 := zT hV 1
       have e2 := zT hV 2
       have e3 := zT hV 3
       have e4 := zT hV 4
       have e5 := zT hV 5
       have e6 := zT hV 6
       have e7 := zT hV 7
       have e8 := zT hV 8
       have e9 := zT hV 9
       have e10 := zT hV 10
       have e11 := zT hV 11
       have e12 := zT hV 12
       have e13 := zT hV 13
       have e14 := zT hV 14
       have e15 := zT hV 15
       have e16 := zT hV 16
       obtain ⟨A17, c17, e17, h17⟩ := hV 17 (by decide)
       simp only [e0, e1, e2, e3, e4, e5, e6, e7, e8, e9, e10, e11, e12, e13, e14, e15, e16, e17]
       clear e0 e1 e2 e3 e4 e5 e6 e7 e8 e9 e10 e11 e12 e13 e14 e15 e16 e17
       have HB6 := Lib.hid (HB5.out.trans (hS.2.2.2.mono HB5.out.size))
       have HNX := Lib.hid (h17.after HB5.out)
       refine any_one (j := 18) (by kernel_rfl) (Eq.trans (by simp only [zA, zB, zC]; exact rfl) rfl) (fun K0 hK0 => ?_)
       go_simp
       refine hK0.out _ _ (wpAny_done (by kernel_rfl) ?_ _)
       have hM6 : MkI wr w' A17 KK c17 (chN p L (chTo p L kk) kp 0) := by
        have e : chN p L (chTo p L kk) kp 0 = plusL p (0 :: R) R (-d) := by
         unfold chN
         have e2 : kp - 1 = kk := by have := HK.out; omega
         rw [e2, HCP.out, HD.out]; rfl
        rw [e]; exact HNX.out
       clear hS hV h17 hcl hcm hcd hdb Wd HR5 HD HNX HB5 HB6
       go_wp2
       go_loopw [16, 17, 18] (fun nx fa iv wr' => ∃ (i : Nat) (A6 : Option Addr) (c6 : Nat), i + 1 ≤ kp ∧ iv = .int .i64 ((i + 1 : Nat) : Int) ∧ fa = .int .i64 (chF p L kp i) ∧ nx = .slice A6 KK c6 ∧ MkI wr wr' A6 KK c6 (chN p L (chTo p L kk) kp i)) (fun _ _ iv _ => kp - (intOf iv).toNat)
       case atStart => exact ⟨0, _, _, by omega, rfl, rfl, rfl, hM6⟩
       case round =>
        obtain ⟨i, A6, c6, hi, rfl, rfl, rfl, hM7⟩ := hrel
        rename World => wr'
        clear hM6
        obtain ⟨I, hI⟩ : ∃ I, I = i + 1 := ⟨_, rfl⟩
        rw [← hI]
        by_cases hlI : I < kp
        · obtain ⟨a, ha⟩ : ∃ a, a = kp - I := ⟨_, rfl⟩
          obtain ⟨b, hb⟩ : ∃ b, b = kp - I - 1 := ⟨_, rfl⟩
          have W2 : wrap64 ((kp : Int) - (I : Int)) = (a : Int) := by rw [ha]; unfold wrap64; omega
          have W2i : IntKind.i64.wrap ((kp : Int) - (I : Int)) = (a : Int) := by rw [i64_fit _ (by omega) (by omega)]; omega
          have W3 : wrap64 ((a : Int) - 1) = (b : Int) := by rw [ha, hb]; unfold wrap64; omega
          have W3i : IntKind.i64.wrap ((a : Int) - 1) = (b : Int) := by rw [i64_fit _ (by omega) (by omega)]; omega
          have han : a < n := by omega
          have hbn : b < n := by omega
          have hbK : b < kp := by omega
          have hML := HM.out.below hM7.b
          have hMH := HMB.out.below (HBW.out.trans (hM7.b.mono HBW.out.size))
          obtain ⟨ga, ca, hcma, -, -, hna, hcea, -⟩ := hMH.rowAt HTT.out.1 (by omega) han
          obtain ⟨gb, cb, hcmb, -, -, hnb, hceb, -⟩ := hMH.rowAt HTT.out.1 (by omega) hbn
          have hcx := hcea b hbn
          have hcz := hceb kk hkn
          have hxb : 0 ≤ ent L a b ∧ ent L a b < p := hna.getD hp0 b
          have hzb : 0 ≤ ent L b kk ∧ ent L b kk < p := hnb.getD hp0 kk
          obtain ⟨x, hx⟩ : ∃ x, x = ent L a b := ⟨_, rfl⟩
          obtain ⟨z, hz⟩ : ∃ z, z = ent L b kk := ⟨_, rfl⟩
          rw [← hx] at hcx hxb
          rw [← hz] at hcz hzb
          obtain ⟨g0, e0, hxb2, AB, cB, hclb, hmB⟩ := hML.at_ hbK
          injection e0 with e0; injection e0 with e0 _ _; subst e0
          have hrowB : (chTo p L kk)[b] = chP p L b := by
           have := chTo_old p L (k := kk) (j := b) (by have := HK.out; omega)
           rw [getD_of_lt [] hxb2] at this
           exact this
          have hrlB : (chP p L b).length = b + 1 := chP_len p L b
          rw [hrowB, hrlB] at hclb hmB
          obtain ⟨gB, oB, rfl, -⟩ := hmB.rd.2 (by omega)
          have hR2n := chP_nums hp L b
          obtain ⟨R2, hR2⟩ : ∃ R2, R2 = chP p L b := ⟨_, rfl⟩
          rw [← hR2] at hmB hR2n
          have hfb : 0 ≤ chF p L kp i ∧ chF p L kp i < p := by
           cases i with
           | zero => exact ⟨by show (0 : Int) ≤ 1; omega, by show (1 : Int) < p; omega⟩
           | succ i => exact ⟨Int.emod_nonneg _ (by omega), Int.emod_lt_of_pos _ (by omega)⟩
          obtain ⟨fa, hfa⟩ : ∃ fa, fa = chF p L kp i := ⟨_, rfl⟩
          rw [← hfa] at hfb ⊢
          have hfx := mul_b (a := fa) (b := x) (by omega) (by omega)
          have W4 := i64_small (x := fa * x) (by omega) (by omega)
          have W4p : wrap64 (fa * x) = fa * x := by unfold wrap64; omega
          obtain ⟨f2, hf2⟩ : ∃ f2, f2 = fa * x % p := ⟨_, rfl⟩
          have hf2b : 0 ≤ f2 ∧ f2 < p := by rw [hf2]; exact ⟨Int.emod_nonneg _ (by omega), Int.emod_lt_of_pos _ (by omega)⟩
          have HF2 : Hid (chF p L kp I = f2) := Lib.hid (by
           rw [hI]
           show (chF p L kp i * ent L (kp - (i + 1)) (kp - (i + 1) - 1)) % p = f2
           rw [← hI, ← ha, show a - 1 = b by omega, ← hx, ← hfa, hf2])
          have hmz := mul_b (a := f2) (b := z) (by omega) (by omega)
          have hmz2 : f2 * z ≤ 144 := by
           have h9 := Int.mul_le_mul (show f2 ≤ 12 by omega) (show z ≤ 12 by omega) hzb.1 (by omega : (0 : Int) ≤ 12)
           omega
          have hneg : -f2 * z = -(f2 * z) := Int.neg_mul _ _
          have W5 := i64_small (x := -f2) (by omega) (by omega)
          have W6 := i64_small (x := -f2 * z) (by omega) (by omega)
          have hk1 : -1000 ≤ -f2 * z := by omega
          have hk2 : -f2 * z ≤ 1000 := by omega
          obtain ⟨X, hX⟩ : ∃ X, X = chN p L (chTo p L kk) kp i := ⟨_, rfl⟩
          rw [← hX] at hM7
          have HNN : Hid (chN p L (chTo p L kk) kp I = plusL p X R2 (-f2 * z)) := Lib.hid (by
           have e2 : kp - I - 1 = b := hb.symm
           have e3 : kp - 1 = kk := by have := HK.out; omega
           rw [hI]
           show plusL p (chN p L (chTo p L kk) kp i) ((chTo p L kk).getD (kp - (i + 1) - 1) []) (-(chF p L kp (i + 1)) * ent L (kp - (i + 1) - 1) (kp - 1)) = _
           rw [← hI, HF2.out, e2, e3, ← hz, ← hX, hR2]
           congr 1
           exact chTo_old p L (by have := HK.out; omega))
          have hXn : NumsL p X := by rw [hX]; exact chN_nums hp0 _ _ _ _
          have HR6 : Hid (Rd wr' A6 KK (ints X) ∧ NumsL p X ∧ Rd wr' (some ⟨gB, oB, none⟩) (b + 1) (ints R2) ∧ NumsL p R2) := Lib.hid ⟨hM7.rd, hXn, hmB.rd, hR2n⟩
          have HM7 := Lib.hid hM7.b
          have hnum := fun w' => num_any p (fa * x) w' hp0 hp2 (by omega) (by omega)
          rw [← hf2] at hnum
          have HI := Lib.hid hI
          have hbk1 : b + 1 ≤ KK := by have := HKK.out; omega
          clear hx hz ha hb hfa hf2 hX hXn hR2 hR2n hmB hrowB hrlB hxb2 hcea hceb hna hnb hMH hML hM7 hneg hmz hmz2 hI hfx
          go_wp2_with fail
          refine (hnum _).mono ?_
          rintro e w8 ⟨rfl, rfl⟩
          clear hnum hcx hcma
          go_wp2
          refine wp_obs 24 [[],[],[],[],[],[3,4],[3,4,5],[2,3,4,5,6],[2,3,4,5,6,7],[],[9],[],[],[],[12,13],[12,13,14],[11,12,13,14,15],[11,12,13,14,15,16],[],[18],[11,12,13,14,15,16,17,18,19],[11,12,13,14,15,16,17,18,19,20],[9,10,11,12,13,14,15,16,17,18,19,20,21],[0,1,2,3,4,5,6,7,8,9,10,11,12,13,14,15,16,17,18,19,20,21,22],[0,1,2,3,4,5,6,7,8,9,10,11,12,13,14,15,16,17,18,19,20,21,22,23]] [VIs (.int .i64 (p)), VIs (.slice A6 KK c6), VIs (.slice (some ⟨gl, 0, none⟩) kp c'), VIs (.int .i64 (kp)), VIs (.int .i64 (I)), VIs (.int .i64 (a)), VIs (.int .i64 (b)), VIs (.pointer (some ⟨gl, b, none⟩)), VIs (.slice (some ⟨gB, oB, none⟩) (b + 1) cB), VIs (.int .i64 (f2)), VIs (.int .i64 (-f2)), VIs (.slice (some ⟨g, 0, none⟩) n c1), VIs (.int .i64 (kp)), VIs (.int .i64 (I)), VIs (.int .i64 (a)), VIs (.int .i64 (b)), VIs (.pointer (some ⟨g, b, none⟩)), VIs (.slice (some ⟨gb, 0, none⟩) n cb), VIs (.int .i64 (kp)), VIs (.int .i64 (kk)), VIs (.pointer (some ⟨gb, kk, none⟩)), VIs (.int .i64 (z)), VIs (.int .i64 (-f2 * z)), VSl wr' KK (plusL p X R2 (-f2 * z))] (fun w' => w'.cell? ⟨gl, b, none⟩ = some (.slice (some ⟨gB, oB, none⟩) (b + 1) cB) ∧ w'.cell? ⟨g, b, none⟩ = some (.slice (some ⟨gb, 0, none⟩) n cb) ∧ w'.cell? ⟨gb, kk, none⟩ = some (.int .i64 z) ∧ Below wr'.heap.size wr' w') (by kernel_rfl) (by kernel_rfl) (fun _ _ h hb => ⟨(hb.cell (World.block_lt_of_cell? _ _ h.1)).trans h.1, (hb.cell (World.block_lt_of_cell? _ _ h.2.1)).trans h.2.1, (hb.cell (World.block_lt_of_cell? _ _ h.2.2.1)).trans h.2.2.1, h.2.2.2.trans (hb.mono h.2.2.2.size)⟩) (⟨hclb, hcmb, hcz, zG.drew⟩) (fun x => ?_)
          refine zS (fun w' hS hV K hK => ?_) ?_
          · have q0 := hS.1; have q1 := hS.2.1; have q2 := hS.2.2.1; go_simp; exact zO hK
          refine zS (fun w' hS hV K hK => ?_) ?_
          · have q0 := hS.1; have q1 := hS.2.1; have q2 := hS.2.2.1; go_simp; exact zO hK
          refine zS (fun w' hS hV K hK => ?_) ?_
          · have q0 := hS.1; have q1 := hS.2.1; have q2 := hS.2.2.1; go_simp; exact zO hK
          refine zS (fun w' hS hV K hK => ?_) ?_
          · have q0 := hS.1; have q1 := hS.2.1; have q2 := hS.2.2.1; go_simp; exact zO hK
          refine zS (fun w' hS hV K hK => ?_) ?_
          · have q0 := hS.1; have q1 := hS.2.1; have q2 := hS.2.2.1; go_simp; exact zO hK
          refine zS (fun w' hS hV K hK => ?_) ?_
          · have e3 := zQ hV 3; have e4 := zQ hV 4; have q0 := hS.1; have q1 := hS.2.1; have q2 := hS.2.2.1; go_simp; exact zO hK
          refine zS (fun w' hS hV K hK => ?_) ?_
          · have e5 := zQ hV 5; have q0 := hS.1; have q1 := hS.2.1; have q2 := hS.2.2.1; go_simp; exact zO hK
          refine zS (fun w' hS hV K hK => ?_) ?_
          · have e2 := zQ hV 2; have e6 := zQ hV 6; have q0 := hS.1; have q1 := hS.2.1; have q2 := hS.2.2.1; go_simp; exact zO hK
          refine zS (fun w' hS hV K hK => ?_) ?_
          · have e7 := zQ hV 7; have q0 := hS.1; have q1 := hS.2.1; have q2 := hS.2.2.1; go_simp; exact zO hK
          refine zS (fun w' hS hV K hK => ?_) ?_
          · have q0 := hS.1; have q1 := hS.2.1; have q2 := hS.2.2.1; go_simp; exact zO hK
          refine zS (fun w' hS hV K hK => ?_) ?_
          · have e9 := zQ hV 9; have q0 := hS.1; have q1 := hS.2.1; have q2 := hS.2.2.1; go_simp; exact zO hK
          refine zS (fun w' hS hV K hK => ?_) ?_
          · have q0 := hS.1; have q1 := hS.2.1; have q2 := hS.2.2.1; go_simp; exact zO hK
          refine zS (fun w' hS hV K hK => ?_) ?_
          · have q0 := hS.1; have q1 := hS.2.1; have q2 := hS.2.2.1; go_simp; exact zO hK
          refine zS (fun w' hS hV K hK => ?_) ?_
          · have q0 := hS.1; have q1 := hS.2.1; have q2 := hS.2.2.1; go_simp; exact zO hK
          refine zS (fun w' hS hV K hK => ?_) ?_
          · have e12 := zQ hV 12; have e13 := zQ hV 13; have q0 := hS.1; have q1 := hS.2.1; have q2 := hS.2.2.1; go_simp; exact zO hK
          refine zS (fun w' hS hV K hK => ?_) ?_
          · have e14 := zQ hV 14; have q0 := hS.1; have q1 := hS.2.1; have q2 := hS.2.2.1; go_simp; exact zO hK
          refine zS (fun w' hS hV K hK => ?_) ?_
          · have e11 := zQ hV 11; have e15 := zQ hV 15; have q0 := hS.1; have q1 := hS.2.1; have q2 := hS.2.2.1; go_simp; exact zO hK
          refine zS (fun w' hS hV K hK => ?_) ?_
          · have e16 := zQ hV 16; have q0 := hS.1; have q1 := hS.2.1; have q2 := hS.2.2.1; go_simp; exact zO hK
          refine zS (fun w' hS hV K hK => ?_) ?_
          · have q0 := hS.1; have q1 := hS.2.1; have q2 := hS.2.2.1; go_simp; exact zO hK
          refine zS (fun w' hS hV K hK => ?_) ?_
          · have e18 := zQ hV 18; have q0 := hS.1; have q1 := hS.2.1; have q2 := hS.2.2.1; go_simp; exact zO hK
          refine zS (fun w' hS hV K hK => ?_) ?_
          · have e17 := zQ hV 17; have e19 := zQ hV 19; have q0 := hS.1; have q1 := hS.2.1; have q2 := hS.2.2.1; go_simp; exact zO hK
          refine zS (fun w' hS hV K hK => ?_) ?_
          · have e20 := zQ hV 20; have q0 := hS.1; have q1 := hS.2.1; have q2 := hS.2.2.1; go_simp; exact zO hK
          refine zS (fun w' hS hV K hK => ?_) ?_
          · have e10 := zQ hV 10; have e21 := zQ hV 21; have q0 := hS.1; have q1 := hS.2.1; have q2 := hS.2.2.1; go_simp; exact zO hK
          refine zS (fun w' hS hV K hK => ?_) ?_
          · have e0 := zQ hV 0; have e1 := zQ hV 1; have e8 := zQ hV 8; have e22 := zQ hV 22; have q0 := hS.1; have q1 := hS.2.1; have q2 := hS.2.2.1; go_simp; refine (added_any p A6 KK c6 _ (b + 1) cB (-f2 * z) X R2 _ hp hp2 (by omega) (by omega) (by omega) (HR6.out.1.below hS.2.2.2) HR6.out.2.1 (HR6.out.2.2.1.below hS.2.2.2) HR6.out.2.2.2 (by omega) (by omega)).mono ?_; rintro e v1 ⟨A2, c2, rfl, hM⟩; exact hK.out _ _ _ rfl rfl ⟨_, _, rfl, hM.after hS.2.2.2⟩ hM.b
          refine fun w' hS hV => ?_
          have e0 := zT hV 0
          have e1 := zT hV 1
          have e2 := zT hV 2
          have e3 := zT hV 3
          have e4 := zT hV 4
          have e5 := zT hV 5
          have e6 := zT hV 6
          have e7 := zT hV 7
          have e8 := zT hV 8
          have e9 := zT hV 9
          have e10 := zT hV 10
          have e11 := zT hV 11
          have e12 := zT hV 12
          have e13 := zT hV 13
          have e14 := zT hV 14
          have e15 := zT hV 15
          have e16 := zT hV 16
          have e17 := zT hV 17
          have e18 := zT hV 18
          have e19 := zT hV 19
          have e20 := zT hV 20
          have e21 := zT hV 21
          have e22 := zT hV 22
          obtain ⟨A23, c23, e23, h23⟩ := hV 23 (by decide)
          simp only [e0, e1, e2, e3, e4, e5, e6, e7, e8, e9, e10, e11, e12, e13, e14, e15, e16, e17, e18, e19, e20, e21, e22, e23]
          clear e0 e1 e2 e3 e4 e5 e6 e7 e8 e9 e10 e11 e12 e13 e14 e15 e16 e17 e18 e19 e20 e21 e22 e23
          have HB8 := Lib.hid (HM7.out.trans (hS.2.2.2.mono HM7.out.size))
          have HNX := Lib.hid (h23.after HM7.out)
          refine any_one (j := 24) (by kernel_rfl) (Eq.trans (by simp only [zA, zB, zC]; exact rfl) rfl) (fun K0 hK0 => ?_)
          go_simp
          refine hK0.out _ _ (wpAny_done (by kernel_rfl) ?_ _)
          clear hS hV h23 hclb hcmb hcz hzb W2 W2i W3 W3i W4 W4p W5 W6
          go_wp2
          go_roundw
          case rel => exact ⟨I, A23, c23, by have := HI.out; omega, by go_num, by rw [HF2.out], rfl, by rw [HNN.out]; exact HNX.out⟩
          case measure => have := HI.out; simp [intOf]; omega
        · have hIK : I = kp := by omega
          have hik : i = kk := by have := HK.out; omega
          rw [hik] at hM7
          clear hik hI hi
          rw [hIK]
          have hrM : Mk wr wr' 2 A6 KK c6 (ints (chN p L (chTo p L kk) kp kk)) := hM7
          have HRM := Lib.hid hrM
          clear hM7 hrM hlI hIK
          go_wp2_with (at_builtin; refine wpList_appRow wb wr _ rfl _ _ rfl (some ⟨gl, 0, none⟩) kp c' _ A6 KK c6 _ HM.out HRM.out (by omega) rfl ?_ ?_; (go_simp); intro A20 c20 w24 hM20)
          have hM21 : MkII wb w24 A20 (kp + 1) c20 (chTo p L kp) := by
           have e : chTo p L kp = chTo p L kk ++ [chN p L (chTo p L kk) kp kk] := by
            have := HK.out
            subst this; rfl
           rw [e]; exact hM20
          clear hM20
          go_roundw
          case rel => exact ⟨kp, A20, c20, hlk, by go_num, rfl, hM21⟩
          case measure => simp [intOf]; omega
     · have hkn : kk = n := by omega
       have hkpn : kp = n + 1 := by omega
       rw [hkn] at hcl HCP
       rw [hkpn] at hcl hmk ⊢
       have hb1 := HMB.out.b
       have hbr := HBW.out
       have hblk := HBLK.out.below (hb1.trans (hbr.mono hb1.size)) HBLK.out.lt
       have hBr := HBB.out.trans (hbr.mono HBB.out.size)
       obtain ⟨X, hrun, hMX⟩ := copy_all (cl := cA) hBr (Nat.le_refl _) hblk (by rw [size_madeCells]) (by omega) hmk.rd (by omega)
       have HMX := Lib.hid hMX
       clear hb1 hbr hblk hBr hMX hM HM hxk hrow hrl hR hRn hmk hlk hkn hkpn hkp hkk
       go_wp2
       go_ret
       exact ⟨_, _, rfl, by rw [HEND.out, ← HCP.out]; exact HMX.out⟩
set_option maxHeartbeats 1600000 in
set_option maxRecDepth 8000 in
theorem CharacteristicPolynomial_ok (p : Int) (A : Option Addr) (n c : Nat) (M : List (List Int)) (w : World) (HP : isP p = true) (h0 : 0 < n) (hn : n ≤ 16) (ha : RdII w A n M) (hT : Tab p n M) :
    Calls Tryz.prog 65 #[.int .i64 p, .slice A n c] w fun e w' => ∃ (A' : Option Addr) (c' : Nat), e = .returned (.tuple #[.slice A' (n + 1) c', .int .i64 0]) ∧ MkI w w' A' (n + 1) c' (charL p M) := by
 have hck := checkSquare_ok p A n c M w HP h0 hn ha hT
 go_enter Tryz.func65, Tryz.ntmps65
 go_wp2_with fail
 refine hck.mono ?_
 rintro e w1 ⟨rfl, hb⟩
 have hch := characteristic_any p A n c M w1 HP h0 hn (ha.below hb) hT
 clear hck
 go_wp2_with fail
 refine hch.mono ?_
 rintro e w2 ⟨A2, c2, rfl, hM⟩
 have HM := Lib.hid (hM.after hb)
 clear hch hM
 go_wp2
 go_ret2
 exact ⟨_, _, rfl, HM.out⟩
/-- A space and a list, drawn. -/
def Drew1 (w : World) (e : Ending) (w' : World) : Prop := ∃ (P : Int) (A : Option Addr) (n c : Nat) (sq : List Int) (A1 : Option Addr) (m1 c1 : Nat) (xs : List Int), e = .returned (.tuple #[.agg #[.int .i64 P, .slice A n c], .slice A1 m1 c1]) ∧ P ≤ 17 ∧ n ≤ 7 ∧ m1 ≤ 100 ∧ Own w' w.heap.size 2 A n c (ints sq) ∧ Own w' w.heap.size 2 A1 m1 c1 (ints xs) ∧ Below w.heap.size w w'
end Go.Proofs.YtmkjdpnoloofjaaGreat
