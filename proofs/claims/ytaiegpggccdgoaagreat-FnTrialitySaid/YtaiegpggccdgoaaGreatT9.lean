/-
  LawFnTriality: part 9 of the texts that the proof needs. No condition.
-/
import Derived.Test.YtaiegpggccdgoaaGreatT8
namespace Go.Proofs.YtaiegpggccdgoaaGreat
open Go Go.RowKit
set_option maxHeartbeats 800000 in
set_option maxRecDepth 8000 in
theorem IndexFunc2_any (f : FuncId) (q q2 : Addr) (p : List Int → Bool) (ok : List Int → Prop) (A : Option Addr) (n c : Nat) (xss : List (List Int)) (w : World) (hn : n ≤ 1099511627776) (ha : RdII w A n xss) (hok : ∀ xs ∈ xss, ok xs)
    (hf : Tells f #[.pointer (some q), .pointer (some q2)] w p ok) (hcf : ∀ (args : Array Value) (w : World), (callFunc f args).run Tryz.prog w = .ok (.enter f args) w) :
    Calls Tryz.prog 117 #[.slice A n c, .func (.func f) #[] #[.pointer (some q), .pointer (some q2)]] w fun e w' => ∃ r : Int, e = .returned (.int .i64 r) ∧ decide (0 ≤ r) = xss.any p ∧ Below w.heap.size w w' := by
 have hxl := ha.len
 have Hx := Lib.hid hxl; clear hxl
 go_enter Tryz.func117, Tryz.ntmps117
 go_wp2
 go_loopw [8] (fun i wr => ∃ k : Nat, k ≤ n ∧ i = .int .i64 k ∧ (xss.take k).any p = false ∧ Below w.heap.size w wr) (fun i _ => n - (intOf i).toNat)
 case atStart => exact ⟨0, by omega, rfl, by simp, Below.refl _ _⟩
 case round =>
  obtain ⟨k, hk, rfl, ht, hB⟩ := hrel
  have H := Lib.hid ht; clear ht
  by_cases hlt : k < n
  · obtain ⟨g, o, rfl, hx, A', c', hcx, hr, -⟩ := (ha.below hB).at_ hlt
    have hoki := hok xss[k] (List.getElem_mem hx)
    clear ha
    cases hi : p xss[k]
    all_goals
     have HI := Lib.hid hi; clear hi
     go_wp2_with fail
     refine (hf _ _ _ _ _ hB hr hoki).mono ?_
     rintro e w1 ⟨rfl, hb1⟩
     rw [HI.out]
     go_wp2
    · go_roundw
      case rel =>
       refine ⟨k + 1, by omega, by go_num, ?_, hB.trans (hb1.mono hB.size)⟩
       rw [List.take_succ_eq_append_getElem hx, List.any_append, H.out]
       simpa using HI.out
      case measure => simp [intOf]; omega
    · go_ret
      refine ⟨_, rfl, ?_, hB.trans (hb1.mono hB.size)⟩
      have : xss.any p = true := List.any_eq_true.2 ⟨xss[k], List.getElem_mem hx, HI.out⟩
      rw [this]; simp
  · go_wp2
    go_ret
    refine ⟨_, rfl, ?_, hB⟩
    have := H.out
    rw [List.take_of_length_le (by rw [Hx.out]; omega)] at this
    rw [this]; simp
set_option maxHeartbeats 400000 in
set_option maxRecDepth 8000 in
theorem ContainsFunc2_any (f : FuncId) (q q2 : Addr) (p : List Int → Bool) (ok : List Int → Prop) (A : Option Addr) (n c : Nat) (xss : List (List Int)) (w : World) (hn : n ≤ 1099511627776) (ha : RdII w A n xss) (hok : ∀ xs ∈ xss, ok xs)
    (hf : Tells f #[.pointer (some q), .pointer (some q2)] w p ok) (hcf : ∀ (args : Array Value) (w : World), (callFunc f args).run Tryz.prog w = .ok (.enter f args) w) :
    Calls Tryz.prog 65 #[.slice A n c, .func (.func f) #[] #[.pointer (some q), .pointer (some q2)]] w fun e w' => e = .returned (.bool (xss.any p)) ∧ Below w.heap.size w w' := by
 go_enter Tryz.func65, Tryz.ntmps65
 go_wp2_with fail
 refine (IndexFunc2_any _ _ _ _ _ _ _ _ _ _ hn ha hok hf hcf).mono ?_
 rintro e w1 ⟨r, rfl, hr, hb⟩
 have HR := Lib.hid hr; clear hr
 go_wp2
 go_ret
 exact ⟨ret_bool HR.out, hb⟩
theorem RdII.rows {w : World} {A : Option Addr} {n : Nat} {M : List (List Int)} (h : RdII w A n M) : ∃ rows : List Value, Rd w A n rows ∧ rows.length = n ∧ (∀ v ∈ rows, v.oneCell' = true) ∧ ∀ (k : Nat) (hk : k < M.length), ∃ A' c', rows[k]? = some (.slice A' M[k].length c') ∧ Rd w A' M[k].length (ints M[k]) ∧ M[k].length ≤ c' := by
 have hl := h.len
 obtain ⟨rows, hr, hrl, hk⟩ := h
 refine ⟨rows, hr, by omega, fun v hv => ?_, hk⟩
 obtain ⟨k, hk', rfl⟩ := List.getElem_of_mem hv
 obtain ⟨A', c', e, -⟩ := hk k (by omega)
 rw [List.getElem?_eq_getElem hk'] at e
 injection e with e
 rw [e]; rfl
theorem rows_app {w : World} {r1 r2 : List Value} {M N : List (List Int)} (h1 : r1.length = M.length) (k1 : ∀ (k : Nat) (hk : k < M.length), ∃ A' c', r1[k]? = some (.slice A' M[k].length c') ∧ Rd w A' M[k].length (ints M[k]) ∧ M[k].length ≤ c')
    (k2 : ∀ (k : Nat) (hk : k < N.length), ∃ A' c', r2[k]? = some (.slice A' N[k].length c') ∧ Rd w A' N[k].length (ints N[k]) ∧ N[k].length ≤ c') : ∀ (k : Nat) (hk : k < (M ++ N).length), ∃ A' c', (r1 ++ r2)[k]? = some (.slice A' (M ++ N)[k].length c') ∧ Rd w A' (M ++ N)[k].length (ints (M ++ N)[k]) ∧ (M ++ N)[k].length ≤ c' := fun k hk => by
 by_cases h : k < M.length
 · simp only [List.getElem_append_left h]
   rw [List.getElem?_append_left (by omega)]
   exact k1 k h
 · have hk' : k - M.length < N.length := by rw [List.length_append] at hk; omega
   simp only [List.getElem_append_right (Nat.le_of_not_lt h)]
   rw [List.getElem?_append_right (by omega), h1]
   exact k2 _ hk'
/-- The numbers of three matrices, row after row. -/
def tripL (MA MB MC : List (List Int)) : List Int := (MA ++ (MB ++ MC)).flatten
set_option maxHeartbeats 3200000 in
set_option maxRecDepth 8000 in
theorem tripleList_any (n : Nat) (X Y Z : Option Addr) (cx cy cz : Nat) (MA MB MC : List (List Int)) (w : World) (hA : RdII w X n MA) (hB : RdII w Y n MB) (hC : RdII w Z n MC) (h0 : 0 < n) (hn8 : n ≤ 8) (p : Int) (tA : Tab p n MA) (tB : Tab p n MB) (tC : Tab p n MC) :
    Calls Tryz.prog 64 #[.agg #[.slice X n cx, .slice Y n cy, .slice Z n cz]] w fun e w' => ∃ A' c', e = .returned (.slice A' (tripL MA MB MC).length c') ∧ MkI w w' A' (tripL MA MB MC).length c' (tripL MA MB MC) := by
 have hB0 : Below w.heap.size w (w.alloc (.cells #[.slice X n cx, .slice Y n cy, .slice Z n cz] 34)) := zG.alloc (Nat.le_refl _) _
 have k0 : Blk (w.alloc (.cells #[.slice X n cx, .slice Y n cy, .slice Z n cz] 34)) w.heap.size 34 #[.slice X n cx, .slice Y n cy, .slice Z n cz] := Blk.new _ _ _
 have q0 := k0.cell 0
 have q1 := k0.cell 1
 have q2 := k0.cell 2
 simp at q0 q1 q2
 obtain ⟨ra, a1, a2, a3, a4⟩ := hA.rows
 obtain ⟨rb, b1, b2, b3, b4⟩ := hB.rows
 obtain ⟨rc, c1, c2, c3, c4⟩ := hC.rows
 obtain ⟨w1, hw1⟩ : ∃ W, W = (w.alloc (.cells #[.slice X n cx, .slice Y n cy, .slice Z n cz] 34)).alloc (.cells #[.slice X n cx, .slice Y n cy, .slice Z n cz] 32) := ⟨_, rfl⟩
 have hB1 : Below w.heap.size w w1 := by rw [hw1]; exact hB0.alloc (by simp) _
 have hVV : RdVV w1 (some ⟨w.heap.size + 1, 0, none⟩) 3 [ra, rb, rc] := by
  refine ⟨[.slice X n cx, .slice Y n cy, .slice Z n cz], ⟨rfl, fun _ => ⟨w.heap.size + 1, 0, rfl, fun i u hu => ?_⟩⟩, rfl, fun i hi => ?_⟩
  · have kb : Blk w1 (w.heap.size + 1) 32 #[.slice X n cx, .slice Y n cy, .slice Z n cz] := by rw [hw1]; exact Blk.newAt3 (by simp)
    match i, hu with
    | 0, hu => simp at hu; subst hu; exact kb.cell 0
    | 1, hu => simp at hu; subst hu; exact kb.cell 1
    | 2, hu => simp at hu; subst hu; exact kb.cell 2
  · match i, hi with
    | 0, _ => exact ⟨X, cx, by simp [a2], by show Rd w1 X ra.length ra; rw [a2]; exact a1.below hB1⟩
    | 1, _ => exact ⟨Y, cy, by simp [b2], by show Rd w1 Y rb.length rb; rw [b2]; exact b1.below hB1⟩
    | 2, _ => exact ⟨Z, cz, by simp [c2], by show Rd w1 Z rc.length rc; rw [c2]; exact c1.below hB1⟩
 have hfl : ([ra, rb, rc].flatten).length = 3 * n := by simp [a2, b2, c2]; omega
 have hcon := concatS_any (some ⟨w.heap.size + 1, 0, none⟩) 3 3 [ra, rb, rc] w1 (by omega) (by omega) hVV (fun r hr => by
  simp at hr
  rcases hr with rfl | rfl | rfl
  · exact ⟨⟨by omega, by omega⟩, a3⟩
  · exact ⟨⟨by omega, by omega⟩, b3⟩
  · exact ⟨⟨by omega, by omega⟩, c3⟩)
 rw [hfl] at hcon
 have hlA := hA.len
 have hlB := hB.len
 have hlC := hC.len
 obtain ⟨MM, hMM⟩ : ∃ z, z = MA ++ (MB ++ MC) := ⟨_, rfl⟩
 have HRW : Hid (∀ w' A' c', Mk w1 w' 24 A' (3 * n) c' [ra, rb, rc].flatten → RdII w' A' (3 * n) MM) := Lib.hid fun w' A' c' hM => by
  refine ⟨[ra, rb, rc].flatten, hM.rd, by rw [hMM]; simp [a2, b2, c2, hlA, hlB, hlC], ?_⟩
  have hb : Below w.heap.size w w' := hB1.trans (hM.1.mono hB1.size)
  have up : ∀ {r : List Value} {M : List (List Int)}, (∀ (k : Nat) (hk : k < M.length), ∃ A' c', r[k]? = some (.slice A' M[k].length c') ∧ Rd w A' M[k].length (ints M[k]) ∧ M[k].length ≤ c') → ∀ (k : Nat) (hk : k < M.length), ∃ A' c', r[k]? = some (.slice A' M[k].length c') ∧ Rd w' A' M[k].length (ints M[k]) ∧ M[k].length ≤ c' := fun h k hk => by
   obtain ⟨A', c', e, h1, h2⟩ := h k hk
   exact ⟨A', c', e, h1.below hb, h2⟩
  rw [hMM]
  have := rows_app (by omega) (up a4) (rows_app (by omega) (up b4) (up c4))
  simpa using this
 have hTM : Tab p n MM := by rw [hMM]; exact tA.append (tB.append tC)
 have HTM : Hid (∀ r ∈ MM, 0 < r.length ∧ r.length ≤ 1000) := Lib.hid fun r hr => by rw [(hTM r hr).1]; omega
 have HTL : Hid (tripL MA MB MC = MM.flatten) := Lib.hid (by rw [hMM]; rfl)
 rw [HTL.out]
 obtain ⟨T, hT⟩ : ∃ T, T = MM.flatten.length := ⟨_, rfl⟩
 rw [← hT]
 have HT := Lib.hid hT
 have HB1 := Lib.hid hB1
 have HCON := Lib.hid hcon
 have HW1 := Lib.hid hw1
 clear hT hcon hMM hTM hA hB hC hVV hfl a1 a2 a3 a4 b1 b2 b3 b4 c1 c2 c3 c4 hw1 hB1 hB0 k0 tA tB tC hlA hlB hlC
 go_enter Tryz.func64, Tryz.ntmps64
 go_wp2_with fail
 rw [← HW1.out]
 refine HCON.out.mono ?_
 rintro e w2 ⟨A2, c2, rfl, hM2⟩
 have hcc := concat_any A2 (3 * n) c2 MM w2 (by omega) (by omega) (HRW.out _ _ _ hM2) HTM.out
 rw [← HT.out] at hcc
 have HM2 := Lib.hid hM2.1
 clear hM2
 go_wp2_with fail
 refine hcc.mono ?_
 rintro e w3 ⟨A3, c3, rfl, hM3⟩
 go_wp2
 go_ret
 exact ⟨_, _, rfl, (hM3.after HM2.out).after HB1.out⟩
set_option maxHeartbeats 1600000 in
set_option maxRecDepth 8000 in
theorem localAt_any (p : Int) (hp : 2 ≤ p) (hp2 : p ≤ 13) (A : Option Addr) (k c g1 g2 : Nat) (B : Option Addr) (m cb : Nat) (v : List Int) (R : Option Addr) (cr : Nat) (row : List Int) (w : World) (hm : m ≤ 65536) (k1 : Blk w g1 26 #[.int .i64 p, .slice A k c]) (k2 : Blk w g2 24 #[.slice B m cb]) (hv : Rd w B m (ints v)) (hvn : NumsL p v) (hr : Rd w R m (ints row)) (hrn : NumsL p row) :
    Calls Tryz.prog 67 #[.slice R m cr, .pointer (some ⟨g1, 0, none⟩), .pointer (some ⟨g2, 0, none⟩)] w fun e w' => e = .returned (.bool (dotL p row v != 0)) ∧ Below w.heap.size w w' := by
 go_enter Tryz.func67, Tryz.ntmps67
 go_wp2
 refine wp_obs 7 [[],[0],[],[],[0,1,2,3],[0,1,2,3,4],[0,1,2,3,4,5]] [VIs (.agg #[.int .i64 p, .slice A k c]), VIs (.int .i64 (p)), VIs (.slice R m cr), VIs (.slice B m cb), VIs (.int .i64 (dotL p row v)), VIs (.bool (dotL p row v != 0)), VIs (.bool (dotL p row v != 0))] (fun w' => Blk w' g1 26 #[.int .i64 p, .slice A k c] ∧ Blk w' g2 24 #[.slice B m cb] ∧ Below w.heap.size w w') (by kernel_rfl) (by kernel_rfl) (fun _ _ h hb => ⟨h.1.below hb h.1.lt, h.2.1.below hb h.2.1.lt, h.2.2.trans (hb.mono h.2.2.size)⟩) (⟨k1.drew, k2.drew, zG.drew⟩) (fun x => ?_)
 refine zS (fun w' hS hV K hK => ?_) ?_
 · obtain ⟨q0, q1⟩ := hS.1.two; have q2 := hS.2.1.cell 0; go_simp; exact zO hK
 refine zS (fun w' hS hV K hK => ?_) ?_
 · have e0 := zQ hV 0; obtain ⟨q0, q1⟩ := hS.1.two; have q2 := hS.2.1.cell 0; go_simp; refine (dfield_any p A k c w').mono ?_; rintro e v1 ⟨rfl, hb⟩; exact hK.out _ _ _ rfl rfl rfl hb
 refine zS (fun w' hS hV K hK => ?_) ?_
 · obtain ⟨q0, q1⟩ := hS.1.two; have q2 := hS.2.1.cell 0; go_simp; exact zO hK
 refine zS (fun w' hS hV K hK => ?_) ?_
 · obtain ⟨q0, q1⟩ := hS.1.two; have q2 := hS.2.1.cell 0; go_simp; exact zO hK
 refine zS (fun w' hS hV K hK => ?_) ?_
 · have e1 := zQ hV 1; have e2 := zQ hV 2; have e3 := zQ hV 3; obtain ⟨q0, q1⟩ := hS.1.two; have q2 := hS.2.1.cell 0; go_simp; refine (dot_any p R m cr B m cb row v w' hp hp2 hm (Nat.le_refl _) (hr.below hS.2.2) hrn (hv.below hS.2.2) hvn).mono ?_; rintro e w1 ⟨rfl, rfl⟩; exact zO hK
 refine zS (fun w' hS hV K hK => ?_) ?_
 · have e4 := zQ hV 4; obtain ⟨q0, q1⟩ := hS.1.two; have q2 := hS.2.1.cell 0; go_simp; exact hK.out _ _ _ rfl rfl (by first | rfl | exact congrArg Value.bool (by first | rfl | (cases h : (dotL p row v == 0) <;> simp_all [bne]))) zG
 refine zS (fun w' hS hV K hK => ?_) ?_
 · have e5 := zQ hV 5; obtain ⟨q0, q1⟩ := hS.1.two; have q2 := hS.2.1.cell 0; go_simp; exact zO hK
 refine fun w' hS hV => ?_
 have e0 := zT hV 0
 have e1 := zT hV 1
 have e2 := zT hV 2
 have e3 := zT hV 3
 have e4 := zT hV 4
 have e5 := zT hV 5
 have e6 := zT hV 6
 simp only [e0, e1, e2, e3, e4, e5, e6]
 clear e0 e1 e2 e3 e4 e5 e6
 refine wpAny_done (by kernel_rfl) ?_ _
 go_wp2
 go_ret
 exact ⟨rfl, hS.2.2⟩
end Go.Proofs.YtaiegpggccdgoaaGreat
namespace Go.Proofs.YtaiegpggccdgoaaGreat
/-- The cyclic form. -/
def TF (st : List Int) (k : Nat) (x y z : Nat → Int) : Int := 2 * dmulZ st k (dmulZ st k x y) z 0
/-- A skew matrix, a local triple: on the basis. -/
def SkM (p : Int) (st : List Int) (k : Nat) (m : Nat → Nat → Int) : Prop := ∀ i q, i < pw k → q < pw k → p ∣ m i q * dgZ st k i + m q i * dgZ st k q
def LoM (p : Int) (st : List Int) (k : Nat) (a b c : Nat → Nat → Int) : Prop := ∀ i j q, i < pw k → j < pw k → q < pw k → p ∣ a (j ^^^ q) i * fmZ st k (j ^^^ q) j + b (i ^^^ q) j * fmZ st k i (i ^^^ q) + c (i ^^^ j) q * fmZ st k i j
/-- The same for all vectors. -/
def SkA (p : Int) (st : List Int) (k : Nat) (m : Nat → Nat → Int) : Prop := ∀ x y : Nat → Int, p ∣ nfZ st k (matZ (pw k) m x) y + nfZ st k x (matZ (pw k) m y)
def LoA (p : Int) (st : List Int) (k : Nat) (a b c : Nat → Nat → Int) : Prop := ∀ x y z : Nat → Int, p ∣ TF st k (matZ (pw k) a x) y z + TF st k x (matZ (pw k) b y) z + TF st k x y (matZ (pw k) c z)
theorem xx {a b : Nat} : a ^^^ (a ^^^ b) = b := by rw [← Nat.xor_assoc, Nat.xor_self, Nat.zero_xor]
theorem xx' {a b : Nat} : (a ^^^ b) ^^^ a = b := by rw [Nat.xor_comm a b, Nat.xor_assoc, Nat.xor_self, Nat.xor_zero]
/-- The cyclic form by coordinates. -/
theorem TF_sum (st : List Int) (k : Nat) (x y z : Nat → Int) : TF st k x y z = sumTo (pw k) fun i => sumTo (pw k) fun j => x i * y j * z (i ^^^ j) * fmZ st k i j := by
 unfold TF
 have e1 : dmulZ st k (dmulZ st k x y) z 0 = sumTo (pw k) fun s => sumTo (pw k) fun i => x i * y (i ^^^ s) * cD st k i (i ^^^ s) * (z s * cD st k s s) := by
  show (sumTo (pw k) fun s => dmulZ st k x y s * z (s ^^^ 0) * cD st k s (s ^^^ 0)) = _
  refine sumTo_congr fun s _ => ?_
  rw [Nat.xor_zero, Int.mul_assoc, sumTo_mul_right]; rfl
 rw [e1, sumTo_comm, ← sumTo_mul]
 refine sumTo_congr fun i hi => ?_
 rw [sumTo_xor (fun s => x i * y (i ^^^ s) * cD st k i (i ^^^ s) * (z s * cD st k s s)) hi, ← sumTo_mul]
 refine sumTo_congr fun j _ => ?_
 rw [Nat.xor_comm j i, xx]
 unfold fmZ
 ac_rfl
theorem TF_1 {st : List Int} {k j q : Nat} (hj : j < pw k) (hq : q < pw k) (x : Nat → Int) : TF st k x (uZ j) (uZ q) = x (j ^^^ q) * fmZ st k (j ^^^ q) j := by
 have u1 : ∀ a, uZ a a = 1 := fun a => if_pos rfl
 rw [TF_sum, sumTo_comm, sumTo_one j hj (fun b _ hb => sumTo_zero fun i _ => by unfold uZ; rw [if_neg hb, Int.mul_zero, Int.zero_mul, Int.zero_mul]), sumTo_one (j ^^^ q) (xor_pw hj hq) (fun i _ hi => by
  rw [show uZ q (i ^^^ j) = 0 from if_neg fun e => hi (by rw [← e, Nat.xor_comm i j, xx]), Int.mul_zero, Int.zero_mul])]
 rw [xx', u1, u1, Int.mul_one, Int.mul_one]
theorem TF_2 {st : List Int} {k i q : Nat} (hi : i < pw k) (hq : q < pw k) (y : Nat → Int) : TF st k (uZ i) y (uZ q) = y (i ^^^ q) * fmZ st k i (i ^^^ q) := by
 have u1 : ∀ a, uZ a a = 1 := fun a => if_pos rfl
 rw [TF_sum, sumTo_one i hi (fun b _ hb => sumTo_zero fun j _ => by unfold uZ; rw [if_neg hb, Int.zero_mul, Int.zero_mul, Int.zero_mul]), sumTo_one (i ^^^ q) (xor_pw hi hq) (fun j _ hj => by
  rw [show uZ q (i ^^^ j) = 0 from if_neg fun e => hj (by rw [← e, xx]), Int.mul_zero, Int.zero_mul])]
 rw [xx, u1, u1, Int.mul_one, Int.one_mul]
theorem TF_3 {st : List Int} {k i j : Nat} (hi : i < pw k) (hj : j < pw k) (z : Nat → Int) : TF st k (uZ i) (uZ j) z = z (i ^^^ j) * fmZ st k i j := by
 have u1 : ∀ a, uZ a a = 1 := fun a => if_pos rfl
 rw [TF_sum, sumTo_one i hi (fun b _ hb => sumTo_zero fun j _ => by unfold uZ; rw [if_neg hb, Int.zero_mul, Int.zero_mul, Int.zero_mul]), sumTo_one j hj (fun b _ hb => by unfold uZ; rw [if_neg hb, Int.mul_zero, Int.zero_mul, Int.zero_mul])]
 rw [u1, u1, Int.one_mul, Int.one_mul]
theorem matZ_u {N q : Nat} (m : Nat → Nat → Int) (hq : q < N) : matZ N m (uZ q) = fun i => m i q := funext fun i => matZ_uZ m hq i
theorem LoA.basis {p : Int} {st : List Int} {k : Nat} {a b c : Nat → Nat → Int} (h : LoA p st k a b c) : LoM p st k a b c := fun i j q hi hj hq => by
 have := h (uZ i) (uZ j) (uZ q)
 rw [TF_1 hj hq, TF_2 hi hq, TF_3 hi hj, matZ_u a hi, matZ_u b hj, matZ_u c hq] at this
 exact this
theorem LoM.all {p : Int} {st : List Int} {k : Nat} {a b c : Nat → Nat → Int} (h : LoM p st k a b c) : LoA p st k a b c := fun x y z => by
 have t1 : TF st k (matZ (pw k) a x) y z = sumTo (pw k) fun i => sumTo (pw k) fun j => sumTo (pw k) fun q => x i * y j * z q * (a (j ^^^ q) i * fmZ st k (j ^^^ q) j) := by
  rw [TF_sum, sumTo_comm]
  rw [sumTo_congr (g := fun j => sumTo (pw k) fun i => sumTo (pw k) fun q => x i * y j * z q * (a (j ^^^ q) i * fmZ st k (j ^^^ q) j)) (fun j hj => ?_), sumTo_comm]
  rw [sumTo_xor (fun s => matZ (pw k) a x s * y j * z (s ^^^ j) * fmZ st k s j) hj, sumTo_comm]
  refine sumTo_congr fun q _ => ?_
  rw [Nat.xor_comm q j, xx']
  unfold matZ
  rw [Int.mul_assoc, Int.mul_assoc, ← sumTo_mul_right]
  exact sumTo_congr fun i _ => by ac_rfl
 have t2 : TF st k x (matZ (pw k) b y) z = sumTo (pw k) fun i => sumTo (pw k) fun j => sumTo (pw k) fun q => x i * y j * z q * (b (i ^^^ q) j * fmZ st k i (i ^^^ q)) := by
  rw [TF_sum]
  refine sumTo_congr fun i hi => ?_
  rw [sumTo_xor (fun s => x i * matZ (pw k) b y s * z (i ^^^ s) * fmZ st k i s) hi, sumTo_comm]
  refine sumTo_congr fun q _ => ?_
  rw [Nat.xor_comm q i, xx]
  unfold matZ
  rw [Int.mul_assoc, Int.mul_comm (x i), Int.mul_assoc, ← sumTo_mul_right]
  exact sumTo_congr fun j _ => by ac_rfl
 have t3 : TF st k x y (matZ (pw k) c z) = sumTo (pw k) fun i => sumTo (pw k) fun j => sumTo (pw k) fun q => x i * y j * z q * (c (i ^^^ j) q * fmZ st k i j) := by
  rw [TF_sum]
  refine sumTo_congr fun i hi => sumTo_congr fun j hj => ?_
  unfold matZ
  rw [Int.mul_assoc, ← sumTo_mul_right, ← sumTo_mul]
  exact sumTo_congr fun q _ => by ac_rfl
 rw [t1, t2, t3, ← sumTo_add, ← sumTo_add]
 refine Int.dvd_of_emod_eq_zero ((sumTo_mod p (g := fun _ => 0) fun i hi => ?_).trans (by rw [sumTo_zero fun _ _ => rfl]; rfl))
 rw [← sumTo_add, ← sumTo_add]
 refine (sumTo_mod p (g := fun _ => 0) fun j hj => ?_).trans (by rw [sumTo_zero fun _ _ => rfl])
 rw [← sumTo_add, ← sumTo_add]
 refine (sumTo_mod p (g := fun _ => 0) fun q hq => ?_).trans (by rw [sumTo_zero fun _ _ => rfl])
 rw [← Int.mul_add, ← Int.mul_add]
 obtain ⟨d, hd⟩ := h i j q hi hj hq
 rw [hd, Int.mul_left_comm, Int.mul_emod_right]; rfl
theorem SkM.all {p : Int} {st : List Int} {k : Nat} {m : Nat → Nat → Int} (h : SkM p st k m) : SkA p st k m := fun x y => by
 have e1 : nfZ st k (matZ (pw k) m x) y = sumTo (pw k) fun i => sumTo (pw k) fun q => x q * y i * (m i q * dgZ st k i) := by
  rw [nfZ_sum]
  refine sumTo_congr fun i _ => ?_
  unfold matZ dgZ
  rw [Int.mul_comm (cjS i * cD st k i i), Int.mul_assoc, ← sumTo_mul_right]
  exact sumTo_congr fun q _ => by ac_rfl
 have e2 : nfZ st k x (matZ (pw k) m y) = sumTo (pw k) fun i => sumTo (pw k) fun q => x q * y i * (m q i * dgZ st k q) := by
  rw [nfZ_sum, sumTo_comm]
  refine sumTo_congr fun q _ => ?_
  unfold matZ dgZ
  rw [← sumTo_mul]
  exact sumTo_congr fun i _ => by ac_rfl
 rw [e1, e2, ← sumTo_add]
 refine Int.dvd_of_emod_eq_zero ((sumTo_mod p (g := fun _ => 0) fun i hi => ?_).trans (by rw [sumTo_zero fun _ _ => rfl]; rfl))
 rw [← sumTo_add]
 refine (sumTo_mod p (g := fun _ => 0) fun q hq => ?_).trans (by rw [sumTo_zero fun _ _ => rfl])
 rw [← Int.mul_add]
 obtain ⟨d, hd⟩ := h i q hi hq
 rw [hd, Int.mul_left_comm, Int.mul_emod_right]; rfl
/-- A local triple. -/
structure Loc (p : Int) (st : List Int) (k : Nat) (a b c : Nat → Nat → Int) : Prop where
 sa : SkM p st k a
 sb : SkM p st k b
 sc : SkM p st k c
 lo : LoM p st k a b c
theorem SkM.congr {p : Int} {st : List Int} {k : Nat} {m m' : Nat → Nat → Int} (h : SkM p st k m) (e : ∀ i j, i < pw k → j < pw k → m' i j % p = m i j % p) : SkM p st k m' := fun i q hi hq =>
 Int.dvd_of_emod_eq_zero ((cg_add (md_mul _ (e i q hi hq)) (md_mul _ (e q i hq hi))).trans (Int.emod_eq_zero_of_dvd (h i q hi hq)))
theorem LoM.congr {p : Int} {st : List Int} {k : Nat} {a b c a' b' c' : Nat → Nat → Int} (h : LoM p st k a b c) (e1 : ∀ i j, i < pw k → j < pw k → a' i j % p = a i j % p) (e2 : ∀ i j, i < pw k → j < pw k → b' i j % p = b i j % p) (e3 : ∀ i j, i < pw k → j < pw k → c' i j % p = c i j % p) : LoM p st k a' b' c' := fun i j q hi hj hq =>
 Int.dvd_of_emod_eq_zero ((cg_add (cg_add (md_mul _ (e1 _ _ (xor_pw hj hq) hi)) (md_mul _ (e2 _ _ (xor_pw hi hq) hj))) (md_mul _ (e3 _ _ (xor_pw hi hj) hq))).trans (Int.emod_eq_zero_of_dvd (h i j q hi hj hq)))
theorem TF_cyc {k : Nat} (hk : k ≤ 3) (st : List Int) (x y z : Nat → Int) : TF st k x y z = TF st k y z x := by unfold TF; rw [trZ_cyc hk]
/-- Rotations of local triples. -/
theorem Loc.rot {p : Int} {st : List Int} {k : Nat} (hk : k ≤ 3) {a b c : Nat → Nat → Int} (h : Loc p st k a b c) : Loc p st k c a b :=
 ⟨h.sc, h.sa, h.sb, LoA.basis fun x y z => by
  have := h.lo.all y z x
  rw [TF_cyc hk st _ y z, TF_cyc hk st x _ z, TF_cyc hk st x y, show ∀ u v w : Int, u + v + w = v + w + u by intros; omega]
  exact this⟩
theorem nf_1 {st : List Int} {k i : Nat} (hi : i < pw k) (w : Nat → Int) : nfZ st k w (uZ i) = w i * dgZ st k i := by
 rw [nfZ_sum, sumTo_one i hi (fun j _ hj => by unfold uZ; rw [if_neg hj, Int.mul_zero]), show uZ i i = 1 from if_pos rfl, Int.mul_one, Int.mul_comm]; rfl
theorem nf_2 {st : List Int} {k q : Nat} (hq : q < pw k) (w : Nat → Int) : nfZ st k (uZ q) w = w q * dgZ st k q := by
 rw [nfZ_sum, sumTo_one q hq (fun j _ hj => by unfold uZ; rw [if_neg hj, Int.mul_zero, Int.zero_mul]), show uZ q q = 1 from if_pos rfl, Int.mul_one, Int.mul_comm]; rfl
theorem SkM.bracket {p : Int} {st : List Int} {k : Nat} {m n c : Nat → Nat → Int} (hm : SkM p st k m) (hn : SkM p st k n) (hc : ∀ a b, a < pw k → b < pw k → c a b % p = (matZ (pw k) m (matZ (pw k) n (uZ b)) a - matZ (pw k) n (matZ (pw k) m (uZ b)) a) % p) : SkM p st k c := by
 refine SkM.congr (m := fun a b => matZ (pw k) m (matZ (pw k) n (uZ b)) a - matZ (pw k) n (matZ (pw k) m (uZ b)) a) (fun i q hi hq => ?_) hc
 obtain ⟨k1, e1⟩ := hm.all (matZ (pw k) n (uZ q)) (uZ i)
 obtain ⟨k2, e2⟩ := hn.all (matZ (pw k) m (uZ q)) (uZ i)
 obtain ⟨k3, e3⟩ := hm.all (uZ q) (matZ (pw k) n (uZ i))
 obtain ⟨k4, e4⟩ := hn.all (uZ q) (matZ (pw k) m (uZ i))
 rw [nf_1 hi] at e1 e2
 rw [nf_2 hq] at e3 e4
 refine ⟨k1 - k2 + k3 - k4, ?_⟩
 show (matZ (pw k) m (matZ (pw k) n (uZ q)) i - matZ (pw k) n (matZ (pw k) m (uZ q)) i) * dgZ st k i + (matZ (pw k) m (matZ (pw k) n (uZ i)) q - matZ (pw k) n (matZ (pw k) m (uZ i)) q) * dgZ st k q = _
 rw [Int.sub_mul, Int.sub_mul, Int.mul_sub, Int.mul_add, Int.mul_sub]
 omega
/-- What the bracket of two matrices does. -/
def BrOf (p : Int) (N : Nat) (m n c : Nat → Nat → Int) : Prop := ∀ a b, a < N → b < N → c a b % p = (matZ N m (matZ N n (uZ b)) a - matZ N n (matZ N m (uZ b)) a) % p
theorem Loc.bracket {p : Int} {st : List Int} {k : Nat} {a b c a' b' c' a2 b2 c2 : Nat → Nat → Int} (h : Loc p st k a b c) (h' : Loc p st k a' b' c') (ea : BrOf p (pw k) a a' a2) (eb : BrOf p (pw k) b b' b2) (ec : BrOf p (pw k) c c' c2) : Loc p st k a2 b2 c2 := by
 refine ⟨h.sa.bracket h'.sa ea, h.sb.bracket h'.sb eb, h.sc.bracket h'.sc ec, ?_⟩
 refine LoM.congr (a := fun i j => matZ (pw k) a (matZ (pw k) a' (uZ j)) i - matZ (pw k) a' (matZ (pw k) a (uZ j)) i) (b := fun i j => matZ (pw k) b (matZ (pw k) b' (uZ j)) i - matZ (pw k) b' (matZ (pw k) b (uZ j)) i) (c := fun i j => matZ (pw k) c (matZ (pw k) c' (uZ j)) i - matZ (pw k) c' (matZ (pw k) c (uZ j)) i) (fun i j q hi hj hq => ?_) ea eb ec
 have := br_local p (TF st k) (matZ (pw k) a) (matZ (pw k) b) (matZ (pw k) c) (matZ (pw k) a') (matZ (pw k) b') (matZ (pw k) c') h.lo.all h'.lo.all (uZ i) (uZ j) (uZ q)
 rw [TF_1 hj hq, TF_1 hj hq, TF_2 hi hq, TF_2 hi hq, TF_3 hi hj, TF_3 hi hj] at this
 simp only [Int.sub_mul]
 exact this
/-- Inner derivations are local triples, three times. -/
theorem Loc.der {p : Int} {k : Nat} (hk : k ≤ 3) (st : List Int) (x y : Nat → Int) {m : Nat → Nat → Int} (hm : ∀ r i, r < pw k → i < pw k → m r i % p = derZ st k x y (uZ i) r % p) : Loc p st k m m m := by
 have hs : SkM p st k m := SkM.congr (m := fun r i => derZ st k x y (uZ i) r) (fun i q hi hq => by
  have h := der_skew hk st x y (uZ q) (uZ i)
  rw [nf_1 hi, nf_2 hq] at h
  exact ⟨0, by rw [Int.mul_zero]; exact h⟩) hm
 refine ⟨hs, hs, hs, LoM.congr (a := fun r i => derZ st k x y (uZ i) r) (b := fun r i => derZ st k x y (uZ i) r) (c := fun r i => derZ st k x y (uZ i) r) (fun i j q hi hj hq => ?_) hm hm hm⟩
 have h := derZ_local hk st x y (uZ i) (uZ j) (uZ q)
 have t1 := TF_1 (st := st) hj hq (derZ st k x y (uZ i))
 have t2 := TF_2 (st := st) hi hq (derZ st k x y (uZ j))
 have t3 := TF_3 (st := st) hi hj (derZ st k x y (uZ q))
 unfold TF at t1 t2 t3
 refine ⟨0, ?_⟩
 show derZ st k x y (uZ i) (j ^^^ q) * _ + derZ st k x y (uZ j) (i ^^^ q) * _ + derZ st k x y (uZ q) (i ^^^ j) * _ = _
 rw [← t1, ← t2, ← t3]; omega
/-- Pure triples are local ones. -/
theorem Loc.pure {p : Int} {k : Nat} (hk : k ≤ 3) (st : List Int) (x : Nat → Int) (h0 : x 0 = 0) {a b c : Nat → Nat → Int} (ha : ∀ r i, r < pw k → i < pw k → a r i % p = dmulZ st k x (uZ i) r % p) (hb : ∀ r i, r < pw k → i < pw k → b r i % p = dmulZ st k (uZ i) x r % p) (hc : ∀ r i, r < pw k → i < pw k → c r i % p = (-1 * (dmulZ st k x (uZ i) r + dmulZ st k (uZ i) x r)) % p) : Loc p st k a b c := by
 have sl : ∀ i q, i < pw k → q < pw k → dmulZ st k x (uZ q) i * dgZ st k i + dmulZ st k x (uZ i) q * dgZ st k q = 0 := fun i q hi hq => by
  have h := left_skew hk st x (uZ q) (uZ i) h0
  rwa [nf_1 hi, nf_2 hq] at h
 have sr : ∀ i q, i < pw k → q < pw k → dmulZ st k (uZ q) x i * dgZ st k i + dmulZ st k (uZ i) x q * dgZ st k q = 0 := fun i q hi hq => by
  have h := right_skew hk st x (uZ q) (uZ i) h0
  rwa [nf_1 hi, nf_2 hq] at h
 refine ⟨SkM.congr (m := fun r i => dmulZ st k x (uZ i) r) (fun i q hi hq => ⟨0, by rw [Int.mul_zero]; exact sl i q hi hq⟩) ha, SkM.congr (m := fun r i => dmulZ st k (uZ i) x r) (fun i q hi hq => ⟨0, by rw [Int.mul_zero]; exact sr i q hi hq⟩) hb, SkM.congr (m := fun r i => -1 * (dmulZ st k x (uZ i) r + dmulZ st k (uZ i) x r)) (fun i q hi hq => ⟨0, ?_⟩) hc, LoM.congr (a := fun r i => dmulZ st k x (uZ i) r) (b := fun r i => dmulZ st k (uZ i) x r) (c := fun r i => -1 * (dmulZ st k x (uZ i) r + dmulZ st k (uZ i) x r)) (fun i j q hi hj hq => ?_) ha hb hc⟩
 · have h1 := sl i q hi hq
   have h2 := sr i q hi hq
   show -1 * (dmulZ st k x (uZ q) i + dmulZ st k (uZ q) x i) * dgZ st k i + -1 * (dmulZ st k x (uZ i) q + dmulZ st k (uZ i) x q) * dgZ st k q = _
   rw [Int.mul_assoc, Int.mul_assoc, Int.add_mul, Int.add_mul, Int.mul_zero]; omega
 · have h := pureZ hk st x (uZ i) (uZ j) (uZ q) h0
   have t1 := TF_1 (st := st) hj hq (dmulZ st k x (uZ i))
   have t2 := TF_2 (st := st) hi hq (dmulZ st k (uZ j) x)
   have t3 := TF_3 (st := st) hi hj (fun r => dmulZ st k x (uZ q) r + dmulZ st k (uZ q) x r)
   unfold TF at t1 t2 t3
   refine ⟨0, ?_⟩
   show dmulZ st k x (uZ i) (j ^^^ q) * _ + dmulZ st k (uZ j) x (i ^^^ q) * _ + -1 * (dmulZ st k x (uZ q) (i ^^^ j) + dmulZ st k (uZ q) x (i ^^^ j)) * _ = _
   rw [Int.mul_assoc (-1), ← t1, ← t2, ← t3]; omega
/-- The matrices of a pure triple. -/
theorem leftDL_ent {p : Int} (hp : 0 < p) {k : Nat} (st : List Int) {x : List Int} (hx : x.length = pw k) {r i : Nat} (hr : r < pw k) (hi : i < pw k) : ent (leftDL p k st x) r i % p = dmulZ st k (gV x) (uZ i) r % p := by
 have hT : Tab p (pw k) (tab (pw k) fun i => dblL p k st x (unitRow (pw k) i)) := Tab.tab fun i _ => ⟨dblL_len _ _ _ _ _, dblL_nums hp _ _ _ _⟩
 have e : ent (leftDL p k st x) r i = gV (dblL p k st x (unitRow (pw k) i)) r := by
  unfold leftDL
  have := transL_row hT (by rw [tab_len]; exact pw_pos k) hr
  unfold ent at this ⊢
  rw [this, tab_len, tab_getD hi, tab_getD hi]; rfl
 rw [e, dblL_md k st hx (unitRow_len _ _) hr]
 exact dmulZ_mod (fun _ _ => rfl) (fun b _ => by rw [gV_unitRow hi]) hr
theorem rightDL_ent {p : Int} (hp : 0 < p) {k : Nat} (st : List Int) {x : List Int} (hx : x.length = pw k) {r i : Nat} (hr : r < pw k) (hi : i < pw k) : ent (rightDL p k st x) r i % p = dmulZ st k (uZ i) (gV x) r % p := by
 have hT : Tab p (pw k) (tab (pw k) fun i => dblL p k st (unitRow (pw k) i) x) := Tab.tab fun i _ => ⟨dblL_len _ _ _ _ _, dblL_nums hp _ _ _ _⟩
 have e : ent (rightDL p k st x) r i = gV (dblL p k st (unitRow (pw k) i) x) r := by
  unfold rightDL
  have := transL_row hT (by rw [tab_len]; exact pw_pos k) hr
  unfold ent at this ⊢
  rw [this, tab_len, tab_getD hi, tab_getD hi]; rfl
 rw [e, dblL_md k st (unitRow_len _ _) hx hr]
 exact dmulZ_mod (fun b _ => by rw [gV_unitRow hi]) (fun _ _ => rfl) hr
theorem leftDL_tab {p : Int} (hp : 0 < p) (k : Nat) (st x : List Int) : Tab p (pw k) (leftDL p k st x) ∧ (leftDL p k st x).length = pw k := by
 have hT : Tab p (pw k) (tab (pw k) fun i => dblL p k st x (unitRow (pw k) i)) := Tab.tab fun i _ => ⟨dblL_len _ _ _ _ _, dblL_nums hp _ _ _ _⟩
 have := transL_tab hp hT
 rw [tab_len] at this
 exact ⟨this, transL_len hT (by rw [tab_len]; exact pw_pos k)⟩
theorem rightDL_tab {p : Int} (hp : 0 < p) (k : Nat) (st x : List Int) : Tab p (pw k) (rightDL p k st x) ∧ (rightDL p k st x).length = pw k := by
 have hT : Tab p (pw k) (tab (pw k) fun i => dblL p k st (unitRow (pw k) i) x) := Tab.tab fun i _ => ⟨dblL_len _ _ _ _ _, dblL_nums hp _ _ _ _⟩
 have := transL_tab hp hT
 rw [tab_len] at this
 exact ⟨this, transL_len hT (by rw [tab_len]; exact pw_pos k)⟩
/-- Less than the sum of the left and the right matrix. -/
def pureC (p : Int) (k : Nat) (st x : List Int) : List (List Int) := tab (pw k) fun i => scaleL p ((sumL p (leftDL p k st x) (rightDL p k st x) 1).getD i []) (-1)
theorem pureC_tab {p : Int} (hp : 0 < p) (k : Nat) (st x : List Int) : Tab p (pw k) (pureC p k st x) ∧ (pureC p k st x).length = pw k := by
 refine ⟨Tab.tab fun i hi => ⟨?_, scaleL_nums hp _ _⟩, tab_len _ _⟩
 have hl := leftDL_tab hp k st x
 rw [scaleL_len]
 unfold sumL
 rw [hl.2, tab_getD hi, plusL_len]
 exact (hl.1.row (by rw [hl.2]; exact hi)).1
theorem pureC_ent {p : Int} (hp : 0 < p) {k : Nat} (st : List Int) {x : List Int} (hx : x.length = pw k) {r i : Nat} (hr : r < pw k) (hi : i < pw k) : ent (pureC p k st x) r i % p = (-1 * (dmulZ st k (gV x) (uZ i) r + dmulZ st k (uZ i) (gV x) r)) % p := by
 have hl := leftDL_tab hp k st x
 have hlr : ((leftDL p k st x).getD r []).length = pw k := (hl.1.row (by rw [hl.2]; exact hr)).1
 have e : ent (pureC p k st x) r i = ((ent (leftDL p k st x) r i + 1 * ent (rightDL p k st x) r i) % p * -1) % p := by
  unfold pureC ent
  rw [tab_getD hr, scaleL_getD _ (by unfold sumL; rw [hl.2, tab_getD hr, plusL_len, hlr]; exact hi)]
  unfold sumL
  rw [hl.2, tab_getD hr, plusL_getD _ _ (by rw [hlr]; exact hi)]
 rw [e, cg_self, Int.mul_comm]
 refine mul_md (-1) ?_
 rw [cg_self, Int.one_mul]
 exact cg_add (leftDL_ent hp st hx hr hi) (rightDL_ent hp st hx hr hi)
theorem getD_leftT {α : Type} {a b : List α} {d : α} {i : Nat} (h : i < a.length) : (a ++ b).getD i d = a.getD i d := by
 rw [List.getD_eq_getElem?_getD, List.getD_eq_getElem?_getD, List.getElem?_append_left h]
theorem getD_rightT {α : Type} {a b : List α} {d : α} {i : Nat} (h : a.length ≤ i) : (a ++ b).getD i d = b.getD (i - a.length) d := by
 rw [List.getD_eq_getElem?_getD, List.getD_eq_getElem?_getD, List.getElem?_append_right h]
/-- The program's list of a triple. -/
theorem flat_getD {p : Int} {n : Nat} : ∀ {M : List (List Int)} {i q : Nat}, Tab p n M → i < M.length → q < n → M.flatten.getD (i * n + q) 0 = ent M i q
 | [], _, _, _, h, _ => absurd h (by simp)
 | y :: M, 0, q, hT, _, hq => by
  unfold ent
  rw [List.flatten_cons, Nat.zero_mul, Nat.zero_add, getD_leftT (by rw [(hT y (by simp)).1]; exact hq)]; rfl
 | y :: M, i + 1, q, hT, hi, hq => by
  have hy := (hT y (by simp)).1
  rw [List.flatten_cons, getD_rightT (by rw [hy, Nat.succ_mul]; omega), hy, show (i + 1) * n + q - n = i * n + q by rw [Nat.succ_mul]; omega, flat_getD (fun z hz => hT z (by simp [hz])) (by simpa using hi) hq]
  unfold ent; rfl
def partM (MX MY MZ : List (List Int)) : Nat → List (List Int)
 | 0 => MX
 | 1 => MY
 | _ => MZ
theorem tripL_at {p : Int} {n : Nat} {MX MY MZ : List (List Int)} (tX : Tab p n MX) (tY : Tab p n MY) (tZ : Tab p n MZ) (lX : MX.length = n) (lY : MY.length = n) (lZ : MZ.length = n) {part i q : Nat} (hp : part < 3) (hi : i < n) (hq : q < n) : (tripL MX MY MZ).getD (part * (n * n) + (i * n + q)) 0 = ent (partM MX MY MZ part) i q := by
 unfold tripL
 have e : part * (n * n) + (i * n + q) = (part * n + i) * n + q := by rw [Nat.add_mul, Nat.mul_assoc]; omega
 have hb : part * n ≤ 2 * n := Nat.mul_le_mul_right n (by omega)
 rw [e, flat_getD (tX.append (tY.append tZ)) (by rw [List.length_append, List.length_append, lX, lY, lZ]; omega) hq]
 unfold ent
 congr 1
 match part, hp with
 | 0, _ => rw [Nat.zero_mul, Nat.zero_add, getD_leftT (by rw [lX]; exact hi)]; rfl
 | 1, _ => rw [Nat.one_mul, getD_rightT (by rw [lX]; omega), lX, show n + i - n = i by omega, getD_leftT (by rw [lY]; exact hi)]; rfl
 | 2, _ => rw [getD_rightT (by rw [lX]; omega), lX, getD_rightT (by rw [lY]; omega), lY, show 2 * n + i - n - n = i by omega]; rfl
theorem loc_eq {p : Int} {k : Nat} {st : List Int} {MX MY MZ : List (List Int)} (tX : Tab p (pw k) MX) (tY : Tab p (pw k) MY) (tZ : Tab p (pw k) MZ) (lX : MX.length = pw k) (lY : MY.length = pw k) (lZ : MZ.length = pw k) : LocEq p st k (fun q => (tripL MX MY MZ).getD q 0) ↔ Loc p st k (ent MX) (ent MY) (ent MZ) := by
 have H : ∀ {part i q : Nat}, part < 3 → i < pw k → q < pw k → (tripL MX MY MZ).getD (part * (pw k * pw k) + (i * pw k + q)) 0 = ent (partM MX MY MZ part) i q := fun h1 h2 h3 => tripL_at tX tY tZ lX lY lZ h1 h2 h3
 have H0 : ∀ {i q : Nat}, i < pw k → q < pw k → (tripL MX MY MZ).getD (i * pw k + q) 0 = ent MX i q := fun h2 h3 => by have := H (part := 0) (by omega) h2 h3; rwa [Nat.zero_mul, Nat.zero_add] at this
 have H1 : ∀ {i q : Nat}, i < pw k → q < pw k → (tripL MX MY MZ).getD (pw k * pw k + (i * pw k + q)) 0 = ent MY i q := fun h2 h3 => by have := H (part := 1) (by omega) h2 h3; rwa [Nat.one_mul] at this
 have H2 : ∀ {i q : Nat}, i < pw k → q < pw k → (tripL MX MY MZ).getD (2 * (pw k * pw k) + (i * pw k + q)) 0 = ent MZ i q := fun h2 h3 => H (part := 2) (by omega) h2 h3
 have S : ∀ part, part < 3 → ((∀ i q, i < pw k → q < pw k → p ∣ (tripL MX MY MZ).getD (part * (pw k * pw k) + (i * pw k + q)) 0 * dgZ st k i + (tripL MX MY MZ).getD (part * (pw k * pw k) + (q * pw k + i)) 0 * dgZ st k q) ↔ SkM p st k (ent (partM MX MY MZ part))) := fun part h => by
  unfold SkM
  constructor
  · intro h1 i q hi hq
    have := h1 i q hi hq
    rwa [H h hi hq, H h hq hi] at this
  · intro h1 i q hi hq
    rw [H h hi hq, H h hq hi]
    exact h1 i q hi hq
 constructor
 · rintro ⟨h1, h2⟩
   refine ⟨(S 0 (by omega)).1 fun i q hi hq => h1 0 i q (by omega) hi hq, (S 1 (by omega)).1 fun i q hi hq => h1 1 i q (by omega) hi hq, (S 2 (by omega)).1 fun i q hi hq => h1 2 i q (by omega) hi hq, fun i j q hi hj hq => ?_⟩
   have : p ∣ (tripL MX MY MZ).getD ((j ^^^ q) * pw k + i) 0 * fmZ st k (j ^^^ q) j + (tripL MX MY MZ).getD (pw k * pw k + ((i ^^^ q) * pw k + j)) 0 * fmZ st k i (i ^^^ q) + (tripL MX MY MZ).getD (2 * (pw k * pw k) + ((i ^^^ j) * pw k + q)) 0 * fmZ st k i j := h2 i j q hi hj hq
   rwa [H0 (xor_pw hj hq) hi, H1 (xor_pw hi hq) hj, H2 (xor_pw hi hj) hq] at this
 · intro h
   refine ⟨fun part i q h1 hi hq => ?_, fun i j q hi hj hq => ?_⟩
   · match part, h1 with
     | 0, h1 => exact (S 0 h1).2 h.sa i q hi hq
     | 1, h1 => exact (S 1 h1).2 h.sb i q hi hq
     | 2, h1 => exact (S 2 h1).2 h.sc i q hi hq
   · show p ∣ (tripL MX MY MZ).getD ((j ^^^ q) * pw k + i) 0 * fmZ st k (j ^^^ q) j + (tripL MX MY MZ).getD (pw k * pw k + ((i ^^^ q) * pw k + j)) 0 * fmZ st k i (i ^^^ q) + (tripL MX MY MZ).getD (2 * (pw k * pw k) + ((i ^^^ j) * pw k + q)) 0 * fmZ st k i j
     rw [H0 (xor_pw hj hq) hi, H1 (xor_pw hi hq) hj, H2 (xor_pw hi hj) hq]
     exact h.lo i j q hi hj hq
/-- The program's test of a local triple. -/
theorem loc_rows {p : Int} (hp : 0 < p) {k : Nat} {st : List Int} {MX MY MZ : List (List Int)} (tX : Tab p (pw k) MX) (tY : Tab p (pw k) MY) (tZ : Tab p (pw k) MZ) (lX : MX.length = pw k) (lY : MY.length = pw k) (lZ : MZ.length = pw k) (h : Loc p st k (ent MX) (ent MY) (ent MZ)) : ∀ row ∈ locP p k st, dotL p row (tripL MX MY MZ) = 0 := fun row hr => by
 have := orth_mem.1 ((locP_orth (p := p) k st fun q => (tripL MX MY MZ).getD q 0).2 ((loc_eq tX tY tZ lX lY lZ).2 h)) row hr
 unfold dotL
 rw [(locP_tab hp k st row hr).1]
 exact this
end Go.Proofs.YtaiegpggccdgoaaGreat
namespace Go.Proofs.YtaiegpggccdgoaaGreat
open Go Go.RowKit
set_option maxHeartbeats 3200000 in
set_option maxRecDepth 8000 in
theorem l11Left_any (p : Int) (hp : 2 ≤ p) (hp2 : p ≤ 13) (k : Nat) (hk : k ≤ 4) (A : Option Addr) (c : Nat) (st : List Int) (X : Option Addr) (cx : Nat) (xs : List Int) (w : World) (hc : k ≤ c) (ha : Rd w A k (ints st)) (hst : NumsL p st) (hx : Rd w X (pw k) (ints xs)) (hxn : NumsL p xs) (hcx : pw k ≤ cx) :
    Calls Tryz.prog 111 #[.agg #[.int .i64 p, .slice A k c], .slice X (pw k) cx] w fun e w' => ∃ A' c', e = .returned (.slice A' (pw k) c') ∧ MkII w w' A' (pw k) c' (leftDL p k st xs) := by
 have hpk : pw k ≤ 16 := pw_le hk
 have hpos := pw_pos k
 have hB0 : Below w.heap.size w (w.alloc (.cells #[.int .i64 p, .slice A k c] 26)) := zG.alloc (Nat.le_refl _) _
 have k0 : Blk (w.alloc (.cells #[.int .i64 p, .slice A k c] 26)) w.heap.size 26 #[.int .i64 p, .slice A k c] := Blk.new _ _ _
 have hB1 := hB0.alloc (by simp) (.cells #[] 24)
 have k1 := k0.alloc (.cells #[] 24)
 have hM1 : MkII w ((w.alloc (.cells #[.int .i64 p, .slice A k c] 26)).alloc (.cells #[] 24)) (some ⟨w.heap.size + 1, 0, none⟩) 0 0 [] := by
  have := MkII.empty hB0
  simpa using this
 clear k0 hB0
 go_enter Tryz.func111, Tryz.ntmps111
 go_wp2
 obtain ⟨w1, hw1⟩ : ∃ W, W = (w.alloc (.cells #[.int .i64 p, .slice A k c] 26)).alloc (.cells #[] 24) := ⟨_, rfl⟩
 rw [← hw1] at hB1 k1 hM1 ⊢
 clear hw1
 go_loopw [5, 6] (fun out i wr => ∃ (j : Nat) (A' : Option Addr) (c' : Nat), j ≤ pw k ∧ i = .int .i64 j ∧ out = .slice A' j c' ∧ MkII w wr A' j c' (tab j fun i => (dblL p k st xs (unitRow (pw k) i))) ∧ Blk wr w.heap.size 26 #[.int .i64 p, .slice A k c]) (fun _ i _ => pw k - (intOf i).toNat)
 case atStart => exact ⟨0, _, _, by omega, rfl, rfl, by simpa [tab] using hM1, k1⟩
 case round =>
  obtain ⟨j, A', c', hj, rfl, rfl, hM, k4⟩ := hrel
  clear hM1 k1
  have HA0 := Lib.hid (ha.below hM.b)
  have HX0 := Lib.hid (hx.below hM.b)
  have HM0 := Lib.hid hM
  obtain ⟨q0, q1⟩ := k4.two
  clear hM hB1
  by_cases hlt : j < pw k
  · go_wp2_with fail
    refine (l11Size_any p A k c wr (by omega)).mono ?_
    rintro e w5 ⟨rfl, hb5⟩
    have k5 := k4.below hb5 k4.lt
    have HA := Lib.hid (HA0.out.below hb5)
    have HX := Lib.hid (HX0.out.below hb5)
    have HM := Lib.hid (HM0.out.below hb5)
    clear q0 q1 hb5 k4 HA0 HX0 HM0 ha hx
    go_wp2
    refine wp_obs 8 [[],[],[],[],[],[3,4],[1,2,3,4,5],[1,2,3,4,5,6],[0,1,2,3,4,5,6,7],[0,1,2,3,4,5,6,7,8]] [VIs (.slice A' j c'), VIs (.agg #[.int .i64 p, .slice A k c]), VIs (.slice X (pw k) cx), VIs (.agg #[.int .i64 p, .slice A k c]), VIs (.int .i64 (j)), VSl w5 (pw k) (unitRow (pw k) j), VSl w5 (pw k) (dblL p k st xs (unitRow (pw k) j)), VNew w5 (pw k) (dblL p k st xs (unitRow (pw k) j))] (fun w' => Blk w' w.heap.size 26 #[.int .i64 p, .slice A k c] ∧ Below w5.heap.size w5 w') (by kernel_rfl) (by kernel_rfl) (fun _ _ h hb => ⟨h.1.below hb h.1.lt, h.2.trans (hb.mono h.2.size)⟩) (⟨k5.drew, zG.drew⟩) (fun x => ?_)
    refine zS (fun w' hS hV K hK => ?_) ?_
    · obtain ⟨q0, q1⟩ := hS.1.two; go_simp; exact zO hK
    refine zS (fun w' hS hV K hK => ?_) ?_
    · obtain ⟨q0, q1⟩ := hS.1.two; go_simp; exact zO hK
    refine zS (fun w' hS hV K hK => ?_) ?_
    · obtain ⟨q0, q1⟩ := hS.1.two; go_simp; exact zO hK
    refine zS (fun w' hS hV K hK => ?_) ?_
    · obtain ⟨q0, q1⟩ := hS.1.two; go_simp; exact zO hK
    refine zS (fun w' hS hV K hK => ?_) ?_
    · obtain ⟨q0, q1⟩ := hS.1.two; go_simp; exact zO hK
    refine zS (fun w' hS hV K hK => ?_) ?_
    · have e3 := zQ hV 3; have e4 := zQ hV 4; obtain ⟨q0, q1⟩ := hS.1.two; go_simp; refine (l11One_any p A k c j w' hk hlt).mono ?_; rintro e v1 ⟨A9, c9, rfl, hM⟩; exact hK.out _ _ _ rfl rfl ⟨_, _, rfl, hM.after hS.2⟩ hM.b
    refine zS (fun w' hS hV K hK => ?_) ?_
    · have e1 := zQ hV 1; have e2 := zQ hV 2; obtain ⟨A5, c5, e5, h5⟩ := hV 5 (by decide); obtain ⟨q0, q1⟩ := hS.1.two; go_simp; refine (l11Times_any p hp hp2 k hk A c st X cx xs A5 c5 (unitRow (pw k) j) w' hc hcx h5.2.cap (HA.out.below hS.2) hst (HX.out.below hS.2) hxn h5.rd (unitRow_nums hp _ _)).mono ?_; rintro e v1 ⟨A9, c9, rfl, hM⟩; exact hK.out _ _ _ rfl rfl ⟨_, _, rfl, hM.after hS.2⟩ hM.b
    refine zS (fun w' hS hV K hK => ?_) ?_
    · obtain ⟨A5, c5, e5, h5⟩ := hV 5 (by decide); obtain ⟨A6, c6, e6, h6⟩ := hV 6 (by decide); obtain ⟨q0, q1⟩ := hS.1.two; go_simp; exact hK.out _ _ _ rfl rfl ⟨_, _, _, rfl, Blk.new _ _ _, h6.below (zG.alloc (Nat.le_refl _) _)⟩ (zG.alloc (Nat.le_refl _) _)
    refine fun w' hS hV => ?_
    have e0 := zT hV 0
    have e1 := zT hV 1
    have e2 := zT hV 2
    have e3 := zT hV 3
    have e4 := zT hV 4
    obtain ⟨A5, c5, e5, h5⟩ := hV 5 (by decide)
    obtain ⟨A6, c6, e6, h6⟩ := hV 6 (by decide)
    obtain ⟨g7, A7, c7, e7, b7, h7⟩ := hV 7 (by decide)
    simp only [e0, e1, e2, e3, e4, e5, e6, e7]
    clear e0 e1 e2 e3 e4 e5 e6 e7
    obtain ⟨k7, s2⟩ := hS
    refine any_plain (j := 8) (by kernel_rfl) (Eq.trans (by simp only [zA, zB, zC]; exact rfl) rfl) rfl (fun K hK => ?_)
    refine wp_appRow w w5 w' _ _ rfl A' j c' _ A7 (pw k) c7 _ HM.out h7 (by omega) g7 b7 (by rfl) (by rfl) ?_
    intro A20 c20 w20 hM20 hg20 hat20
    refine hK.out _ _ ?_
    simp only [Act.put, zD, zE, zF]
    refine any_one (j := 9) (by kernel_rfl) (Eq.trans (by simp only [zA, zB, zC]; exact rfl) rfl) (fun K hK => ?_)
    go_simp
    refine hK.out _ _ (wpAny_done (by kernel_rfl) ?_ _)
    have hk8 := k7.grown hg20 ((HM.out.below s2).ne_blk k7 (by decide))
    clear k7 hat20 hg20
    go_wp2
    go_roundw
    case rel => exact ⟨j + 1, A20, c20, by omega, by go_num, rfl, by rw [tab_succ]; exact hM20, hk8⟩
    case measure => simp [intOf]; omega
  · obtain rfl : j = pw k := by omega
    go_wp2_with fail
    refine (l11Size_any p A k c wr (by omega)).mono ?_
    rintro e w5 ⟨rfl, hb5⟩
    have HM := Lib.hid (HM0.out.below hb5)
    clear q0 q1 k4
    go_wp2_with fail
    refine (l11Columns_any p A' (pw k) c' (tab (pw k) fun i => (dblL p k st xs (unitRow (pw k) i))) w5 hpos (by omega) HM.out.rd (Tab.tab fun i _ => ⟨dblL_len _ _ _ _ _, dblL_nums (by omega) _ _ _ _⟩)).mono ?_
    rintro e w7 ⟨A7, c7, rfl, hM7⟩
    go_wp2
    go_ret
    exact ⟨_, _, rfl, hM7.after HM.out.b⟩
set_option maxHeartbeats 3200000 in
set_option maxRecDepth 8000 in
theorem l11Right_any (p : Int) (hp : 2 ≤ p) (hp2 : p ≤ 13) (k : Nat) (hk : k ≤ 4) (A : Option Addr) (c : Nat) (st : List Int) (X : Option Addr) (cx : Nat) (xs : List Int) (w : World) (hc : k ≤ c) (ha : Rd w A k (ints st)) (hst : NumsL p st) (hx : Rd w X (pw k) (ints xs)) (hxn : NumsL p xs) (hcx : pw k ≤ cx) :
    Calls Tryz.prog 112 #[.agg #[.int .i64 p, .slice A k c], .slice X (pw k) cx] w fun e w' => ∃ A' c', e = .returned (.slice A' (pw k) c') ∧ MkII w w' A' (pw k) c' (rightDL p k st xs) := by
 have hpk : pw k ≤ 16 := pw_le hk
 have hpos := pw_pos k
 have hB0 : Below w.heap.size w (w.alloc (.cells #[.int .i64 p, .slice A k c] 26)) := zG.alloc (Nat.le_refl _) _
 have k0 : Blk (w.alloc (.cells #[.int .i64 p, .slice A k c] 26)) w.heap.size 26 #[.int .i64 p, .slice A k c] := Blk.new _ _ _
 have hB1 := hB0.alloc (by simp) (.cells #[] 24)
 have k1 := k0.alloc (.cells #[] 24)
 have hM1 : MkII w ((w.alloc (.cells #[.int .i64 p, .slice A k c] 26)).alloc (.cells #[] 24)) (some ⟨w.heap.size + 1, 0, none⟩) 0 0 [] := by
  have := MkII.empty hB0
  simpa using this
 clear k0 hB0
 go_enter Tryz.func112, Tryz.ntmps112
 go_wp2
 obtain ⟨w1, hw1⟩ : ∃ W, W = (w.alloc (.cells #[.int .i64 p, .slice A k c] 26)).alloc (.cells #[] 24) := ⟨_, rfl⟩
 rw [← hw1] at hB1 k1 hM1 ⊢
 clear hw1
 go_loopw [5, 6] (fun out i wr => ∃ (j : Nat) (A' : Option Addr) (c' : Nat), j ≤ pw k ∧ i = .int .i64 j ∧ out = .slice A' j c' ∧ MkII w wr A' j c' (tab j fun i => (dblL p k st (unitRow (pw k) i) xs)) ∧ Blk wr w.heap.size 26 #[.int .i64 p, .slice A k c]) (fun _ i _ => pw k - (intOf i).toNat)
 case atStart => exact ⟨0, _, _, by omega, rfl, rfl, by simpa [tab] using hM1, k1⟩
 case round =>
  obtain ⟨j, A', c', hj, rfl, rfl, hM, k4⟩ := hrel
  clear hM1 k1
  have HA0 := Lib.hid (ha.below hM.b)
  have HX0 := Lib.hid (hx.below hM.b)
  have HM0 := Lib.hid hM
  obtain ⟨q0, q1⟩ := k4.two
  clear hM hB1
  by_cases hlt : j < pw k
  · go_wp2_with fail
    refine (l11Size_any p A k c wr (by omega)).mono ?_
    rintro e w5 ⟨rfl, hb5⟩
    have k5 := k4.below hb5 k4.lt
    have HA := Lib.hid (HA0.out.below hb5)
    have HX := Lib.hid (HX0.out.below hb5)
    have HM := Lib.hid (HM0.out.below hb5)
    clear q0 q1 hb5 k4 HA0 HX0 HM0 ha hx
    go_wp2
    refine wp_obs 8 [[],[],[],[],[2,3],[],[1,2,3,4,5],[1,2,3,4,5,6],[0,1,2,3,4,5,6,7],[0,1,2,3,4,5,6,7,8]] [VIs (.slice A' j c'), VIs (.agg #[.int .i64 p, .slice A k c]), VIs (.agg #[.int .i64 p, .slice A k c]), VIs (.int .i64 (j)), VSl w5 (pw k) (unitRow (pw k) j), VIs (.slice X (pw k) cx), VSl w5 (pw k) (dblL p k st (unitRow (pw k) j) xs), VNew w5 (pw k) (dblL p k st (unitRow (pw k) j) xs)] (fun w' => Blk w' w.heap.size 26 #[.int .i64 p, .slice A k c] ∧ Below w5.heap.size w5 w') (by kernel_rfl) (by kernel_rfl) (fun _ _ h hb => ⟨h.1.below hb h.1.lt, h.2.trans (hb.mono h.2.size)⟩) (⟨k5.drew, zG.drew⟩) (fun x => ?_)
    refine zS (fun w' hS hV K hK => ?_) ?_
    · obtain ⟨q0, q1⟩ := hS.1.two; go_simp; exact zO hK
    refine zS (fun w' hS hV K hK => ?_) ?_
    · obtain ⟨q0, q1⟩ := hS.1.two; go_simp; exact zO hK
    refine zS (fun w' hS hV K hK => ?_) ?_
    · obtain ⟨q0, q1⟩ := hS.1.two; go_simp; exact zO hK
    refine zS (fun w' hS hV K hK => ?_) ?_
    · obtain ⟨q0, q1⟩ := hS.1.two; go_simp; exact zO hK
    refine zS (fun w' hS hV K hK => ?_) ?_
    · have e2 := zQ hV 2; have e3 := zQ hV 3; obtain ⟨q0, q1⟩ := hS.1.two; go_simp; refine (l11One_any p A k c j w' hk hlt).mono ?_; rintro e v1 ⟨A9, c9, rfl, hM⟩; exact hK.out _ _ _ rfl rfl ⟨_, _, rfl, hM.after hS.2⟩ hM.b
    refine zS (fun w' hS hV K hK => ?_) ?_
    · obtain ⟨q0, q1⟩ := hS.1.two; go_simp; exact zO hK
    refine zS (fun w' hS hV K hK => ?_) ?_
    · have e1 := zQ hV 1; obtain ⟨A4, c4, e4, h4⟩ := hV 4 (by decide); have e5 := zQ hV 5; obtain ⟨q0, q1⟩ := hS.1.two; go_simp; refine (l11Times_any p hp hp2 k hk A c st A4 c4 (unitRow (pw k) j) X cx xs w' hc h4.2.cap hcx (HA.out.below hS.2) hst h4.rd (unitRow_nums hp _ _) (HX.out.below hS.2) hxn).mono ?_; rintro e v1 ⟨A9, c9, rfl, hM⟩; exact hK.out _ _ _ rfl rfl ⟨_, _, rfl, hM.after hS.2⟩ hM.b
    refine zS (fun w' hS hV K hK => ?_) ?_
    · obtain ⟨A4, c4, e4, h4⟩ := hV 4 (by decide); obtain ⟨A6, c6, e6, h6⟩ := hV 6 (by decide); obtain ⟨q0, q1⟩ := hS.1.two; go_simp; exact hK.out _ _ _ rfl rfl ⟨_, _, _, rfl, Blk.new _ _ _, h6.below (zG.alloc (Nat.le_refl _) _)⟩ (zG.alloc (Nat.le_refl _) _)
    refine fun w' hS hV => ?_
    have e0 := zT hV 0
    have e1 := zT hV 1
    have e2 := zT hV 2
    have e3 := zT hV 3
    obtain ⟨A4, c4, e4, h4⟩ := hV 4 (by decide)
    have e5 := zT hV 5
    obtain ⟨A6, c6, e6, h6⟩ := hV 6 (by decide)
    obtain ⟨g7, A7, c7, e7, b7, h7⟩ := hV 7 (by decide)
    simp only [e0, e1, e2, e3, e4, e5, e6, e7]
    clear e0 e1 e2 e3 e4 e5 e6 e7
    obtain ⟨k7, s2⟩ := hS
    refine any_plain (j := 8) (by kernel_rfl) (Eq.trans (by simp only [zA, zB, zC]; exact rfl) rfl) rfl (fun K hK => ?_)
    refine wp_appRow w w5 w' _ _ rfl A' j c' _ A7 (pw k) c7 _ HM.out h7 (by omega) g7 b7 (by rfl) (by rfl) ?_
    intro A20 c20 w20 hM20 hg20 hat20
    refine hK.out _ _ ?_
    simp only [Act.put, zD, zE, zF]
    refine any_one (j := 9) (by kernel_rfl) (Eq.trans (by simp only [zA, zB, zC]; exact rfl) rfl) (fun K hK => ?_)
    go_simp
    refine hK.out _ _ (wpAny_done (by kernel_rfl) ?_ _)
    have hk8 := k7.grown hg20 ((HM.out.below s2).ne_blk k7 (by decide))
    clear k7 hat20 hg20
    go_wp2
    go_roundw
    case rel => exact ⟨j + 1, A20, c20, by omega, by go_num, rfl, by rw [tab_succ]; exact hM20, hk8⟩
    case measure => simp [intOf]; omega
  · obtain rfl : j = pw k := by omega
    go_wp2_with fail
    refine (l11Size_any p A k c wr (by omega)).mono ?_
    rintro e w5 ⟨rfl, hb5⟩
    have HM := Lib.hid (HM0.out.below hb5)
    clear q0 q1 k4
    go_wp2_with fail
    refine (l11Columns_any p A' (pw k) c' (tab (pw k) fun i => (dblL p k st (unitRow (pw k) i) xs)) w5 hpos (by omega) HM.out.rd (Tab.tab fun i _ => ⟨dblL_len _ _ _ _ _, dblL_nums (by omega) _ _ _ _⟩)).mono ?_
    rintro e w7 ⟨A7, c7, rfl, hM7⟩
    go_wp2
    go_ret
    exact ⟨_, _, rfl, hM7.after HM.out.b⟩
set_option maxHeartbeats 3200000 in
set_option maxRecDepth 8000 in
theorem l15Sum_any (p : Int) (U : Option Addr) (n cu : Nat) (U0 : List (List Int)) (A : Option Addr) (c : Nat) (M : List (List Int)) (kk : Int) (w : World) (hp : 2 ≤ p) (hp2 : p ≤ 13) (h0 : 0 < n) (hn : n ≤ 65536) (hu : RdII w U n U0) (hU : Tab p n U0) (ha : RdII w A n M) (hT : Tab p n M) (hk1 : 0 ≤ kk) (hk2 : kk ≤ 1000) :
    Calls Tryz.prog 113 #[.int .i64 p, .slice U n cu, .int .i64 kk, .slice A n c] w fun e w' => ∃ A' c', e = .returned (.slice A' n c') ∧ MkII w w' A' n c' (sumL p U0 M kk) := by
 have hM1 : MkII w (w.alloc (.cells #[] 24)) (some ⟨w.heap.size, 0, none⟩) 0 0 [] := by
  have := MkII.empty (Below.refl w.heap.size w)
  simpa using this
 obtain ⟨gu, ou, rfl, -⟩ := hu.at_ h0
 obtain ⟨gm, om, rfl, -⟩ := ha.at_ h0
 have HUL := Lib.hid hu.len
 go_enter Tryz.func113, Tryz.ntmps113
 go_wp2
 obtain ⟨w1, hw1⟩ : ∃ W, W = w.alloc (.cells #[] 24) := ⟨_, rfl⟩
 rw [← hw1] at hM1 ⊢
 clear hw1
 go_loopw [9, 10] (fun out i wr => ∃ (j : Nat) (A' : Option Addr) (c' : Nat), j ≤ n ∧ i = .int .i64 j ∧ out = .slice A' j c' ∧ MkII w wr A' j c' (tab j fun i => plusL p (U0.getD i []) (M.getD i []) kk)) (fun _ i _ => n - (intOf i).toNat)
 case atStart => exact ⟨0, _, _, by omega, rfl, rfl, by simpa [tab] using hM1⟩
 case round =>
  obtain ⟨j, A', c', hj, rfl, rfl, hM⟩ := hrel
  clear hM1
  have HM := Lib.hid hM
  by_cases hlt : j < n
  · obtain ⟨g1, o1, e1, hxu, Ru, cu1, hcu, hru, hcapu⟩ := (hu.below hM.b).at_ hlt
    obtain ⟨g2, o2, e2, hxm, Rm, cm1, hcm, hrm, hcapm⟩ := (ha.below hM.b).at_ hlt
    injection e1 with e1; injection e1 with ea eb _; subst ea; subst eb
    injection e2 with e2; injection e2 with ea eb _; subst ea; subst eb
    have lu : U0[j].length = n := (hU U0[j] (List.getElem_mem hxu)).1
    have lm : M[j].length = n := (hT M[j] (List.getElem_mem hxm)).1
    have HNU : Hid (NumsL p (U0.getD j [])) := Lib.hid (hU.row hxu).2
    have HNM : Hid (NumsL p (M.getD j [])) := Lib.hid (hT.row hxm).2
    have eu : U0[j] = U0.getD j [] := (getD_of_lt [] hxu).symm
    have em : M[j] = M.getD j [] := (getD_of_lt [] hxm).symm
    have HPS : Hid (plusL p (U0.getD j []) (scaleL p (M.getD j []) kk) 1 = plusL p (U0.getD j []) (M.getD j []) kk) := Lib.hid (plus_scale kk (by rw [← eu, ← em, lu, lm]; exact Nat.le_refl _))
    rw [lu] at hcu hru hcapu
    rw [lm] at hcm hrm hcapm
    rw [eu] at hru
    rw [em] at hrm
    have HRU := Lib.hid hru
    have HRM := Lib.hid hrm
    have HCU := Lib.hid hcu
    have HCM := Lib.hid hcm
    clear hru hrm hxu hxm lu lm eu em hM hu ha hU hT
    go_wp2
    refine wp_obs 15 [[],[],[],[],[2,3],[2,3,4],[],[],[],[],[8,9],[8,9,10],[6,7,8,9,10,11],[1,2,3,4,5,6,7,8,9,10,11,12],[1,2,3,4,5,6,7,8,9,10,11,12,13],[0,1,2,3,4,5,6,7,8,9,10,11,12,13,14],[0,1,2,3,4,5,6,7,8,9,10,11,12,13,14,15]] [VIs (.slice A' j c'), VIs (.int .i64 (p)), VIs (.slice (some ⟨gu, ou, none⟩) n cu), VIs (.int .i64 (j)), VIs (.pointer (some ⟨gu, ou + j, none⟩)), VIs (.slice Ru n cu1), VIs (.int .i64 (p)), VIs (.int .i64 (kk)), VIs (.slice (some ⟨gm, om, none⟩) n c), VIs (.int .i64 (j)), VIs (.pointer (some ⟨gm, om + j, none⟩)), VIs (.slice Rm n cm1), VSl wr n (scaleL p (M.getD j []) kk), VSl wr n (plusL p (U0.getD j []) (M.getD j []) kk), VNew wr n (plusL p (U0.getD j []) (M.getD j []) kk)] (fun w' => Below wr.heap.size wr w') (by kernel_rfl) (by kernel_rfl) (fun _ _ h hb => h.trans (hb.mono h.size)) (zG.drew) (fun x => ?_)
    refine zS (fun w' hS hV K hK => ?_) ?_
    · have q1 := (hS.cell (World.block_lt_of_cell? _ _ HCU.out)).trans HCU.out; have q2 := (hS.cell (World.block_lt_of_cell? _ _ HCM.out)).trans HCM.out; go_simp; exact zO hK
    refine zS (fun w' hS hV K hK => ?_) ?_
    · have q1 := (hS.cell (World.block_lt_of_cell? _ _ HCU.out)).trans HCU.out; have q2 := (hS.cell (World.block_lt_of_cell? _ _ HCM.out)).trans HCM.out; go_simp; exact zO hK
    refine zS (fun w' hS hV K hK => ?_) ?_
    · have q1 := (hS.cell (World.block_lt_of_cell? _ _ HCU.out)).trans HCU.out; have q2 := (hS.cell (World.block_lt_of_cell? _ _ HCM.out)).trans HCM.out; go_simp; exact zO hK
    refine zS (fun w' hS hV K hK => ?_) ?_
    · have q1 := (hS.cell (World.block_lt_of_cell? _ _ HCU.out)).trans HCU.out; have q2 := (hS.cell (World.block_lt_of_cell? _ _ HCM.out)).trans HCM.out; go_simp; exact zO hK
    refine zS (fun w' hS hV K hK => ?_) ?_
    · have e2 := zQ hV 2; have e3 := zQ hV 3; have q1 := (hS.cell (World.block_lt_of_cell? _ _ HCU.out)).trans HCU.out; have q2 := (hS.cell (World.block_lt_of_cell? _ _ HCM.out)).trans HCM.out; go_simp; exact zO hK
    refine zS (fun w' hS hV K hK => ?_) ?_
    · have e4 := zQ hV 4; have q1 := (hS.cell (World.block_lt_of_cell? _ _ HCU.out)).trans HCU.out; have q2 := (hS.cell (World.block_lt_of_cell? _ _ HCM.out)).trans HCM.out; go_simp; exact zO hK
    refine zS (fun w' hS hV K hK => ?_) ?_
    · have q1 := (hS.cell (World.block_lt_of_cell? _ _ HCU.out)).trans HCU.out; have q2 := (hS.cell (World.block_lt_of_cell? _ _ HCM.out)).trans HCM.out; go_simp; exact zO hK
    refine zS (fun w' hS hV K hK => ?_) ?_
    · have q1 := (hS.cell (World.block_lt_of_cell? _ _ HCU.out)).trans HCU.out; have q2 := (hS.cell (World.block_lt_of_cell? _ _ HCM.out)).trans HCM.out; go_simp; exact zO hK
    refine zS (fun w' hS hV K hK => ?_) ?_
    · have q1 := (hS.cell (World.block_lt_of_cell? _ _ HCU.out)).trans HCU.out; have q2 := (hS.cell (World.block_lt_of_cell? _ _ HCM.out)).trans HCM.out; go_simp; exact zO hK
    refine zS (fun w' hS hV K hK => ?_) ?_
    · have q1 := (hS.cell (World.block_lt_of_cell? _ _ HCU.out)).trans HCU.out; have q2 := (hS.cell (World.block_lt_of_cell? _ _ HCM.out)).trans HCM.out; go_simp; exact zO hK
    refine zS (fun w' hS hV K hK => ?_) ?_
    · have e8 := zQ hV 8; have e9 := zQ hV 9; have q1 := (hS.cell (World.block_lt_of_cell? _ _ HCU.out)).trans HCU.out; have q2 := (hS.cell (World.block_lt_of_cell? _ _ HCM.out)).trans HCM.out; go_simp; exact zO hK
    refine zS (fun w' hS hV K hK => ?_) ?_
    · have e10 := zQ hV 10; have q1 := (hS.cell (World.block_lt_of_cell? _ _ HCU.out)).trans HCU.out; have q2 := (hS.cell (World.block_lt_of_cell? _ _ HCM.out)).trans HCM.out; go_simp; exact zO hK
    refine zS (fun w' hS hV K hK => ?_) ?_
    · have e6 := zQ hV 6; have e7 := zQ hV 7; have e11 := zQ hV 11; have q1 := (hS.cell (World.block_lt_of_cell? _ _ HCU.out)).trans HCU.out; have q2 := (hS.cell (World.block_lt_of_cell? _ _ HCM.out)).trans HCM.out; go_simp; refine (l11Scale_any p kk Rm n cm1 (M.getD j []) w' hp hp2 (by omega) (HRM.out.below hS) HNM.out (by omega) (by omega)).mono ?_; rintro e v1 ⟨A9, c9, rfl, hM⟩; exact hK.out _ _ _ rfl rfl ⟨_, _, rfl, hM.after hS⟩ hM.b
    refine zS (fun w' hS hV K hK => ?_) ?_
    · have e1 := zQ hV 1; have e5 := zQ hV 5; obtain ⟨A12, c12, e12, h12⟩ := hV 12 (by decide); have q1 := (hS.cell (World.block_lt_of_cell? _ _ HCU.out)).trans HCU.out; have q2 := (hS.cell (World.block_lt_of_cell? _ _ HCM.out)).trans HCM.out; go_simp; refine (l11Add_any p Ru n cu1 (U0.getD j []) A12 n c12 (scaleL p (M.getD j []) kk) w' hp hp2 (by omega) (Nat.le_refl _) (HRU.out.below hS) HNU.out h12.rd (scaleL_nums (by omega) _ _)).mono ?_; rw [HPS.out]; rintro e v1 ⟨A9, c9, rfl, hM⟩; exact hK.out _ _ _ rfl rfl ⟨_, _, rfl, hM.after hS⟩ hM.b
    refine zS (fun w' hS hV K hK => ?_) ?_
    · obtain ⟨A12, c12, e12, h12⟩ := hV 12 (by decide); obtain ⟨A13, c13, e13, h13⟩ := hV 13 (by decide); have q1 := (hS.cell (World.block_lt_of_cell? _ _ HCU.out)).trans HCU.out; have q2 := (hS.cell (World.block_lt_of_cell? _ _ HCM.out)).trans HCM.out; go_simp; exact hK.out _ _ _ rfl rfl ⟨_, _, _, rfl, Blk.new _ _ _, h13.below (zG.alloc (Nat.le_refl _) _)⟩ (zG.alloc (Nat.le_refl _) _)
    refine fun w' hS hV => ?_
    have e0 := zT hV 0
    have e1 := zT hV 1
    have e2 := zT hV 2
    have e3 := zT hV 3
    have e4 := zT hV 4
    have e5 := zT hV 5
    have e6 := zT hV 6
    have e7 := zT hV 7
    have e8 := zT hV 8
    have e9 := zT hV 9
    have e10 := zT hV 10
    have e11 := zT hV 11
    obtain ⟨A12, c12, e12, h12⟩ := hV 12 (by decide)
    obtain ⟨A13, c13, e13, h13⟩ := hV 13 (by decide)
    obtain ⟨g14, A14, c14, e14, b14, h14⟩ := hV 14 (by decide)
    simp only [e0, e1, e2, e3, e4, e5, e6, e7, e8, e9, e10, e11, e12, e13, e14]
    clear e0 e1 e2 e3 e4 e5 e6 e7 e8 e9 e10 e11 e12 e13 e14
    refine any_plain (j := 15) (by kernel_rfl) (Eq.trans (by simp only [zA, zB, zC]; exact rfl) rfl) rfl (fun K hK => ?_)
    refine wp_appRow w wr w' _ _ rfl A' j c' _ A14 n c14 _ HM.out h14 (by omega) g14 b14 (by rfl) (by rfl) ?_
    intro A20 c20 w20 hM20 hg20 hat20
    refine hK.out _ _ ?_
    simp only [Act.put, zD, zE, zF]
    refine any_one (j := 16) (by kernel_rfl) (Eq.trans (by simp only [zA, zB, zC]; exact rfl) rfl) (fun K hK => ?_)
    go_simp
    refine hK.out _ _ (wpAny_done (by kernel_rfl) ?_ _)
    clear hat20 hg20
    go_wp2
    go_roundw
    case rel => exact ⟨j + 1, A20, c20, by omega, by go_num, rfl, by rw [tab_succ]; exact hM20⟩
    case measure => simp [intOf]; omega
  · obtain rfl : j = n := by omega
    go_wp2
    go_ret
    refine ⟨_, _, rfl, ?_⟩
    unfold sumL
    rw [HUL.out]
    exact hM
theorem blk3_cells {w : World} {g : Nat} {t : TypeId} {a b c : Value} (h : Blk w g t #[a, b, c]) : ∀ (j : Nat) (u : Value), ([a, b, c] : List Value)[j]? = some u → w.cell? ⟨g, 0 + j, none⟩ = some u := fun j u hu => by
 match j, hu with
 | 0, hu => simp at hu; subst hu; exact h.cell 0
 | 1, hu => simp at hu; subst hu; exact h.cell 1
 | 2, hu => simp at hu; subst hu; exact h.cell 2
section
variable {P : Program}
/-- A whole list of values is appended to one of the call's own. -/
theorem wpList_appV {ops : Array Oper} {rest : List Oper} {o : Oper} {a : Act} {Q : Exit → Act → World → Prop} (w0 wr : World) (T E : TypeId) (z : Value) (bytes : Nat)
    (ht : P.underlying T = some (.slice E)) (hinfo : (P.info? E).map (fun i => (i.zero, i.size, i.bytes)) = some (some z, 1, bytes)) (hz : z.cells.size = 1) (hby : bytes ≤ 24)
    (hgd : o.guard = none) (s x : Operand) (ho : o.op = .call { callee := .builtin .append, args := #[s, x], argTypes := #[T, T] })
    (A : Option Addr) (n c : Nat) (us : List Value) (B : Option Addr) (m d : Nat) (vs : List Value) (hM : Mk w0 wr E A n c us) (hY : Rd wr B m vs) (hv : ∀ v ∈ vs, v.oneCell' = true) (h0 : 0 < m) (hn : n ≤ 65536) (hm : m ≤ 65536)
    (hs : a.eval s = .slice A n c) (hx : a.eval x = .slice B m d)
    (h : ∀ A' c' w', Mk w0 w' E A' (n + m) c' (us ++ vs) → wr.grownBy w' (Value.slice A n c).ownBlock → wpList P ops Q rest (a.put o.dst (.slice A' (n + m) c')) w') :
    wpList P ops Q (o :: rest) a wr := by
 obtain ⟨i, hi, h1, h2, h3⟩ := info_parts hinfo
 obtain ⟨b1, b2⟩ := bound_of (show n + m ≤ 1099511627776 by omega)
 have hyl : vs.length = m := hY.1
 obtain ⟨g, o', rfl, hc⟩ := hY.2 h0
 refine wpList_append_own_at wr hgd s x T ho w0.heap.size E i z 1 bytes ht hi h1 h2 h3 hz (by omega) (.slice A n c) n us hs hM.2 ⟨g, o', none⟩ m d vs hx (by rw [hyl, Nat.mul_one]) (fun j u hu => by rw [Addr.add_lit]; exact hc j u hu) hv (by simp only [maxLen]; omega) (by have := b2 bytes hby; have h9 := Nat.mul_le_mul_right bytes (show n + m ≤ n + m + 1 by omega); omega) hM.1.size ?_
 intro v' w' hown hg _ _
 have hb' : Below w0.heap.size w0 w' := hM.1.grown hg hM.1.size (fun k hk => (hM.2.lt k hk).1)
 rcases hown.2 with ⟨_, h0⟩ | ⟨g, cap, cur, rfl, hr⟩
 · omega
 · exact h _ _ _ ⟨hb', hown⟩ hg
end
set_option maxHeartbeats 6400000 in
set_option maxRecDepth 8000 in
/-- checkTriples, of one triple of matrices. -/
theorem checkTriples1_ok (p : Int) (A : Option Addr) (k c : Nat) (st : List Int) (n g : Nat) (X : Option Addr) (cX : Nat) (MX : List (List Int)) (Y : Option Addr) (cY : Nat) (MY : List (List Int)) (Z : Option Addr) (cZ : Nat) (MZ : List (List Int)) (w : World) (hdb : isDb p st = true) (hk3 : k ≤ 3) (hn : n = pw k) (ha : Rd w A k (ints st)) (hg : Blk w g 34 #[.slice X n cX, .slice Y n cY, .slice Z n cZ]) (hX : RdII w X n MX) (tX : Tab p n MX) (bX : n ≤ cX) (hY : RdII w Y n MY) (tY : Tab p n MY) (bY : n ≤ cY) (hZ : RdII w Z n MZ) (tZ : Tab p n MZ) (bZ : n ≤ cZ) :
    Calls Tryz.prog 61 #[.agg #[.int .i64 p, .slice A k c], .slice (some ⟨g, 0, none⟩) 1 1] w fun e w' => e = .returned (.int .i64 0) ∧ Below w.heap.size w w' := by
 have hpk : pw k ≤ 8 := pw_le hk3
 have hpos := pw_pos k
 have hsl : st.length = k := ha.lenI
 rw [← hn] at hpk hpos
 have hB0 : Below w.heap.size w (w.alloc (.cells #[.int .i64 p, .slice A k c] 26)) := zG.alloc (Nat.le_refl _) _
 have k0 : Blk (w.alloc (.cells #[.int .i64 p, .slice A k c] 26)) w.heap.size 26 #[.int .i64 p, .slice A k c] := Blk.new _ _ _
 have HG1 : Hid (Blk ((w.alloc (.cells #[.int .i64 p, .slice A k c] 26)).alloc (.cells #[] 32)) g 34 #[.slice X n cX, .slice Y n cY, .slice Z n cZ]) := Lib.hid ((hg.alloc _).alloc _)
 have hM0 : Mk w ((w.alloc (.cells #[.int .i64 p, .slice A k c] 26)).alloc (.cells #[] 32)) 32 (some ⟨w.heap.size + 1, 0, none⟩) 0 0 [] := by
  have := Mk.lit (E := 32) hB0 #[] (by simp)
  simpa using this
 have k1 := k0.alloc (.cells #[] 32)
 have HCK : Hid (∀ (w' : World) (C : Option Addr) (dl : Nat), Below w.heap.size w w' → Rd w' C 3 [.slice X n cX, .slice Y n cY, .slice Z n cZ] → Calls Tryz.prog 41 #[.agg #[.int .i64 p, .slice A k c], .slice none 0 0, .slice C 3 dl] w' fun e w'' => e = .returned (.int .i64 0) ∧ Below w'.heap.size w' w'') := Lib.hid fun w' C dl hb hr => by
  have := checkThree_any p A none C k c 0 0 3 dl st [] [MX, MY, MZ] w' (by omega) (by omega) (by omega) (ha.below hb) ⟨[], Rd.nil _ _, rfl, fun k h => absurd h (by simp)⟩ (fun ys hy => absurd hy (by simp)) ⟨[.slice X n cX, .slice Y n cY, .slice Z n cZ], hr, rfl, fun i hi => by
   rcases i with _ | i
   · exact ⟨X, cX, by simp [hX.len], by simpa [hX.len] using hX.below hb, by simpa [hX.len] using bX⟩
   rcases i with _ | i
   · exact ⟨Y, cY, by simp [hY.len], by simpa [hY.len] using hY.below hb, by simpa [hY.len] using bY⟩
   rcases i with _ | i
   · exact ⟨Z, cZ, by simp [hZ.len], by simpa [hZ.len] using hZ.below hb, by simpa [hZ.len] using bZ⟩
   · simp at hi; omega⟩ (fun M hM => by
   simp at hM
   rcases hM with rfl | rfl | rfl
   · exact okM3_tab hk3 (hX.len.trans hn) (hn ▸ tX)
   · exact okM3_tab hk3 (hY.len.trans hn) (hn ▸ tY)
   · exact okM3_tab hk3 (hZ.len.trans hn) (hn ▸ tZ))
  rwa [codeT_mk hdb (by omega) (fun ys hy => absurd hy (by simp)) (fun M hM => by
   simp at hM
   rw [hsl, ← hn]
   rcases hM with rfl | rfl | rfl
   · exact ⟨hX.len, tX⟩
   · exact ⟨hY.len, tY⟩
   · exact ⟨hZ.len, tZ⟩)] at this
 obtain ⟨q0, q1⟩ := k1.two
 clear k0 hB0 hdb ha hsl hn hpk hpos hX tX bX hY tY bY hZ tZ bZ
 go_enter Tryz.func61, Tryz.ntmps61
 go_wp2
 go_loopw [5, 11] (fun out i wr => ∃ (j : Nat) (A' : Option Addr) (c' : Nat), j ≤ 1 ∧ i = .int .i64 j ∧ out = .slice A' (3 * j) c' ∧ Hid (Mk w wr 32 A' (3 * j) c' (([.slice X n cX, .slice Y n cY, .slice Z n cZ] : List Value).take (3 * j))) ∧ Blk wr w.heap.size 26 #[.int .i64 p, .slice A k c] ∧ Hid (Blk wr g 34 #[.slice X n cX, .slice Y n cY, .slice Z n cZ])) (fun _ i _ => 1 - (intOf i).toNat)
 case atStart => exact ⟨0, _, _, by omega, rfl, rfl, Lib.hid (by simpa using hM0), k1, HG1⟩
 case round =>
  obtain ⟨j, A', c', hj, rfl, rfl, HM, kr, HG⟩ := hrel
  clear hM0 k1 q0 q1 HG1
  by_cases hlt : j < 1
  · obtain rfl : j = 0 := by omega
    have q3 := HG.out.cell 0
    have q4 := HG.out.cell 1
    have q5 := HG.out.cell 2
    simp at q3 q4 q5
    have HMJ : Hid (Mk w wr 32 A' 0 c' []) := Lib.hid (by simpa using HM.out)
    have kb1 := kr.alloc (.cells #[.slice X n cX, .slice Y n cY, .slice Z n cZ] 34)
    have HMB : Hid (Mk w (wr.alloc (.cells #[.slice X n cX, .slice Y n cY, .slice Z n cZ] 34)) 32 A' 0 c' []) := Lib.hid (HMJ.out.below (zG.alloc (Nat.le_refl _) _))
    have HG2 := HG.out.alloc (.cells #[.slice X n cX, .slice Y n cY, .slice Z n cZ] 34)
    clear HM
    go_wp2_with (at_builtin; go_loud (refine wpList_appV w ((wr.alloc (.cells #[.slice X n cX, .slice Y n cY, .slice Z n cZ] 34)).alloc (.cells #[.slice X n cX, .slice Y n cY, .slice Z n cZ] 32)) _ _ _ _ rfl (info_ss) rfl (by omega) rfl _ _ rfl A' 0 c' _ (some ⟨wr.heap.size + 1, 0, none⟩) 3 3 [.slice X n cX, .slice Y n cY, .slice Z n cZ] (HMB.out.below (zG.alloc (Nat.le_refl _) _)) ⟨rfl, fun _ => ⟨wr.heap.size + 1, 0, rfl, blk3_cells (Blk.newAt3 (w := wr.alloc (.cells #[.slice X n cX, .slice Y n cY, .slice Z n cZ] 34)) (g := wr.heap.size + 1) (by simp))⟩⟩ (by intro v hv; simp at hv; rcases hv with rfl | rfl | rfl <;> rfl) (by omega) (by omega) (by omega) rfl ?_ ?_); (go_simp); intro A6 c6 w6 hM6 hg6)
    have kb2 := (kb1.alloc (.cells #[.slice X n cX, .slice Y n cY, .slice Z n cZ] 32)).grown hg6 ((HMB.out.below (zG.alloc (Nat.le_refl _) (.cells #[.slice X n cX, .slice Y n cY, .slice Z n cZ] 32))).2.ne_blk (kb1.alloc (.cells #[.slice X n cX, .slice Y n cY, .slice Z n cZ] 32)) (by decide))
    have HG3 := (HG2.alloc (.cells #[.slice X n cX, .slice Y n cY, .slice Z n cZ] 32)).grown hg6 ((HMB.out.below (zG.alloc (Nat.le_refl _) (.cells #[.slice X n cX, .slice Y n cY, .slice Z n cZ] 32))).2.ne_blk (HG2.alloc (.cells #[.slice X n cX, .slice Y n cY, .slice Z n cZ] 32)) (by decide))
    have HM6 : Hid (Mk w w6 32 A6 (3 * 1) c6 (([.slice X n cX, .slice Y n cY, .slice Z n cZ] : List Value).take (3 * 1))) := Lib.hid (by simpa using hM6)
    have HG4 := Lib.hid HG3
    clear hM6 hg6 HG3 HG2 kb1 q3 q4 q5
    go_roundw
    case rel => exact ⟨1, A6, c6, by omega, by go_num, rfl, HM6, kb2, HG4⟩
    case measure => simp [intOf]
  · obtain rfl : j = 1 := by omega
    have HMJ : Hid (Mk w wr 32 A' 3 c' [.slice X n cX, .slice Y n cY, .slice Z n cZ]) := Lib.hid (by simpa using HM.out)
    have hck := HCK.out wr A' c' HMJ.out.1 HMJ.out.rd
    obtain ⟨q0, q1⟩ := kr.two
    clear HM HG
    go_wp2_with fail
    refine hck.mono ?_
    rintro e w6 ⟨rfl, hb6⟩
    go_wp2
    go_ret
    exact ⟨rfl, HMJ.out.1.trans (hb6.mono HMJ.out.1.size)⟩
set_option maxHeartbeats 6400000 in
set_option maxRecDepth 8000 in
/-- checkTriples, of two triples of matrices. -/
theorem checkTriples2_ok (p : Int) (A : Option Addr) (k c : Nat) (st : List Int) (n g : Nat) (X : Option Addr) (cX : Nat) (MX : List (List Int)) (Y : Option Addr) (cY : Nat) (MY : List (List Int)) (Z : Option Addr) (cZ : Nat) (MZ : List (List Int)) (X2 : Option Addr) (cX2 : Nat) (MX2 : List (List Int)) (Y2 : Option Addr) (cY2 : Nat) (MY2 : List (List Int)) (Z2 : Option Addr) (cZ2 : Nat) (MZ2 : List (List Int)) (w : World) (hdb : isDb p st = true) (hk3 : k ≤ 3) (hn : n = pw k) (ha : Rd w A k (ints st)) (hg : Blk w g 34 #[.slice X n cX, .slice Y n cY, .slice Z n cZ, .slice X2 n cX2, .slice Y2 n cY2, .slice Z2 n cZ2]) (hX : RdII w X n MX) (tX : Tab p n MX) (bX : n ≤ cX) (hY : RdII w Y n MY) (tY : Tab p n MY) (bY : n ≤ cY) (hZ : RdII w Z n MZ) (tZ : Tab p n MZ) (bZ : n ≤ cZ) (hX2 : RdII w X2 n MX2) (tX2 : Tab p n MX2) (bX2 : n ≤ cX2) (hY2 : RdII w Y2 n MY2) (tY2 : Tab p n MY2) (bY2 : n ≤ cY2) (hZ2 : RdII w Z2 n MZ2) (tZ2 : Tab p n MZ2) (bZ2 : n ≤ cZ2) :
    Calls Tryz.prog 61 #[.agg #[.int .i64 p, .slice A k c], .slice (some ⟨g, 0, none⟩) 2 2] w fun e w' => e = .returned (.int .i64 0) ∧ Below w.heap.size w w' := by
 have hpk : pw k ≤ 8 := pw_le hk3
 have hpos := pw_pos k
 have hsl : st.length = k := ha.lenI
 rw [← hn] at hpk hpos
 have hB0 : Below w.heap.size w (w.alloc (.cells #[.int .i64 p, .slice A k c] 26)) := zG.alloc (Nat.le_refl _) _
 have k0 : Blk (w.alloc (.cells #[.int .i64 p, .slice A k c] 26)) w.heap.size 26 #[.int .i64 p, .slice A k c] := Blk.new _ _ _
 have HG1 : Hid (Blk ((w.alloc (.cells #[.int .i64 p, .slice A k c] 26)).alloc (.cells #[] 32)) g 34 #[.slice X n cX, .slice Y n cY, .slice Z n cZ, .slice X2 n cX2, .slice Y2 n cY2, .slice Z2 n cZ2]) := Lib.hid ((hg.alloc _).alloc _)
 have hM0 : Mk w ((w.alloc (.cells #[.int .i64 p, .slice A k c] 26)).alloc (.cells #[] 32)) 32 (some ⟨w.heap.size + 1, 0, none⟩) 0 0 [] := by
  have := Mk.lit (E := 32) hB0 #[] (by simp)
  simpa using this
 have k1 := k0.alloc (.cells #[] 32)
 have HCK : Hid (∀ (w' : World) (C : Option Addr) (dl : Nat), Below w.heap.size w w' → Rd w' C 6 [.slice X n cX, .slice Y n cY, .slice Z n cZ, .slice X2 n cX2, .slice Y2 n cY2, .slice Z2 n cZ2] → Calls Tryz.prog 41 #[.agg #[.int .i64 p, .slice A k c], .slice none 0 0, .slice C 6 dl] w' fun e w'' => e = .returned (.int .i64 0) ∧ Below w'.heap.size w' w'') := Lib.hid fun w' C dl hb hr => by
  have := checkThree_any p A none C k c 0 0 6 dl st [] [MX, MY, MZ, MX2, MY2, MZ2] w' (by omega) (by omega) (by omega) (ha.below hb) ⟨[], Rd.nil _ _, rfl, fun k h => absurd h (by simp)⟩ (fun ys hy => absurd hy (by simp)) ⟨[.slice X n cX, .slice Y n cY, .slice Z n cZ, .slice X2 n cX2, .slice Y2 n cY2, .slice Z2 n cZ2], hr, rfl, fun i hi => by
   rcases i with _ | i
   · exact ⟨X, cX, by simp [hX.len], by simpa [hX.len] using hX.below hb, by simpa [hX.len] using bX⟩
   rcases i with _ | i
   · exact ⟨Y, cY, by simp [hY.len], by simpa [hY.len] using hY.below hb, by simpa [hY.len] using bY⟩
   rcases i with _ | i
   · exact ⟨Z, cZ, by simp [hZ.len], by simpa [hZ.len] using hZ.below hb, by simpa [hZ.len] using bZ⟩
   rcases i with _ | i
   · exact ⟨X2, cX2, by simp [hX2.len], by simpa [hX2.len] using hX2.below hb, by simpa [hX2.len] using bX2⟩
   rcases i with _ | i
   · exact ⟨Y2, cY2, by simp [hY2.len], by simpa [hY2.len] using hY2.below hb, by simpa [hY2.len] using bY2⟩
   rcases i with _ | i
   · exact ⟨Z2, cZ2, by simp [hZ2.len], by simpa [hZ2.len] using hZ2.below hb, by simpa [hZ2.len] using bZ2⟩
   · simp at hi; omega⟩ (fun M hM => by
   simp at hM
   rcases hM with rfl | rfl | rfl | rfl | rfl | rfl
   · exact okM3_tab hk3 (hX.len.trans hn) (hn ▸ tX)
   · exact okM3_tab hk3 (hY.len.trans hn) (hn ▸ tY)
   · exact okM3_tab hk3 (hZ.len.trans hn) (hn ▸ tZ)
   · exact okM3_tab hk3 (hX2.len.trans hn) (hn ▸ tX2)
   · exact okM3_tab hk3 (hY2.len.trans hn) (hn ▸ tY2)
   · exact okM3_tab hk3 (hZ2.len.trans hn) (hn ▸ tZ2))
  rwa [codeT_mk hdb (by omega) (fun ys hy => absurd hy (by simp)) (fun M hM => by
   simp at hM
   rw [hsl, ← hn]
   rcases hM with rfl | rfl | rfl | rfl | rfl | rfl
   · exact ⟨hX.len, tX⟩
   · exact ⟨hY.len, tY⟩
   · exact ⟨hZ.len, tZ⟩
   · exact ⟨hX2.len, tX2⟩
   · exact ⟨hY2.len, tY2⟩
   · exact ⟨hZ2.len, tZ2⟩)] at this
 obtain ⟨q0, q1⟩ := k1.two
 clear k0 hB0 hdb ha hsl hn hpk hpos hX tX bX hY tY bY hZ tZ bZ hX2 tX2 bX2 hY2 tY2 bY2 hZ2 tZ2 bZ2
 go_enter Tryz.func61, Tryz.ntmps61
 go_wp2
 go_loopw [5, 11] (fun out i wr => ∃ (j : Nat) (A' : Option Addr) (c' : Nat), j ≤ 2 ∧ i = .int .i64 j ∧ out = .slice A' (3 * j) c' ∧ Hid (Mk w wr 32 A' (3 * j) c' (([.slice X n cX, .slice Y n cY, .slice Z n cZ, .slice X2 n cX2, .slice Y2 n cY2, .slice Z2 n cZ2] : List Value).take (3 * j))) ∧ Blk wr w.heap.size 26 #[.int .i64 p, .slice A k c] ∧ Hid (Blk wr g 34 #[.slice X n cX, .slice Y n cY, .slice Z n cZ, .slice X2 n cX2, .slice Y2 n cY2, .slice Z2 n cZ2])) (fun _ i _ => 2 - (intOf i).toNat)
 case atStart => exact ⟨0, _, _, by omega, rfl, rfl, Lib.hid (by simpa using hM0), k1, HG1⟩
 case round =>
  obtain ⟨j, A', c', hj, rfl, rfl, HM, kr, HG⟩ := hrel
  clear hM0 k1 q0 q1 HG1
  by_cases hlt : j < 2
  · rcases (show j = 0 ∨ j = 1 by omega) with rfl | rfl
    · have q3 := HG.out.cell 0
      have q4 := HG.out.cell 1
      have q5 := HG.out.cell 2
      simp at q3 q4 q5
      have HMJ : Hid (Mk w wr 32 A' 0 c' []) := Lib.hid (by simpa using HM.out)
      have kb1 := kr.alloc (.cells #[.slice X n cX, .slice Y n cY, .slice Z n cZ] 34)
      have HMB : Hid (Mk w (wr.alloc (.cells #[.slice X n cX, .slice Y n cY, .slice Z n cZ] 34)) 32 A' 0 c' []) := Lib.hid (HMJ.out.below (zG.alloc (Nat.le_refl _) _))
      have HG2 := HG.out.alloc (.cells #[.slice X n cX, .slice Y n cY, .slice Z n cZ] 34)
      clear HM
      go_wp2_with (at_builtin; go_loud (refine wpList_appV w ((wr.alloc (.cells #[.slice X n cX, .slice Y n cY, .slice Z n cZ] 34)).alloc (.cells #[.slice X n cX, .slice Y n cY, .slice Z n cZ] 32)) _ _ _ _ rfl (info_ss) rfl (by omega) rfl _ _ rfl A' 0 c' _ (some ⟨wr.heap.size + 1, 0, none⟩) 3 3 [.slice X n cX, .slice Y n cY, .slice Z n cZ] (HMB.out.below (zG.alloc (Nat.le_refl _) _)) ⟨rfl, fun _ => ⟨wr.heap.size + 1, 0, rfl, blk3_cells (Blk.newAt3 (w := wr.alloc (.cells #[.slice X n cX, .slice Y n cY, .slice Z n cZ] 34)) (g := wr.heap.size + 1) (by simp))⟩⟩ (by intro v hv; simp at hv; rcases hv with rfl | rfl | rfl <;> rfl) (by omega) (by omega) (by omega) rfl ?_ ?_); (go_simp); intro A6 c6 w6 hM6 hg6)
      have kb2 := (kb1.alloc (.cells #[.slice X n cX, .slice Y n cY, .slice Z n cZ] 32)).grown hg6 ((HMB.out.below (zG.alloc (Nat.le_refl _) (.cells #[.slice X n cX, .slice Y n cY, .slice Z n cZ] 32))).2.ne_blk (kb1.alloc (.cells #[.slice X n cX, .slice Y n cY, .slice Z n cZ] 32)) (by decide))
      have HG3 := (HG2.alloc (.cells #[.slice X n cX, .slice Y n cY, .slice Z n cZ] 32)).grown hg6 ((HMB.out.below (zG.alloc (Nat.le_refl _) (.cells #[.slice X n cX, .slice Y n cY, .slice Z n cZ] 32))).2.ne_blk (HG2.alloc (.cells #[.slice X n cX, .slice Y n cY, .slice Z n cZ] 32)) (by decide))
      have HM6 : Hid (Mk w w6 32 A6 (3 * 1) c6 (([.slice X n cX, .slice Y n cY, .slice Z n cZ, .slice X2 n cX2, .slice Y2 n cY2, .slice Z2 n cZ2] : List Value).take (3 * 1))) := Lib.hid (by simpa using hM6)
      have HG4 := Lib.hid HG3
      clear hM6 hg6 HG3 HG2 kb1 q3 q4 q5
      go_roundw
      case rel => exact ⟨1, A6, c6, by omega, by go_num, rfl, HM6, kb2, HG4⟩
      case measure => simp [intOf]
    · have q3 := HG.out.cell 3
      have q4 := HG.out.cell 4
      have q5 := HG.out.cell 5
      simp at q3 q4 q5
      have HMJ : Hid (Mk w wr 32 A' 3 c' [.slice X n cX, .slice Y n cY, .slice Z n cZ]) := Lib.hid (by simpa using HM.out)
      have kb1 := kr.alloc (.cells #[.slice X2 n cX2, .slice Y2 n cY2, .slice Z2 n cZ2] 34)
      have HMB : Hid (Mk w (wr.alloc (.cells #[.slice X2 n cX2, .slice Y2 n cY2, .slice Z2 n cZ2] 34)) 32 A' 3 c' [.slice X n cX, .slice Y n cY, .slice Z n cZ]) := Lib.hid (HMJ.out.below (zG.alloc (Nat.le_refl _) _))
      have HG2 := HG.out.alloc (.cells #[.slice X2 n cX2, .slice Y2 n cY2, .slice Z2 n cZ2] 34)
      clear HM
      go_wp2_with (at_builtin; go_loud (refine wpList_appV w ((wr.alloc (.cells #[.slice X2 n cX2, .slice Y2 n cY2, .slice Z2 n cZ2] 34)).alloc (.cells #[.slice X2 n cX2, .slice Y2 n cY2, .slice Z2 n cZ2] 32)) _ _ _ _ rfl (info_ss) rfl (by omega) rfl _ _ rfl A' 3 c' _ (some ⟨wr.heap.size + 1, 0, none⟩) 3 3 [.slice X2 n cX2, .slice Y2 n cY2, .slice Z2 n cZ2] (HMB.out.below (zG.alloc (Nat.le_refl _) _)) ⟨rfl, fun _ => ⟨wr.heap.size + 1, 0, rfl, blk3_cells (Blk.newAt3 (w := wr.alloc (.cells #[.slice X2 n cX2, .slice Y2 n cY2, .slice Z2 n cZ2] 34)) (g := wr.heap.size + 1) (by simp))⟩⟩ (by intro v hv; simp at hv; rcases hv with rfl | rfl | rfl <;> rfl) (by omega) (by omega) (by omega) rfl ?_ ?_); (go_simp); intro A6 c6 w6 hM6 hg6)
      have kb2 := (kb1.alloc (.cells #[.slice X2 n cX2, .slice Y2 n cY2, .slice Z2 n cZ2] 32)).grown hg6 ((HMB.out.below (zG.alloc (Nat.le_refl _) (.cells #[.slice X2 n cX2, .slice Y2 n cY2, .slice Z2 n cZ2] 32))).2.ne_blk (kb1.alloc (.cells #[.slice X2 n cX2, .slice Y2 n cY2, .slice Z2 n cZ2] 32)) (by decide))
      have HG3 := (HG2.alloc (.cells #[.slice X2 n cX2, .slice Y2 n cY2, .slice Z2 n cZ2] 32)).grown hg6 ((HMB.out.below (zG.alloc (Nat.le_refl _) (.cells #[.slice X2 n cX2, .slice Y2 n cY2, .slice Z2 n cZ2] 32))).2.ne_blk (HG2.alloc (.cells #[.slice X2 n cX2, .slice Y2 n cY2, .slice Z2 n cZ2] 32)) (by decide))
      have HM6 : Hid (Mk w w6 32 A6 (3 * 2) c6 (([.slice X n cX, .slice Y n cY, .slice Z n cZ, .slice X2 n cX2, .slice Y2 n cY2, .slice Z2 n cZ2] : List Value).take (3 * 2))) := Lib.hid (by simpa using hM6)
      have HG4 := Lib.hid HG3
      clear hM6 hg6 HG3 HG2 kb1 q3 q4 q5
      go_roundw
      case rel => exact ⟨2, A6, c6, by omega, by go_num, rfl, HM6, kb2, HG4⟩
      case measure => simp [intOf]
  · obtain rfl : j = 2 := by omega
    have HMJ : Hid (Mk w wr 32 A' 6 c' [.slice X n cX, .slice Y n cY, .slice Z n cZ, .slice X2 n cX2, .slice Y2 n cY2, .slice Z2 n cZ2]) := Lib.hid (by simpa using HM.out)
    have hck := HCK.out wr A' c' HMJ.out.1 HMJ.out.rd
    obtain ⟨q0, q1⟩ := kr.two
    clear HM HG
    go_wp2_with fail
    refine hck.mono ?_
    rintro e w6 ⟨rfl, hb6⟩
    go_wp2
    go_ret
    exact ⟨rfl, HMJ.out.1.trans (hb6.mono HMJ.out.1.size)⟩
theorem tab_flatten {p : Int} {n : Nat} : ∀ {M : List (List Int)}, Tab p n M → M.flatten.length = M.length * n
 | [], _ => by simp
 | x :: M, h => by
  rw [List.flatten_cons, List.length_append, (h x (by simp)).1, tab_flatten (M := M) fun y hy => h y (by simp [hy]), List.length_cons, Nat.add_mul]; omega
/-- Three matrices that a call returned. -/
def TripW (w w' : World) (n : Nat) (A1 : Option Addr) (c1 : Nat) (M1 : List (List Int)) (A2 : Option Addr) (c2 : Nat) (M2 : List (List Int)) (A3 : Option Addr) (c3 : Nat) (M3 : List (List Int)) : Prop :=
 OwnII w' w.heap.size A1 n c1 M1 ∧ OwnII w' w.heap.size A2 n c2 M2 ∧ OwnII w' w.heap.size A3 n c3 M3 ∧ Below w.heap.size w w'
theorem OwnII.cap {w : World} {B : Nat} {A : Option Addr} {n c : Nat} {L : List (List Int)} (h : OwnII w B A n c L) : n ≤ c := by
 obtain ⟨rows, ho, -⟩ := h; exact ho.cap
theorem OwnII.base {w : World} {B B' : Nat} {A : Option Addr} {n c : Nat} {L : List (List Int)} (h : OwnII w B A n c L) (hb : B' ≤ B) : OwnII w B' A n c L := by
 obtain ⟨rows, ho, hn⟩ := h; exact ⟨rows, ho.base hb, hn.base hb⟩
theorem TripW.below {w w' w2 : World} {n : Nat} {A1 A2 A3 : Option Addr} {c1 c2 c3 : Nat} {M1 M2 M3 : List (List Int)} (h : TripW w w' n A1 c1 M1 A2 c2 M2 A3 c3 M3) (hb : Below w'.heap.size w' w2) : TripW w w2 n A1 c1 M1 A2 c2 M2 A3 c3 M3 := by
 obtain ⟨h1, h2, h3, h7⟩ := h
 exact ⟨h1.below hb, h2.below hb, h3.below hb, h7.trans (hb.mono h7.size)⟩
theorem OwnII.far {w : World} {B g : Nat} {t : TypeId} {cs : Array Value} {A : Option Addr} {n c : Nat} {L : List (List Int)} (h : OwnII w B A n c L) (k : Blk w g t cs) (h1 : 24 ≠ t) (h2 : 2 ≠ t) (i : Nat) (u : Value) : OwnII (w.setCell ⟨g, i, none⟩ u) B A n c L := by
 obtain ⟨rows, ho, hn⟩ := h
 exact ⟨rows, ho.far k h1 i u, hn.len, fun j hj => by obtain ⟨A', c', e, hr⟩ := hn.row j hj; exact ⟨A', c', e, hr.far k h2 i u⟩, hn.apart⟩
/-- The store of a triple into the result's cell. -/
def RelT (res : Nat) (w w' : World) : Prop := ∃ a b d x y z, Blk w res 34 #[a, b, d] ∧ w' = ((w.setCell ⟨res, 0, none⟩ x).setCell ⟨res, 1, none⟩ y).setCell ⟨res, 2, none⟩ z
theorem Blk.relT {w w' : World} {res b : Nat} {t : TypeId} {cs : Array Value} (h : Blk w b t cs) (hne : b ≠ res) (r : RelT res w w') : Blk w' b t cs := by
 obtain ⟨a, b, d, x, y, z, k, rfl⟩ := r
 exact ((h.far hne _).far hne _).far hne _
theorem below_relT {w0 w w' : World} {B res : Nat} (h : Below B w0 w) (hres : B ≤ res) (r : RelT res w w') : Below B w0 w' := by
 obtain ⟨a, b, d, x, y, z, k, rfl⟩ := r
 exact ((h.setCell (p := ⟨res, 0, none⟩) hres _).setCell (p := ⟨res, 1, none⟩) hres _).setCell (p := ⟨res, 2, none⟩) hres _
def SBt (res : Nat) (w : World) : Prop := ∃ a b d, Blk w res 34 #[a, b, d]
theorem SBt.below {w w' : World} {res : Nat} (h : SBt res w) (hb : Below w.heap.size w w') : SBt res w' := by obtain ⟨a, b, d, k⟩ := h; exact ⟨a, b, d, k.below hb k.lt⟩
theorem Blk.storedT {w : World} {res : Nat} {x y z a b d : Value} (k : Blk w res 34 #[a, b, d]) : Blk (((w.setCell ⟨res, 0, none⟩ x).setCell ⟨res, 1, none⟩ y).setCell ⟨res, 2, none⟩ z) res 34 #[x, y, z] := by
 simpa using ((k.set_ 0 x).set_ 1 y).set_ 2 z
theorem SBt.relT {w w' : World} {res : Nat} (_h : SBt res w) (r : RelT res w w') : SBt res w' := by
 obtain ⟨a, b, d, x, y, z, k, rfl⟩ := r
 exact ⟨_, _, _, k.storedT⟩
theorem OwnII.set3 {w' : World} {B n : Nat} {A : Option Addr} {c : Nat} {M : List (List Int)} (h : OwnII w' B A n c M) {res : Nat} {a b d x y z : Value} (k : Blk w' res 34 #[a, b, d]) : OwnII (((w'.setCell ⟨res, 0, none⟩ x).setCell ⟨res, 1, none⟩ y).setCell ⟨res, 2, none⟩ z) B A n c M :=
 ((h.far k (by decide) (by decide) 0 x).far (k.set_ 0 x) (by decide) (by decide) 1 y).far ((k.set_ 0 x).set_ 1 y) (by decide) (by decide) 2 z
theorem TripW.stored {w w' : World} {n : Nat} {A1 A2 A3 : Option Addr} {c1 c2 c3 : Nat} {M1 M2 M3 : List (List Int)} (h1 : MkII w w' A1 n c1 M1) (h2 : MkII w w' A2 n c2 M2) (h3 : MkII w w' A3 n c3 M3) {res : Nat} {a b d x y z : Value} (k : Blk w' res 34 #[a, b, d]) (hb : Below w.heap.size w w') (hr : w.heap.size ≤ res) :
    TripW w (((w'.setCell ⟨res, 0, none⟩ x).setCell ⟨res, 1, none⟩ y).setCell ⟨res, 2, none⟩ z) n A1 c1 M1 A2 c2 M2 A3 c3 M3 :=
 ⟨h1.own.set3 k, h2.own.set3 k, h3.own.set3 k, below_relT hb hr ⟨_, _, _, _, _, _, k, rfl⟩⟩
theorem TripW.stored2 {w w1 w' : World} {n : Nat} {A1 A2 A3 : Option Addr} {c1 c2 c3 : Nat} {M1 M2 M3 : List (List Int)} (h : TripW w1 w' n A1 c1 M1 A2 c2 M2 A3 c3 M3) {res : Nat} {a b d x y z : Value} (k : Blk w' res 34 #[a, b, d]) (hb : Below w.heap.size w w1) (hr : w.heap.size ≤ res) :
    TripW w (((w'.setCell ⟨res, 0, none⟩ x).setCell ⟨res, 1, none⟩ y).setCell ⟨res, 2, none⟩ z) n A1 c1 M1 A2 c2 M2 A3 c3 M3 := by
 obtain ⟨h1, h2, h3, h7⟩ := h
 exact ⟨(h1.base hb.size).set3 k, (h2.base hb.size).set3 k, (h3.base hb.size).set3 k, below_relT (hb.trans (h7.mono hb.size)) hr ⟨_, _, _, _, _, _, k, rfl⟩⟩
/-- A triple of matrices that has been built. -/
def VTv (w0 : World) (n : Nat) (M1 M2 M3 : List (List Int)) : VP := ⟨fun v w => ∃ A1 c1 A2 c2 A3 c3, v = .agg #[.slice A1 n c1, .slice A2 n c2, .slice A3 n c3] ∧ MkII w0 w A1 n c1 M1 ∧ MkII w0 w A2 n c2 M2 ∧ MkII w0 w A3 n c3 M3, fun _ _ _ ⟨A1, c1, A2, c2, A3, c3, e, h1, h2, h3⟩ hb => ⟨A1, c1, A2, c2, A3, c3, e, h1.below hb, h2.below hb, h3.below hb⟩⟩
/-- A triple of matrices that has been stored. -/
def VTs (w0 : World) (res n : Nat) (M1 M2 M3 : List (List Int)) (v0 : Value) : VP := ⟨fun _ w => ∃ A1 c1 A2 c2 A3 c3, v0 = .agg #[.slice A1 n c1, .slice A2 n c2, .slice A3 n c3] ∧ Blk w res 34 #[.slice A1 n c1, .slice A2 n c2, .slice A3 n c3] ∧ TripW w0 w n A1 c1 M1 A2 c2 M2 A3 c3 M3, fun _ _ _ ⟨A1, c1, A2, c2, A3, c3, e, h1, h2⟩ hb => ⟨A1, c1, A2, c2, A3, c3, e, h1.below hb h1.lt, h2.below hb⟩⟩
set_option maxHeartbeats 6400000 in
set_option maxRecDepth 8000 in
/-- IsLocalTriple, of a local triple. -/
theorem IsLocalTriple_ok (p : Int) (A : Option Addr) (k c : Nat) (st : List Int) (n : Nat) (X : Option Addr) (cX : Nat) (MX : List (List Int)) (Y : Option Addr) (cY : Nat) (MY : List (List Int)) (Z : Option Addr) (cZ : Nat) (MZ : List (List Int)) (w : World) (hdb : isDb p st = true) (hk3 : k ≤ 3) (hn : n = pw k) (hc : k ≤ c) (ha : Rd w A k (ints st)) (hX : RdII w X n MX) (tX : Tab p n MX) (bX : n ≤ cX) (hY : RdII w Y n MY) (tY : Tab p n MY) (bY : n ≤ cY) (hZ : RdII w Z n MZ) (tZ : Tab p n MZ) (bZ : n ≤ cZ) (hloc : ∀ row ∈ locP p k st, dotL p row (tripL MX MY MZ) = 0) :
    Calls Tryz.prog 19 #[.agg #[.int .i64 p, .slice A k c], .agg #[.slice X n cX, .slice Y n cY, .slice Z n cZ]] w fun e w' => e = .returned (.tuple #[.bool true, .int .i64 0]) ∧ Below w.heap.size w w' := by
 obtain ⟨HP, -, hst⟩ := isDb_facts hdb
 obtain ⟨hp3, hp2⟩ := isP_ge HP
 have hp : 2 ≤ p := by omega
 have hpk : pw k ≤ 8 := pw_le hk3
 have hpos := pw_pos k
 obtain ⟨wB, hwB⟩ : ∃ W, W = (((w.alloc (.cells #[.int .i64 p, .slice A k c] 26)).alloc (.cells #[.slice X n cX, .slice Y n cY, .slice Z n cZ] 34)).alloc (.cells #[.slice X n cX, .slice Y n cY, .slice Z n cZ] 34)) := ⟨_, rfl⟩
 have hBB : Below w.heap.size w wB := by rw [hwB]; exact ((((Below.refl w.heap.size w).alloc (by simp; try omega) (.cells #[.int .i64 p, .slice A k c] 26)).alloc (by simp; try omega) (.cells #[.slice X n cX, .slice Y n cY, .slice Z n cZ] 34)).alloc (by simp; try omega) (.cells #[.slice X n cX, .slice Y n cY, .slice Z n cZ] 34))
 have kb0 : Blk wB (w.heap.size) 26 #[.int .i64 p, .slice A k c] := by rw [hwB]; exact (((Blk.newAt3 (w := w) (g := w.heap.size) (t := 26) (cs := #[.int .i64 p, .slice A k c]) (by simp)).alloc (.cells #[.slice X n cX, .slice Y n cY, .slice Z n cZ] 34)).alloc (.cells #[.slice X n cX, .slice Y n cY, .slice Z n cZ] 34))
 have kb1 : Blk wB (w.heap.size + 1) 34 #[.slice X n cX, .slice Y n cY, .slice Z n cZ] := by rw [hwB]; exact ((Blk.newAt3 (w := (w.alloc (.cells #[.int .i64 p, .slice A k c] 26))) (g := w.heap.size + 1) (t := 34) (cs := #[.slice X n cX, .slice Y n cY, .slice Z n cZ]) (by simp)).alloc (.cells #[.slice X n cX, .slice Y n cY, .slice Z n cZ] 34))
 have kb2 : Blk wB (w.heap.size + 1 + 1) 34 #[.slice X n cX, .slice Y n cY, .slice Z n cZ] := by rw [hwB]; exact (Blk.newAt3 (w := ((w.alloc (.cells #[.int .i64 p, .slice A k c] 26)).alloc (.cells #[.slice X n cX, .slice Y n cY, .slice Z n cZ] 34))) (g := w.heap.size + 1 + 1) (t := 34) (cs := #[.slice X n cX, .slice Y n cY, .slice Z n cZ]) (by simp))
 have HWB := Lib.hid hwB
 have hck := checkTriples1_ok p A k c st n (w.heap.size + 1 + 1) X cX MX Y cY MY Z cZ MZ wB hdb hk3 hn (ha.below hBB) kb2 (hX.below hBB) tX bX (hY.below hBB) tY bY (hZ.below hBB) tZ bZ
 have htl := fun w' (h : Below w.heap.size w w') => tripleList_any n X Y Z cX cY cZ MX MY MZ w' (hX.below h) (hY.below h) (hZ.below h) (by omega) (by omega) p tX tY tZ
 have hlr := fun w' (h : Below w.heap.size w w') => localRows_any p hp hp2 k (by omega) A c st w' hk3 hc (ha.below h) hst
 have htn : NumsL p (tripL MX MY MZ) := fun v hv => by
  unfold tripL at hv
  obtain ⟨r, hr, hvr⟩ := List.mem_flatten.1 hv
  exact ((tX.append (tY.append tZ)) r hr).2 v hvr
 have hlen : (tripL MX MY MZ).length = 3 * (n * n) := by
  unfold tripL
  rw [tab_flatten (tX.append (tY.append tZ)), List.length_append, List.length_append, hX.len, hY.len, hZ.len, show n + (n + n) = 3 * n by omega, Nat.mul_assoc]
 have hlpt := locP_tab (p := p) (by omega) k st
 rw [← hn] at hlpt
 obtain ⟨N, hN⟩ : ∃ N, N = 3 * (n * n) := ⟨_, rfl⟩
 have hN192 : N ≤ 192 := by rw [hN]; have := Nat.mul_le_mul (show n ≤ 8 by omega) (show n ≤ 8 by omega); omega
 rw [← hN] at hlpt hlen
 obtain ⟨V, hV⟩ : ∃ V, V = tripL MX MY MZ := ⟨_, rfl⟩
 rw [← hV] at hloc htl htn hlen
 rw [hlen] at htl
 obtain ⟨LP, hLP⟩ : ∃ z, z = locP p k st := ⟨_, rfl⟩
 rw [← hLP] at hlr hlpt hloc
 have HTL := Lib.hid htl
 have HLR := Lib.hid hlr
 have HTN := Lib.hid htn
 have HLT := Lib.hid hlpt
 have HLOC := Lib.hid hloc
 have HBB := Lib.hid hBB
 have e0 := kb0.cell 0
 have e1 := kb0.cell 1
 have e2 := kb1.cell 0
 have e3 := kb1.cell 1
 have e4 := kb1.cell 2
 simp at e0 e1 e2 e3 e4
 rw [hwB] at e0 e1 e2 e3 e4
 clear htl hlr htn hlpt hloc hlen hV hLP hN hwB hBB hdb HP hst ha hn hpk hpos hX hY hZ tX tY tZ bX bY bZ kb2
 go_enter Tryz.func19, Tryz.ntmps19
 go_wp2_with fail
 rw [← HWB.out]
 refine hck.mono ?_
 rintro e w2 ⟨rfl, hb2⟩
 have HB2 := Lib.hid (HBB.out.trans (hb2.mono HBB.out.size))
 have k0 := kb0.below hb2 kb0.lt
 have k1 := kb1.below hb2 kb1.lt
 clear hck hb2 kb0 kb1 e0 e1 e2 e3 e4
 obtain ⟨q0, q1⟩ := k0.two
 have q2 := k1.cell 0
 have q3 := k1.cell 1
 have q4 := k1.cell 2
 simp at q2 q3 q4
 go_wp2_with fail
 refine (HTL.out _ HB2.out).mono ?_
 rintro e w3 ⟨A3, c3, rfl, hM3⟩
 have HB3 := Lib.hid (HB2.out.trans (hM3.b.mono HB2.out.size))
 have hB4 : Below w3.heap.size w3 (w3.alloc (.cells #[.slice A3 N c3] 24)) := zG.alloc (Nat.le_refl _) _
 have HM3 := Lib.hid (hM3.rd.below hB4)
 have k4 := ((k0.below hM3.b k0.lt).alloc (.cells #[.slice A3 N c3] 24))
 have kl : Blk (w3.alloc (.cells #[.slice A3 N c3] 24)) w3.heap.size 24 #[.slice A3 N c3] := Blk.new _ _ _
 have HB4 := Lib.hid (HB3.out.trans (hB4.mono HB3.out.size))
 clear hM3 hB4 q0 q1 q2 q3 q4 k1 k0
 obtain ⟨q0, q1⟩ := k4.two
 go_wp2_with fail
 refine (HLR.out _ HB4.out).mono ?_
 rintro e w5 ⟨A5, c5, t5, ht5, rfl, hM5⟩
 have k5 := k4.below hM5.b k4.lt
 have kl5 := kl.below hM5.b kl.lt
 have HV5 := Lib.hid (HM3.out.below hM5.b)
 have HB5 := Lib.hid (HB4.out.trans (hM5.b.mono HB4.out.size))
 have hcf := ContainsFunc2_any 67 ⟨w.heap.size, 0, none⟩ ⟨w3.heap.size, 0, none⟩ (fun row => dotL p row V != 0) (fun row => row.length = N ∧ NumsL p row) A5 t5 c5 LP w5 (by omega) hM5.rd (fun row hr => HLT.out row hr) (fun w' R m cr row hb hr hok => by
  have hm : m = N := by have := hr.lenI; omega
  subst hm
  have := localAt_any p hp hp2 A k c w.heap.size w3.heap.size A3 m c3 V R cr row w' (by omega) (k5.below hb k5.lt) (kl5.below hb kl5.lt) (HV5.out.below hb) HTN.out hr hok.2
  simpa using this) (fun _ _ => rfl)
 have hany : (LP.any fun row => dotL p row V != 0) = false := by
  rw [List.any_eq_false]
  intro row hr
  rw [HLOC.out row hr]
  simp
 rw [hany] at hcf
 clear hany hM5 q0 q1 k4 kl
 obtain ⟨q0, q1⟩ := k5.two
 go_wp2_with fail
 refine hcf.mono ?_
 rintro e w6 ⟨rfl, hb6⟩
 go_wp2
 go_ret2
 exact ⟨rfl, HB5.out.trans (hb6.mono HB5.out.size)⟩
set_option maxHeartbeats 3200000 in
set_option maxRecDepth 8000 in
/-- Equal triples. -/
theorem triple9_ok (n : Nat) (X Y Z X2 Y2 Z2 : Option Addr) (cX cY cZ cX2 cY2 cZ2 : Nat) (MX MY MZ : List (List Int)) (w : World) (hn8 : n ≤ 8) (p : Int) (tX : Tab p n MX) (tY : Tab p n MY) (tZ : Tab p n MZ) (hX : RdII w X n MX) (hY : RdII w Y n MY) (hZ : RdII w Z n MZ) (hX2 : RdII w X2 n MX) (hY2 : RdII w Y2 n MY) (hZ2 : RdII w Z2 n MZ) :
    Calls Tryz.prog 13 #[.agg #[.slice X n cX, .slice Y n cY, .slice Z n cZ], .agg #[.slice X2 n cX2, .slice Y2 n cY2, .slice Z2 n cZ2]] w fun e w' => e = .returned (.bool true) ∧ Below w.heap.size w w' := by
 obtain ⟨wB, hwB⟩ : ∃ W, W = ((w.alloc (.cells #[.slice X n cX, .slice Y n cY, .slice Z n cZ] 34)).alloc (.cells #[.slice X2 n cX2, .slice Y2 n cY2, .slice Z2 n cZ2] 34)) := ⟨_, rfl⟩
 have hBB : Below w.heap.size w wB := by rw [hwB]; exact (((Below.refl w.heap.size w).alloc (by simp; try omega) (.cells #[.slice X n cX, .slice Y n cY, .slice Z n cZ] 34)).alloc (by simp; try omega) (.cells #[.slice X2 n cX2, .slice Y2 n cY2, .slice Z2 n cZ2] 34))
 have kb0 : Blk wB (w.heap.size) 34 #[.slice X n cX, .slice Y n cY, .slice Z n cZ] := by rw [hwB]; exact ((Blk.newAt3 (w := w) (g := w.heap.size) (t := 34) (cs := #[.slice X n cX, .slice Y n cY, .slice Z n cZ]) (by simp)).alloc (.cells #[.slice X2 n cX2, .slice Y2 n cY2, .slice Z2 n cZ2] 34))
 have kb1 : Blk wB (w.heap.size + 1) 34 #[.slice X2 n cX2, .slice Y2 n cY2, .slice Z2 n cZ2] := by rw [hwB]; exact (Blk.newAt3 (w := (w.alloc (.cells #[.slice X n cX, .slice Y n cY, .slice Z n cZ] 34))) (g := w.heap.size + 1) (t := 34) (cs := #[.slice X2 n cX2, .slice Y2 n cY2, .slice Z2 n cZ2]) (by simp))
 have hs := fun (w' : World) (X X2 : Option Addr) (cX cX2 : Nat) (M : List (List Int)) (hb : Below w.heap.size w w') (t : Tab p n M) (h : RdII w X n M) (h2 : RdII w X2 n M) => same9_ok X X2 n cX cX2 M w' (by omega) (fun x hx => by rw [(t x hx).1]; omega) (h.below hb) (h2.below hb)
 have HS1 := Lib.hid fun w' hb => hs w' X X2 cX cX2 MX hb tX hX hX2
 have HS2 := Lib.hid fun w' hb => hs w' Y Y2 cY cY2 MY hb tY hY hY2
 have HS3 := Lib.hid fun w' hb => hs w' Z Z2 cZ cZ2 MZ hb tZ hZ hZ2
 have HBB := Lib.hid hBB
 have HWB := Lib.hid hwB
 have e0 := kb0.cell 0
 have e1 := kb0.cell 1
 have e2 := kb0.cell 2
 have e3 := kb1.cell 0
 have e4 := kb1.cell 1
 have e5 := kb1.cell 2
 simp at e0 e1 e2 e3 e4 e5
 rw [hwB] at e0 e1 e2 e3 e4 e5
 clear hs hX hY hZ hX2 hY2 hZ2 tX tY tZ hwB hBB
 go_enter Tryz.func13, Tryz.ntmps13
 go_wp2_with fail
 rw [← HWB.out]
 refine (HS1.out _ HBB.out).mono ?_
 rintro e w2 ⟨rfl, hb2⟩
 have HB2 := Lib.hid (HBB.out.trans (hb2.mono HBB.out.size))
 have k0 := kb0.below hb2 kb0.lt
 have k1 := kb1.below hb2 kb1.lt
 clear hb2 e0 e1 e2 e3 e4 e5 kb0 kb1
 have e1 := k0.cell 1
 have e4 := k1.cell 1
 have e2 := k0.cell 2
 have e5 := k1.cell 2
 simp at e1 e2 e4 e5
 go_wp2_with fail
 refine (HS2.out _ HB2.out).mono ?_
 rintro e w3 ⟨rfl, hb3⟩
 have HB3 := Lib.hid (HB2.out.trans (hb3.mono HB2.out.size))
 have k2 := k0.below hb3 k0.lt
 have k3 := k1.below hb3 k1.lt
 clear hb3 e1 e2 e4 e5 k0 k1
 have e2 := k2.cell 2
 have e5 := k3.cell 2
 simp at e2 e5
 go_wp2_with fail
 refine (HS3.out _ HB3.out).mono ?_
 rintro e w4 ⟨rfl, hb4⟩
 go_wp2
 go_ret
 exact ⟨rfl, HB3.out.trans (hb4.mono HB3.out.size)⟩
set_option maxHeartbeats 6400000 in
set_option maxRecDepth 8000 in
/-- RotateTriple, of matrices. -/
theorem RotateTriple_ok (p : Int) (A : Option Addr) (k c : Nat) (st : List Int) (n : Nat) (X : Option Addr) (cX : Nat) (MX : List (List Int)) (Y : Option Addr) (cY : Nat) (MY : List (List Int)) (Z : Option Addr) (cZ : Nat) (MZ : List (List Int)) (w : World) (hdb : isDb p st = true) (hk3 : k ≤ 3) (hn : n = pw k) (hc : k ≤ c) (ha : Rd w A k (ints st)) (hX : RdII w X n MX) (tX : Tab p n MX) (bX : n ≤ cX) (hY : RdII w Y n MY) (tY : Tab p n MY) (bY : n ≤ cY) (hZ : RdII w Z n MZ) (tZ : Tab p n MZ) (bZ : n ≤ cZ) :
    Calls Tryz.prog 17 #[.agg #[.int .i64 p, .slice A k c], .agg #[.slice X n cX, .slice Y n cY, .slice Z n cZ]] w fun e w' => ∃ A1 c1 A2 c2 A3 c3, e = .returned (.tuple #[.agg #[.slice A1 n c1, .slice A2 n c2, .slice A3 n c3], .int .i64 0]) ∧ TripW w w' n A1 c1 MY A2 c2 MZ A3 c3 MX := by
 obtain ⟨HP, -, hst⟩ := isDb_facts hdb
 obtain ⟨hp3, hp2⟩ := isP_ge HP
 have hp : 2 ≤ p := by omega
 have hpk : pw k ≤ 8 := pw_le hk3
 have hpos := pw_pos k
 obtain ⟨wB, hwB⟩ : ∃ W, W = ((((w.alloc (.cells #[.int .i64 p, .slice A k c] 26)).alloc (.cells #[.slice X n cX, .slice Y n cY, .slice Z n cZ] 34)).alloc (.cells #[.slice none 0 0, .slice none 0 0, .slice none 0 0] 34)).alloc (.cells #[.slice X n cX, .slice Y n cY, .slice Z n cZ] 34)) := ⟨_, rfl⟩
 have hBB : Below w.heap.size w wB := by rw [hwB]; exact (((((Below.refl w.heap.size w).alloc (by simp; try omega) (.cells #[.int .i64 p, .slice A k c] 26)).alloc (by simp; try omega) (.cells #[.slice X n cX, .slice Y n cY, .slice Z n cZ] 34)).alloc (by simp; try omega) (.cells #[.slice none 0 0, .slice none 0 0, .slice none 0 0] 34)).alloc (by simp; try omega) (.cells #[.slice X n cX, .slice Y n cY, .slice Z n cZ] 34))
 have kb0 : Blk wB (w.heap.size) 26 #[.int .i64 p, .slice A k c] := by rw [hwB]; exact ((((Blk.newAt3 (w := w) (g := w.heap.size) (t := 26) (cs := #[.int .i64 p, .slice A k c]) (by simp)).alloc (.cells #[.slice X n cX, .slice Y n cY, .slice Z n cZ] 34)).alloc (.cells #[.slice none 0 0, .slice none 0 0, .slice none 0 0] 34)).alloc (.cells #[.slice X n cX, .slice Y n cY, .slice Z n cZ] 34))
 have kb1 : Blk wB (w.heap.size + 1) 34 #[.slice X n cX, .slice Y n cY, .slice Z n cZ] := by rw [hwB]; exact (((Blk.newAt3 (w := (w.alloc (.cells #[.int .i64 p, .slice A k c] 26))) (g := w.heap.size + 1) (t := 34) (cs := #[.slice X n cX, .slice Y n cY, .slice Z n cZ]) (by simp)).alloc (.cells #[.slice none 0 0, .slice none 0 0, .slice none 0 0] 34)).alloc (.cells #[.slice X n cX, .slice Y n cY, .slice Z n cZ] 34))
 have kb2 : Blk wB (w.heap.size + 1 + 1) 34 #[.slice none 0 0, .slice none 0 0, .slice none 0 0] := by rw [hwB]; exact ((Blk.newAt3 (w := ((w.alloc (.cells #[.int .i64 p, .slice A k c] 26)).alloc (.cells #[.slice X n cX, .slice Y n cY, .slice Z n cZ] 34))) (g := w.heap.size + 1 + 1) (t := 34) (cs := #[.slice none 0 0, .slice none 0 0, .slice none 0 0]) (by simp)).alloc (.cells #[.slice X n cX, .slice Y n cY, .slice Z n cZ] 34))
 have kb3 : Blk wB (w.heap.size + 1 + 1 + 1) 34 #[.slice X n cX, .slice Y n cY, .slice Z n cZ] := by rw [hwB]; exact (Blk.newAt3 (w := (((w.alloc (.cells #[.int .i64 p, .slice A k c] 26)).alloc (.cells #[.slice X n cX, .slice Y n cY, .slice Z n cZ] 34)).alloc (.cells #[.slice none 0 0, .slice none 0 0, .slice none 0 0] 34))) (g := w.heap.size + 1 + 1 + 1) (t := 34) (cs := #[.slice X n cX, .slice Y n cY, .slice Z n cZ]) (by simp))
 have HWB := Lib.hid hwB
 have hck := checkTriples1_ok p A k c st n (w.heap.size + 1 + 1 + 1) X cX MX Y cY MY Z cZ MZ wB hdb hk3 hn (ha.below hBB) kb3 (hX.below hBB) tX bX (hY.below hBB) tY bY (hZ.below hBB) tZ bZ
 have HCL : Hid (∀ (w' : World) (X : Option Addr) (cX : Nat) (M : List (List Int)), Below w.heap.size w w' → RdII w X n M → Tab p n M → Calls Tryz.prog 62 #[.slice X n cX] w' fun e w'' => ∃ A' c', e = .returned (.slice A' n c') ∧ MkII w' w'' A' n c' M) := Lib.hid fun w' X cX M hb h t => cloneRows_any p X n cX M n w' (by omega) (by omega) (h.below hb) t
 have HHX := Lib.hid hX; have HHY := Lib.hid hY; have HHZ := Lib.hid hZ
 have HTX := Lib.hid tX; have HTY := Lib.hid tY; have HTZ := Lib.hid tZ
 have HBB := Lib.hid hBB
 have e0 := kb0.cell 0
 have e1 := kb0.cell 1
 have e2 := kb1.cell 0
 have e3 := kb1.cell 1
 have e4 := kb1.cell 2
 simp at e0 e1 e2 e3 e4
 rw [hwB] at e0 e1 e2 e3 e4
 clear hwB hBB hdb HP hst ha hn hpk hpos hX hY hZ tX tY tZ bX bY bZ kb3
 go_enter Tryz.func17, Tryz.ntmps17
 go_wp2_with fail
 rw [← HWB.out]
 refine hck.mono ?_
 rintro e w2 ⟨rfl, hb2⟩
 have HB2 := Lib.hid (HBB.out.trans (hb2.mono HBB.out.size))
 have k1 := kb1.below hb2 kb1.lt
 have k2 := kb2.below hb2 kb2.lt
 have hlt9 := k2.lt
 clear hck hb2 kb0 kb1 kb2 e0 e1 e2 e3 e4
 go_wp2
 refine wp_obsS 12 (RelT (w.heap.size + 1 + 1)) [[], [0], [0, 1], [], [3], [3, 4], [], [6], [6, 7], [0, 1, 2, 3, 4, 5, 6, 7, 8], [0, 1, 2, 3, 4, 5, 6, 7, 8, 9], []] [[], [], [], [], [], [], [], [], [], [], [2, 5, 8, 9], []] (fun x => [VIs (.pointer (some ⟨w.heap.size + 1, 1, none⟩)), VIs (.slice Y n cY), VMat w n MY, VIs (.pointer (some ⟨w.heap.size + 1, 2, none⟩)), VIs (.slice Z n cZ), VMat w n MZ, VIs (.pointer (some ⟨w.heap.size + 1, 0, none⟩)), VIs (.slice X n cX), VMat w n MX, VTv w n MY MZ MX, VTs w (w.heap.size + 1 + 1) n MY MZ MX (x 9), VIs (.int .i64 0)]) (fun w' => Blk w' (w.heap.size + 1) 34 #[.slice X n cX, .slice Y n cY, .slice Z n cZ] ∧ SBt (w.heap.size + 1 + 1) w' ∧ Below w.heap.size w w') (by kernel_rfl) (by kernel_rfl) (fun x x' j hx => by
     rcases j with _ | _ | _ | _ | _ | _ | _ | _ | _ | _ | _ | _ | j
     · rfl
     · rfl
     · rfl
     · rfl
     · rfl
     · rfl
     · rfl
     · rfl
     · rfl
     · rfl
     · rw [hx 9 (by decide)]
     · rfl
     · rfl)
  (weak_ofR [0, 1, 3, 4, 6, 7, 11] (by decide) (fun k hk x v w w' hp hr => by
   simp only [List.mem_cons, zJ, or_false] at hk
   rcases hk with rfl | rfl | rfl | rfl | rfl | rfl | rfl
   · exact hp
   · exact hp
   · exact hp
   · exact hp
   · exact hp
   · exact hp
   · exact hp)) (fun j _ _ h hb => hb.either (fun hb => ⟨h.1.below hb h.1.lt, h.2.1.below hb, h.2.2.trans (hb.mono h.2.2.size)⟩) (fun hr => ⟨h.1.relT (by omega) hr, h.2.1.relT hr, below_relT h.2.2 (by omega) hr⟩)) (⟨k1.drew, ⟨_, _, _, k2.drew⟩, (HB2.out.trans zG.drew)⟩) (fun x => ?_)
 refine obs_stepS (Eq.trans (by simp only [zA, zC]; exact rfl) rfl) rfl (fun w' hS hV K hK => ?_) ?_
 · have q2 := hS.1.cell 0; have q3 := hS.1.cell 1; have q4 := hS.1.cell 2; simp at q2 q3 q4; go_simp; exact hK.out _ _ _ rfl rfl rfl zG
 simp only [zD, zE, zF]
 refine obs_stepS (Eq.trans (by simp only [zA, zB, zC]; exact rfl) rfl) rfl (fun w' hS hV K hK => ?_) ?_
 · have e0 := zQ hV 0; have q2 := hS.1.cell 0; have q3 := hS.1.cell 1; have q4 := hS.1.cell 2; simp at q2 q3 q4; go_simp; exact hK.out _ _ _ rfl rfl rfl zG
 simp only [zD, zE, zF]
 refine obs_stepS (Eq.trans (by simp only [zA, zB, zC]; exact rfl) rfl) rfl (fun w' hS hV K hK => ?_) ?_
 · have e1 := zQ hV 1; have q2 := hS.1.cell 0; have q3 := hS.1.cell 1; have q4 := hS.1.cell 2; simp at q2 q3 q4; go_simp; refine (HCL.out w' _ _ _ hS.2.2 HHY.out HTY.out).mono ?_; rintro e v1 ⟨A9, c9, rfl, hM⟩; exact hK.out _ _ _ rfl rfl ⟨_, _, rfl, hM.after hS.2.2⟩ hM.b
 simp only [zD, zE, zF]
 refine obs_stepS (Eq.trans (by simp only [zA, zB, zC]; exact rfl) rfl) rfl (fun w' hS hV K hK => ?_) ?_
 · have q2 := hS.1.cell 0; have q3 := hS.1.cell 1; have q4 := hS.1.cell 2; simp at q2 q3 q4; go_simp; exact hK.out _ _ _ rfl rfl rfl zG
 simp only [zD, zE, zF]
 refine obs_stepS (Eq.trans (by simp only [zA, zB, zC]; exact rfl) rfl) rfl (fun w' hS hV K hK => ?_) ?_
 · have e3 := zQ hV 3; have q2 := hS.1.cell 0; have q3 := hS.1.cell 1; have q4 := hS.1.cell 2; simp at q2 q3 q4; go_simp; exact hK.out _ _ _ rfl rfl rfl zG
 simp only [zD, zE, zF]
 refine obs_stepS (Eq.trans (by simp only [zA, zB, zC]; exact rfl) rfl) rfl (fun w' hS hV K hK => ?_) ?_
 · have e4 := zQ hV 4; have q2 := hS.1.cell 0; have q3 := hS.1.cell 1; have q4 := hS.1.cell 2; simp at q2 q3 q4; go_simp; refine (HCL.out w' _ _ _ hS.2.2 HHZ.out HTZ.out).mono ?_; rintro e v1 ⟨A9, c9, rfl, hM⟩; exact hK.out _ _ _ rfl rfl ⟨_, _, rfl, hM.after hS.2.2⟩ hM.b
 simp only [zD, zE, zF]
 refine obs_stepS (Eq.trans (by simp only [zA, zB, zC]; exact rfl) rfl) rfl (fun w' hS hV K hK => ?_) ?_
 · have q2 := hS.1.cell 0; have q3 := hS.1.cell 1; have q4 := hS.1.cell 2; simp at q2 q3 q4; go_simp; exact hK.out _ _ _ rfl rfl rfl zG
 simp only [zD, zE, zF]
 refine obs_stepS (Eq.trans (by simp only [zA, zB, zC]; exact rfl) rfl) rfl (fun w' hS hV K hK => ?_) ?_
 · have e6 := zQ hV 6; have q2 := hS.1.cell 0; have q3 := hS.1.cell 1; have q4 := hS.1.cell 2; simp at q2 q3 q4; go_simp; exact hK.out _ _ _ rfl rfl rfl zG
 simp only [zD, zE, zF]
 refine obs_stepS (Eq.trans (by simp only [zA, zB, zC]; exact rfl) rfl) rfl (fun w' hS hV K hK => ?_) ?_
 · have e7 := zQ hV 7; have q2 := hS.1.cell 0; have q3 := hS.1.cell 1; have q4 := hS.1.cell 2; simp at q2 q3 q4; go_simp; refine (HCL.out w' _ _ _ hS.2.2 HHX.out HTX.out).mono ?_; rintro e v1 ⟨A9, c9, rfl, hM⟩; exact hK.out _ _ _ rfl rfl ⟨_, _, rfl, hM.after hS.2.2⟩ hM.b
 simp only [zD, zE, zF]
 refine obs_stepS (Eq.trans (by simp only [zA, zB, zC]; exact rfl) rfl) rfl (fun w' hS hV K hK => ?_) ?_
 · obtain ⟨A2, c2, e2, h2⟩ := hV 2 (by decide); obtain ⟨A5, c5, e5, h5⟩ := hV 5 (by decide); obtain ⟨A8, c8, e8, h8⟩ := hV 8 (by decide); have q2 := hS.1.cell 0; have q3 := hS.1.cell 1; have q4 := hS.1.cell 2; simp at q2 q3 q4; go_simp; exact hK.out _ _ _ rfl rfl ⟨_, _, _, _, _, _, rfl, h2, h5, h8⟩ zG
 simp only [zD, zE, zF]
 refine obs_stepN (Eq.trans (by simp only [zA, zB, zC]; exact rfl) rfl) rfl (fun w' hS hV K hK => ?_) ?_
 · obtain ⟨A2, c2, e2, h2⟩ := hV 2 (by decide); obtain ⟨A5, c5, e5, h5⟩ := hV 5 (by decide); obtain ⟨A8, c8, e8, h8⟩ := hV 8 (by decide); obtain ⟨A1, c1, A2, c2, A3, c3, e9, hB1, hB2, hB3⟩ := hV 9 (by decide); have q2 := hS.1.cell 0; have q3 := hS.1.cell 1; have q4 := hS.1.cell 2; simp at q2 q3 q4; obtain ⟨a9, b9, d9, k9⟩ := hS.2.1; have r0 := k9.cell 0; have r1 := k9.cell 1; have r2 := k9.cell 2; have z0 := k9.frozen 0; have z1 := k9.frozen 1; have z2 := k9.frozen 2; simp at r0 r1 r2; go_simp; exact hK.out _ _ rfl ⟨_, _, _, _, _, _, e9, k9.storedT, TripW.stored hB1 hB2 hB3 k9 hS.2.2 (by omega)⟩ (StepR.rel rfl ⟨_, _, _, _, _, _, k9, rfl⟩)
 refine obs_stepS (Eq.trans (by simp only [zA, zB, zC]; exact rfl) rfl) rfl (fun w' hS hV K hK => ?_) ?_
 · have q2 := hS.1.cell 0; have q3 := hS.1.cell 1; have q4 := hS.1.cell 2; simp at q2 q3 q4; go_simp; exact hK.out _ _ _ rfl rfl rfl zG
 simp only [zD, zE, zF]
 refine fun w' hS hV => ?_
 have e0 := zQ hV 0
 have e1 := zQ hV 1
 have e3 := zQ hV 3
 have e4 := zQ hV 4
 have e6 := zQ hV 6
 have e7 := zQ hV 7
 have b10 := hV 10 (by decide)
 have e11 := zQ hV 11
 simp only [e0, e1, e3, e4, e6, e7, e11]
 clear e0 e1 e3 e4 e6 e7 e11
 refine wpAny_done (by kernel_rfl) ?_ _
 obtain ⟨A1, c1, A2, c2, A3, c3, -, p9, tw⟩ : (VTs w (w.heap.size + 1 + 1) n MY MZ MX (x 9)).p undef w' := b10
 have p0 := p9.cell 0
 have p1 := p9.cell 1
 have p2 := p9.cell 2
 simp at p0 p1 p2
 go_wp2
 exact bodyPost_ret (v := .tuple #[.agg #[.slice A1 n c1, .slice A2 n c2, .slice A3 n c3], .int .i64 0]) (by simp [results, Tryz.results17, go_sem, p0, p1, p2]) rfl ⟨A1, c1, A2, c2, A3, c3, rfl, tw⟩
set_option maxHeartbeats 6400000 in
set_option maxRecDepth 8000 in
/-- BracketTriple, of matrices. -/
theorem BracketTriple_ok (p : Int) (A : Option Addr) (k c : Nat) (st : List Int) (n : Nat) (X : Option Addr) (cX : Nat) (MX : List (List Int)) (Y : Option Addr) (cY : Nat) (MY : List (List Int)) (Z : Option Addr) (cZ : Nat) (MZ : List (List Int)) (X2 : Option Addr) (cX2 : Nat) (MX2 : List (List Int)) (Y2 : Option Addr) (cY2 : Nat) (MY2 : List (List Int)) (Z2 : Option Addr) (cZ2 : Nat) (MZ2 : List (List Int)) (w : World) (hdb : isDb p st = true) (hk3 : k ≤ 3) (hn : n = pw k) (hc : k ≤ c) (ha : Rd w A k (ints st)) (hX : RdII w X n MX) (tX : Tab p n MX) (bX : n ≤ cX) (hY : RdII w Y n MY) (tY : Tab p n MY) (bY : n ≤ cY) (hZ : RdII w Z n MZ) (tZ : Tab p n MZ) (bZ : n ≤ cZ) (hX2 : RdII w X2 n MX2) (tX2 : Tab p n MX2) (bX2 : n ≤ cX2) (hY2 : RdII w Y2 n MY2) (tY2 : Tab p n MY2) (bY2 : n ≤ cY2) (hZ2 : RdII w Z2 n MZ2) (tZ2 : Tab p n MZ2) (bZ2 : n ≤ cZ2) :
    Calls Tryz.prog 18 #[.agg #[.int .i64 p, .slice A k c], .agg #[.slice X n cX, .slice Y n cY, .slice Z n cZ], .agg #[.slice X2 n cX2, .slice Y2 n cY2, .slice Z2 n cZ2]] w fun e w' => ∃ A1 c1 A2 c2 A3 c3, e = .returned (.tuple #[.agg #[.slice A1 n c1, .slice A2 n c2, .slice A3 n c3], .int .i64 0]) ∧ TripW w w' n A1 c1 (brMx p MX MX2) A2 c2 (brMx p MY MY2) A3 c3 (brMx p MZ MZ2) := by
 obtain ⟨HP, -, hst⟩ := isDb_facts hdb
 obtain ⟨hp3, hp2⟩ := isP_ge HP
 have hp : 2 ≤ p := by omega
 have hpk : pw k ≤ 8 := pw_le hk3
 have hpos := pw_pos k
 obtain ⟨wB, hwB⟩ : ∃ W, W = (((((w.alloc (.cells #[.int .i64 p, .slice A k c] 26)).alloc (.cells #[.slice X n cX, .slice Y n cY, .slice Z n cZ] 34)).alloc (.cells #[.slice X2 n cX2, .slice Y2 n cY2, .slice Z2 n cZ2] 34)).alloc (.cells #[.slice none 0 0, .slice none 0 0, .slice none 0 0] 34)).alloc (.cells #[.slice X n cX, .slice Y n cY, .slice Z n cZ, .slice X2 n cX2, .slice Y2 n cY2, .slice Z2 n cZ2] 34)) := ⟨_, rfl⟩
 have hBB : Below w.heap.size w wB := by rw [hwB]; exact ((((((Below.refl w.heap.size w).alloc (by simp; try omega) (.cells #[.int .i64 p, .slice A k c] 26)).alloc (by simp; try omega) (.cells #[.slice X n cX, .slice Y n cY, .slice Z n cZ] 34)).alloc (by simp; try omega) (.cells #[.slice X2 n cX2, .slice Y2 n cY2, .slice Z2 n cZ2] 34)).alloc (by simp; try omega) (.cells #[.slice none 0 0, .slice none 0 0, .slice none 0 0] 34)).alloc (by simp; try omega) (.cells #[.slice X n cX, .slice Y n cY, .slice Z n cZ, .slice X2 n cX2, .slice Y2 n cY2, .slice Z2 n cZ2] 34))
 have kb0 : Blk wB (w.heap.size) 26 #[.int .i64 p, .slice A k c] := by rw [hwB]; exact (((((Blk.newAt3 (w := w) (g := w.heap.size) (t := 26) (cs := #[.int .i64 p, .slice A k c]) (by simp)).alloc (.cells #[.slice X n cX, .slice Y n cY, .slice Z n cZ] 34)).alloc (.cells #[.slice X2 n cX2, .slice Y2 n cY2, .slice Z2 n cZ2] 34)).alloc (.cells #[.slice none 0 0, .slice none 0 0, .slice none 0 0] 34)).alloc (.cells #[.slice X n cX, .slice Y n cY, .slice Z n cZ, .slice X2 n cX2, .slice Y2 n cY2, .slice Z2 n cZ2] 34))
 have kb1 : Blk wB (w.heap.size + 1) 34 #[.slice X n cX, .slice Y n cY, .slice Z n cZ] := by rw [hwB]; exact ((((Blk.newAt3 (w := (w.alloc (.cells #[.int .i64 p, .slice A k c] 26))) (g := w.heap.size + 1) (t := 34) (cs := #[.slice X n cX, .slice Y n cY, .slice Z n cZ]) (by simp)).alloc (.cells #[.slice X2 n cX2, .slice Y2 n cY2, .slice Z2 n cZ2] 34)).alloc (.cells #[.slice none 0 0, .slice none 0 0, .slice none 0 0] 34)).alloc (.cells #[.slice X n cX, .slice Y n cY, .slice Z n cZ, .slice X2 n cX2, .slice Y2 n cY2, .slice Z2 n cZ2] 34))
 have kb2 : Blk wB (w.heap.size + 1 + 1) 34 #[.slice X2 n cX2, .slice Y2 n cY2, .slice Z2 n cZ2] := by rw [hwB]; exact (((Blk.newAt3 (w := ((w.alloc (.cells #[.int .i64 p, .slice A k c] 26)).alloc (.cells #[.slice X n cX, .slice Y n cY, .slice Z n cZ] 34))) (g := w.heap.size + 1 + 1) (t := 34) (cs := #[.slice X2 n cX2, .slice Y2 n cY2, .slice Z2 n cZ2]) (by simp)).alloc (.cells #[.slice none 0 0, .slice none 0 0, .slice none 0 0] 34)).alloc (.cells #[.slice X n cX, .slice Y n cY, .slice Z n cZ, .slice X2 n cX2, .slice Y2 n cY2, .slice Z2 n cZ2] 34))
 have kb3 : Blk wB (w.heap.size + 1 + 1 + 1) 34 #[.slice none 0 0, .slice none 0 0, .slice none 0 0] := by rw [hwB]; exact ((Blk.newAt3 (w := (((w.alloc (.cells #[.int .i64 p, .slice A k c] 26)).alloc (.cells #[.slice X n cX, .slice Y n cY, .slice Z n cZ] 34)).alloc (.cells #[.slice X2 n cX2, .slice Y2 n cY2, .slice Z2 n cZ2] 34))) (g := w.heap.size + 1 + 1 + 1) (t := 34) (cs := #[.slice none 0 0, .slice none 0 0, .slice none 0 0]) (by simp)).alloc (.cells #[.slice X n cX, .slice Y n cY, .slice Z n cZ, .slice X2 n cX2, .slice Y2 n cY2, .slice Z2 n cZ2] 34))
 have kb4 : Blk wB (w.heap.size + 1 + 1 + 1 + 1) 34 #[.slice X n cX, .slice Y n cY, .slice Z n cZ, .slice X2 n cX2, .slice Y2 n cY2, .slice Z2 n cZ2] := by rw [hwB]; exact (Blk.newAt3 (w := ((((w.alloc (.cells #[.int .i64 p, .slice A k c] 26)).alloc (.cells #[.slice X n cX, .slice Y n cY, .slice Z n cZ] 34)).alloc (.cells #[.slice X2 n cX2, .slice Y2 n cY2, .slice Z2 n cZ2] 34)).alloc (.cells #[.slice none 0 0, .slice none 0 0, .slice none 0 0] 34))) (g := w.heap.size + 1 + 1 + 1 + 1) (t := 34) (cs := #[.slice X n cX, .slice Y n cY, .slice Z n cZ, .slice X2 n cX2, .slice Y2 n cY2, .slice Z2 n cZ2]) (by simp))
 have HWB := Lib.hid hwB
 have hck := checkTriples2_ok p A k c st n (w.heap.size + 1 + 1 + 1 + 1) X cX MX Y cY MY Z cZ MZ X2 cX2 MX2 Y2 cY2 MY2 Z2 cZ2 MZ2 wB hdb hk3 hn (ha.below hBB) kb4 (hX.below hBB) tX bX (hY.below hBB) tY bY (hZ.below hBB) tZ bZ (hX2.below hBB) tX2 bX2 (hY2.below hBB) tY2 bY2 (hZ2.below hBB) tZ2 bZ2
 have HMB : Hid (∀ (w' : World) (X : Option Addr) (cX : Nat) (M : List (List Int)) (Y : Option Addr) (cY : Nat) (N : List (List Int)), Below w.heap.size w w' → RdII w X n M → Tab p n M → RdII w Y n N → Tab p n N → Calls Tryz.prog 63 #[.int .i64 p, .slice X n cX, .slice Y n cY] w' fun e w'' => ∃ A' c', e = .returned (.slice A' n c') ∧ MkII w' w'' A' n c' (brMx p M N)) := Lib.hid fun w' X cX M Y cY N hb h t h2 t2 => matrixBracket_any p X n cX M Y cY N w' hp hp2 (by omega) (by omega) (h.below hb) t (h2.below hb) t2
 have HHX := Lib.hid hX; have HHY := Lib.hid hY; have HHZ := Lib.hid hZ; have HHX2 := Lib.hid hX2; have HHY2 := Lib.hid hY2; have HHZ2 := Lib.hid hZ2
 have HTX := Lib.hid tX; have HTY := Lib.hid tY; have HTZ := Lib.hid tZ; have HTX2 := Lib.hid tX2; have HTY2 := Lib.hid tY2; have HTZ2 := Lib.hid tZ2
 have HBB := Lib.hid hBB
 have e0 := kb0.cell 0
 have e1 := kb0.cell 1
 have e2 := kb1.cell 0
 have e3 := kb1.cell 1
 have e4 := kb1.cell 2
 have e5 := kb2.cell 0
 have e6 := kb2.cell 1
 have e7 := kb2.cell 2
 simp at e0 e1 e2 e3 e4 e5 e6 e7
 rw [hwB] at e0 e1 e2 e3 e4 e5 e6 e7
 clear hwB hBB hdb HP hst ha hn hpk hpos kb4 hX tX bX hY tY bY hZ tZ bZ hX2 tX2 bX2 hY2 tY2 bY2 hZ2 tZ2 bZ2
 go_enter Tryz.func18, Tryz.ntmps18
 go_wp2_with fail
 rw [← HWB.out]
 refine hck.mono ?_
 rintro e w2 ⟨rfl, hb2⟩
 have HB2 := Lib.hid (HBB.out.trans (hb2.mono HBB.out.size))
 have k0 := kb0.below hb2 kb0.lt
 have k1 := kb1.below hb2 kb1.lt
 have k2 := kb2.below hb2 kb2.lt
 have k3 := kb3.below hb2 kb3.lt
 clear hck hb2 kb0 kb1 kb2 kb3 e0 e1 e2 e3 e4 e5 e6 e7
 obtain ⟨q0, q1⟩ := k0.two
 go_wp2_with fail
 refine (dfield_any p A k c _).mono ?_
 rintro e w3 ⟨rfl, hb3⟩
 have HB3 := Lib.hid (HB2.out.trans (hb3.mono HB2.out.size))
 replace k1 := k1.below hb3 k1.lt
 replace k2 := k2.below hb3 k2.lt
 replace k3 := k3.below hb3 k3.lt
 have hlt9 := k3.lt
 clear q0 q1 k0 hb3
 go_wp2
 refine wp_obsS 21 (RelT (w.heap.size + 1 + 1 + 1)) [[], [], [1], [], [3], [0, 1, 2, 3, 4], [], [], [7], [], [9], [6, 7, 8, 9, 10], [], [], [13], [], [15], [12, 13, 14, 15, 16], [0, 1, 2, 3, 4, 5, 6, 7, 8, 9, 10, 11, 12, 13, 14, 15, 16, 17], [0, 1, 2, 3, 4, 5, 6, 7, 8, 9, 10, 11, 12, 13, 14, 15, 16, 17, 18], []] [[], [], [], [], [], [], [], [], [], [], [], [], [], [], [], [], [], [], [], [5, 11, 17, 18], []] (fun x => [VIs (.int .i64 (p)), VIs (.pointer (some ⟨w.heap.size + 1, 0, none⟩)), VIs (.slice X n cX), VIs (.pointer (some ⟨w.heap.size + 1 + 1, 0, none⟩)), VIs (.slice X2 n cX2), VMat w n (brMx p MX MX2), VIs (.int .i64 (p)), VIs (.pointer (some ⟨w.heap.size + 1, 1, none⟩)), VIs (.slice Y n cY), VIs (.pointer (some ⟨w.heap.size + 1 + 1, 1, none⟩)), VIs (.slice Y2 n cY2), VMat w n (brMx p MY MY2), VIs (.int .i64 (p)), VIs (.pointer (some ⟨w.heap.size + 1, 2, none⟩)), VIs (.slice Z n cZ), VIs (.pointer (some ⟨w.heap.size + 1 + 1, 2, none⟩)), VIs (.slice Z2 n cZ2), VMat w n (brMx p MZ MZ2), VTv w n (brMx p MX MX2) (brMx p MY MY2) (brMx p MZ MZ2), VTs w (w.heap.size + 1 + 1 + 1) n (brMx p MX MX2) (brMx p MY MY2) (brMx p MZ MZ2) (x 18), VIs (.int .i64 0)]) (fun w' => Blk w' (w.heap.size + 1) 34 #[.slice X n cX, .slice Y n cY, .slice Z n cZ] ∧ Blk w' (w.heap.size + 1 + 1) 34 #[.slice X2 n cX2, .slice Y2 n cY2, .slice Z2 n cZ2] ∧ SBt (w.heap.size + 1 + 1 + 1) w' ∧ Below w.heap.size w w') (by kernel_rfl) (by kernel_rfl) (fun x x' j hx => by
     rcases j with _ | _ | _ | _ | _ | _ | _ | _ | _ | _ | _ | _ | _ | _ | _ | _ | _ | _ | _ | _ | _ | j
     · rfl
     · rfl
     · rfl
     · rfl
     · rfl
     · rfl
     · rfl
     · rfl
     · rfl
     · rfl
     · rfl
     · rfl
     · rfl
     · rfl
     · rfl
     · rfl
     · rfl
     · rfl
     · rfl
     · rw [hx 18 (by decide)]
     · rfl
     · rfl)
  (weak_ofR [0, 1, 2, 3, 4, 6, 7, 8, 9, 10, 12, 13, 14, 15, 16, 20] (by decide) (fun k hk x v w w' hp hr => by
   simp only [List.mem_cons, zJ, or_false] at hk
   rcases hk with rfl | rfl | rfl | rfl | rfl | rfl | rfl | rfl | rfl | rfl | rfl | rfl | rfl | rfl | rfl | rfl
   · exact hp
   · exact hp
   · exact hp
   · exact hp
   · exact hp
   · exact hp
   · exact hp
   · exact hp
   · exact hp
   · exact hp
   · exact hp
   · exact hp
   · exact hp
   · exact hp
   · exact hp
   · exact hp)) (fun j _ _ h hb => hb.either (fun hb => ⟨h.1.below hb h.1.lt, h.2.1.below hb h.2.1.lt, h.2.2.1.below hb, h.2.2.2.trans (hb.mono h.2.2.2.size)⟩) (fun hr => ⟨h.1.relT (by omega) hr, h.2.1.relT (by omega) hr, h.2.2.1.relT hr, below_relT h.2.2.2 (by omega) hr⟩)) (⟨k1.drew, k2.drew, ⟨_, _, _, k3.drew⟩, (HB3.out.trans zG.drew)⟩) (fun x => ?_)
 refine obs_stepS (Eq.trans (by simp only [zA, zC]; exact rfl) rfl) rfl (fun w' hS hV K hK => ?_) ?_
 · have q2 := hS.1.cell 0; have q3 := hS.1.cell 1; have q4 := hS.1.cell 2; have q5 := hS.2.1.cell 0; have q6 := hS.2.1.cell 1; have q7 := hS.2.1.cell 2; simp at q2 q3 q4 q5 q6 q7; go_simp; exact hK.out _ _ _ rfl rfl rfl zG
 simp only [zD, zE, zF]
 refine obs_stepS (Eq.trans (by simp only [zA, zB, zC]; exact rfl) rfl) rfl (fun w' hS hV K hK => ?_) ?_
 · have q2 := hS.1.cell 0; have q3 := hS.1.cell 1; have q4 := hS.1.cell 2; have q5 := hS.2.1.cell 0; have q6 := hS.2.1.cell 1; have q7 := hS.2.1.cell 2; simp at q2 q3 q4 q5 q6 q7; go_simp; exact hK.out _ _ _ rfl rfl rfl zG
 simp only [zD, zE, zF]
 refine obs_stepS (Eq.trans (by simp only [zA, zB, zC]; exact rfl) rfl) rfl (fun w' hS hV K hK => ?_) ?_
 · have e1 := zQ hV 1; have q2 := hS.1.cell 0; have q3 := hS.1.cell 1; have q4 := hS.1.cell 2; have q5 := hS.2.1.cell 0; have q6 := hS.2.1.cell 1; have q7 := hS.2.1.cell 2; simp at q2 q3 q4 q5 q6 q7; go_simp; exact hK.out _ _ _ rfl rfl rfl zG
 simp only [zD, zE, zF]
 refine obs_stepS (Eq.trans (by simp only [zA, zB, zC]; exact rfl) rfl) rfl (fun w' hS hV K hK => ?_) ?_
 · have q2 := hS.1.cell 0; have q3 := hS.1.cell 1; have q4 := hS.1.cell 2; have q5 := hS.2.1.cell 0; have q6 := hS.2.1.cell 1; have q7 := hS.2.1.cell 2; simp at q2 q3 q4 q5 q6 q7; go_simp; exact hK.out _ _ _ rfl rfl rfl zG
 simp only [zD, zE, zF]
 refine obs_stepS (Eq.trans (by simp only [zA, zB, zC]; exact rfl) rfl) rfl (fun w' hS hV K hK => ?_) ?_
 · have e3 := zQ hV 3; have q2 := hS.1.cell 0; have q3 := hS.1.cell 1; have q4 := hS.1.cell 2; have q5 := hS.2.1.cell 0; have q6 := hS.2.1.cell 1; have q7 := hS.2.1.cell 2; simp at q2 q3 q4 q5 q6 q7; go_simp; exact hK.out _ _ _ rfl rfl rfl zG
 simp only [zD, zE, zF]
 refine obs_stepS (Eq.trans (by simp only [zA, zB, zC]; exact rfl) rfl) rfl (fun w' hS hV K hK => ?_) ?_
 · have e0 := zQ hV 0; have e2 := zQ hV 2; have e4 := zQ hV 4; have q2 := hS.1.cell 0; have q3 := hS.1.cell 1; have q4 := hS.1.cell 2; have q5 := hS.2.1.cell 0; have q6 := hS.2.1.cell 1; have q7 := hS.2.1.cell 2; simp at q2 q3 q4 q5 q6 q7; go_simp; refine (HMB.out w' _ _ _ _ _ _ hS.2.2.2 HHX.out HTX.out HHX2.out HTX2.out).mono ?_; rintro e v1 ⟨A9, c9, rfl, hM⟩; exact hK.out _ _ _ rfl rfl ⟨_, _, rfl, hM.after hS.2.2.2⟩ hM.b
 simp only [zD, zE, zF]
 refine obs_stepS (Eq.trans (by simp only [zA, zB, zC]; exact rfl) rfl) rfl (fun w' hS hV K hK => ?_) ?_
 · have q2 := hS.1.cell 0; have q3 := hS.1.cell 1; have q4 := hS.1.cell 2; have q5 := hS.2.1.cell 0; have q6 := hS.2.1.cell 1; have q7 := hS.2.1.cell 2; simp at q2 q3 q4 q5 q6 q7; go_simp; exact hK.out _ _ _ rfl rfl rfl zG
 simp only [zD, zE, zF]
 refine obs_stepS (Eq.trans (by simp only [zA, zB, zC]; exact rfl) rfl) rfl (fun w' hS hV K hK => ?_) ?_
 · have q2 := hS.1.cell 0; have q3 := hS.1.cell 1; have q4 := hS.1.cell 2; have q5 := hS.2.1.cell 0; have q6 := hS.2.1.cell 1; have q7 := hS.2.1.cell 2; simp at q2 q3 q4 q5 q6 q7; go_simp; exact hK.out _ _ _ rfl rfl rfl zG
 simp only [zD, zE, zF]
 refine obs_stepS (Eq.trans (by simp only [zA, zB, zC]; exact rfl) rfl) rfl (fun w' hS hV K hK => ?_) ?_
 · have e7 := zQ hV 7; have q2 := hS.1.cell 0; have q3 := hS.1.cell 1; have q4 := hS.1.cell 2; have q5 := hS.2.1.cell 0; have q6 := hS.2.1.cell 1; have q7 := hS.2.1.cell 2; simp at q2 q3 q4 q5 q6 q7; go_simp; exact hK.out _ _ _ rfl rfl rfl zG
 simp only [zD, zE, zF]
 refine obs_stepS (Eq.trans (by simp only [zA, zB, zC]; exact rfl) rfl) rfl (fun w' hS hV K hK => ?_) ?_
 · have q2 := hS.1.cell 0; have q3 := hS.1.cell 1; have q4 := hS.1.cell 2; have q5 := hS.2.1.cell 0; have q6 := hS.2.1.cell 1; have q7 := hS.2.1.cell 2; simp at q2 q3 q4 q5 q6 q7; go_simp; exact hK.out _ _ _ rfl rfl rfl zG
 simp only [zD, zE, zF]
 refine obs_stepS (Eq.trans (by simp only [zA, zB, zC]; exact rfl) rfl) rfl (fun w' hS hV K hK => ?_) ?_
 · have e9 := zQ hV 9; have q2 := hS.1.cell 0; have q3 := hS.1.cell 1; have q4 := hS.1.cell 2; have q5 := hS.2.1.cell 0; have q6 := hS.2.1.cell 1; have q7 := hS.2.1.cell 2; simp at q2 q3 q4 q5 q6 q7; go_simp; exact hK.out _ _ _ rfl rfl rfl zG
 simp only [zD, zE, zF]
 refine obs_stepS (Eq.trans (by simp only [zA, zB, zC]; exact rfl) rfl) rfl (fun w' hS hV K hK => ?_) ?_
 · have e6 := zQ hV 6; have e8 := zQ hV 8; have e10 := zQ hV 10; have q2 := hS.1.cell 0; have q3 := hS.1.cell 1; have q4 := hS.1.cell 2; have q5 := hS.2.1.cell 0; have q6 := hS.2.1.cell 1; have q7 := hS.2.1.cell 2; simp at q2 q3 q4 q5 q6 q7; go_simp; refine (HMB.out w' _ _ _ _ _ _ hS.2.2.2 HHY.out HTY.out HHY2.out HTY2.out).mono ?_; rintro e v1 ⟨A9, c9, rfl, hM⟩; exact hK.out _ _ _ rfl rfl ⟨_, _, rfl, hM.after hS.2.2.2⟩ hM.b
 simp only [zD, zE, zF]
 refine obs_stepS (Eq.trans (by simp only [zA, zB, zC]; exact rfl) rfl) rfl (fun w' hS hV K hK => ?_) ?_
 · have q2 := hS.1.cell 0; have q3 := hS.1.cell 1; have q4 := hS.1.cell 2; have q5 := hS.2.1.cell 0; have q6 := hS.2.1.cell 1; have q7 := hS.2.1.cell 2; simp at q2 q3 q4 q5 q6 q7; go_simp; exact hK.out _ _ _ rfl rfl rfl zG
 simp only [zD, zE, zF]
 refine obs_stepS (Eq.trans (by simp only [zA, zB, zC]; exact rfl) rfl) rfl (fun w' hS hV K hK => ?_) ?_
 · have q2 := hS.1.cell 0; have q3 := hS.1.cell 1; have q4 := hS.1.cell 2; have q5 := hS.2.1.cell 0; have q6 := hS.2.1.cell 1; have q7 := hS.2.1.cell 2; simp at q2 q3 q4 q5 q6 q7; go_simp; exact hK.out _ _ _ rfl rfl rfl zG
 simp only [zD, zE, zF]
 refine obs_stepS (Eq.trans (by simp only [zA, zB, zC]; exact rfl) rfl) rfl (fun w' hS hV K hK => ?_) ?_
 · have e13 := zQ hV 13; have q2 := hS.1.cell 0; have q3 := hS.1.cell 1; have q4 := hS.1.cell 2; have q5 := hS.2.1.cell 0; have q6 := hS.2.1.cell 1; have q7 := hS.2.1.cell 2; simp at q2 q3 q4 q5 q6 q7; go_simp; exact hK.out _ _ _ rfl rfl rfl zG
 simp only [zD, zE, zF]
 refine obs_stepS (Eq.trans (by simp only [zA, zB, zC]; exact rfl) rfl) rfl (fun w' hS hV K hK => ?_) ?_
 · have q2 := hS.1.cell 0; have q3 := hS.1.cell 1; have q4 := hS.1.cell 2; have q5 := hS.2.1.cell 0; have q6 := hS.2.1.cell 1; have q7 := hS.2.1.cell 2; simp at q2 q3 q4 q5 q6 q7; go_simp; exact hK.out _ _ _ rfl rfl rfl zG
 simp only [zD, zE, zF]
 refine obs_stepS (Eq.trans (by simp only [zA, zB, zC]; exact rfl) rfl) rfl (fun w' hS hV K hK => ?_) ?_
 · have e15 := zQ hV 15; have q2 := hS.1.cell 0; have q3 := hS.1.cell 1; have q4 := hS.1.cell 2; have q5 := hS.2.1.cell 0; have q6 := hS.2.1.cell 1; have q7 := hS.2.1.cell 2; simp at q2 q3 q4 q5 q6 q7; go_simp; exact hK.out _ _ _ rfl rfl rfl zG
 simp only [zD, zE, zF]
 refine obs_stepS (Eq.trans (by simp only [zA, zB, zC]; exact rfl) rfl) rfl (fun w' hS hV K hK => ?_) ?_
 · have e12 := zQ hV 12; have e14 := zQ hV 14; have e16 := zQ hV 16; have q2 := hS.1.cell 0; have q3 := hS.1.cell 1; have q4 := hS.1.cell 2; have q5 := hS.2.1.cell 0; have q6 := hS.2.1.cell 1; have q7 := hS.2.1.cell 2; simp at q2 q3 q4 q5 q6 q7; go_simp; refine (HMB.out w' _ _ _ _ _ _ hS.2.2.2 HHZ.out HTZ.out HHZ2.out HTZ2.out).mono ?_; rintro e v1 ⟨A9, c9, rfl, hM⟩; exact hK.out _ _ _ rfl rfl ⟨_, _, rfl, hM.after hS.2.2.2⟩ hM.b
 simp only [zD, zE, zF]
 refine obs_stepS (Eq.trans (by simp only [zA, zB, zC]; exact rfl) rfl) rfl (fun w' hS hV K hK => ?_) ?_
 · obtain ⟨A5, c5, e5, h5⟩ := hV 5 (by decide); obtain ⟨A11, c11, e11, h11⟩ := hV 11 (by decide); obtain ⟨A17, c17, e17, h17⟩ := hV 17 (by decide); have q2 := hS.1.cell 0; have q3 := hS.1.cell 1; have q4 := hS.1.cell 2; have q5 := hS.2.1.cell 0; have q6 := hS.2.1.cell 1; have q7 := hS.2.1.cell 2; simp at q2 q3 q4 q5 q6 q7; go_simp; exact hK.out _ _ _ rfl rfl ⟨_, _, _, _, _, _, rfl, h5, h11, h17⟩ zG
 simp only [zD, zE, zF]
 refine obs_stepN (Eq.trans (by simp only [zA, zB, zC]; exact rfl) rfl) rfl (fun w' hS hV K hK => ?_) ?_
 · obtain ⟨A5, c5, e5, h5⟩ := hV 5 (by decide); obtain ⟨A11, c11, e11, h11⟩ := hV 11 (by decide); obtain ⟨A17, c17, e17, h17⟩ := hV 17 (by decide); obtain ⟨A1, c1, A2, c2, A3, c3, e18, hB1, hB2, hB3⟩ := hV 18 (by decide); have q2 := hS.1.cell 0; have q3 := hS.1.cell 1; have q4 := hS.1.cell 2; have q5 := hS.2.1.cell 0; have q6 := hS.2.1.cell 1; have q7 := hS.2.1.cell 2; simp at q2 q3 q4 q5 q6 q7; obtain ⟨a9, b9, d9, k9⟩ := hS.2.2.1; have r0 := k9.cell 0; have r1 := k9.cell 1; have r2 := k9.cell 2; have z0 := k9.frozen 0; have z1 := k9.frozen 1; have z2 := k9.frozen 2; simp at r0 r1 r2; go_simp; exact hK.out _ _ rfl ⟨_, _, _, _, _, _, e18, k9.storedT, TripW.stored hB1 hB2 hB3 k9 hS.2.2.2 (by omega)⟩ (StepR.rel rfl ⟨_, _, _, _, _, _, k9, rfl⟩)
 refine obs_stepS (Eq.trans (by simp only [zA, zB, zC]; exact rfl) rfl) rfl (fun w' hS hV K hK => ?_) ?_
 · have q2 := hS.1.cell 0; have q3 := hS.1.cell 1; have q4 := hS.1.cell 2; have q5 := hS.2.1.cell 0; have q6 := hS.2.1.cell 1; have q7 := hS.2.1.cell 2; simp at q2 q3 q4 q5 q6 q7; go_simp; exact hK.out _ _ _ rfl rfl rfl zG
 simp only [zD, zE, zF]
 refine fun w' hS hV => ?_
 have e0 := zQ hV 0
 have e1 := zQ hV 1
 have e2 := zQ hV 2
 have e3 := zQ hV 3
 have e4 := zQ hV 4
 have e6 := zQ hV 6
 have e7 := zQ hV 7
 have e8 := zQ hV 8
 have e9 := zQ hV 9
 have e10 := zQ hV 10
 have e12 := zQ hV 12
 have e13 := zQ hV 13
 have e14 := zQ hV 14
 have e15 := zQ hV 15
 have e16 := zQ hV 16
 have b19 := hV 19 (by decide)
 have e20 := zQ hV 20
 simp only [e0, e1, e2, e3, e4, e6, e7, e8, e9, e10, e12, e13, e14, e15, e16, e20]
 clear e0 e1 e2 e3 e4 e6 e7 e8 e9 e10 e12 e13 e14 e15 e16 e20
 refine wpAny_done (by kernel_rfl) ?_ _
 obtain ⟨A1, c1, A2, c2, A3, c3, -, p9, tw⟩ : (VTs w (w.heap.size + 1 + 1 + 1) n (brMx p MX MX2) (brMx p MY MY2) (brMx p MZ MZ2) (x 18)).p undef w' := b19
 have p0 := p9.cell 0
 have p1 := p9.cell 1
 have p2 := p9.cell 2
 simp at p0 p1 p2
 go_wp2
 exact bodyPost_ret (v := .tuple #[.agg #[.slice A1 n c1, .slice A2 n c2, .slice A3 n c3], .int .i64 0]) (by simp [results, Tryz.results18, go_sem, p0, p1, p2]) rfl ⟨A1, c1, A2, c2, A3, c3, rfl, tw⟩
end Go.Proofs.YtaiegpggccdgoaaGreat
