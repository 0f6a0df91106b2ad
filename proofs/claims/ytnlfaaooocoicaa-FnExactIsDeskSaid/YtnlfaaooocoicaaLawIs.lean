/-
  FnExactIsDesk: for every desk the law returns true. No condition.
-/
import Derived.Test.YtnlfaaooocoicaaImp2
import Derived.Test.YtnlfaaooocoicaaDesk
import Derived.Test.YtnlfaaooocoicaaDesk2
import Derived.Test.YtnlfaaooocoicaaPost
namespace Go.Proofs.Ytnlfaaooocoicaa
open Go.ChangeShapes Go.WideShapes Go.ChangeAt Go.RowKit

theorem elCode_desk (Q : Int) (zs us : List Int) : (elCode Q zs [us] == 0) = (isDb Q zs && isEl Q zs.length us) := by
  unfold elCode
  simp only [List.any_cons, List.any_nil, Bool.or_false]
  cases isDb Q zs <;> cases isEl Q zs.length us <;> simp

theorem rdII_one {w : World} {g : Nat} {t : TypeId} {D : Option Addr} {l f : Nat} {us : List Int} (k : Blk w g t #[.slice D l f]) (h : Rd w D l (ints us)) (hf : l ≤ f) : RdII w (some ⟨g, 0, none⟩) 1 [us] := by
  have hl : us.length = l := by have := h.1; rwa [ints_length] at this
  subst hl
  refine ⟨[.slice D us.length f], ⟨rfl, fun _ => ⟨g, 0, rfl, fun i u hu => ?_⟩⟩, rfl, fun i hi => ?_⟩
  · match i, hu with
    | 0, hu => simp at hu; subst hu; exact k.cell 0
  · obtain rfl : i = 0 := by simp at hi; omega
    exact ⟨D, f, rfl, h, hf⟩

set_option maxHeartbeats 1000000 in
theorem impIsDesk_any (P Q : Int) (A B C D : Option Addr) (n m k l c d e f : Nat) (xs ys zs us : List Int) (w : World) (hn : n ≤ 1048576) (hm : m ≤ 1048576) (hk : k ≤ 1048576) (hl : l ≤ 1048576) (hf : l ≤ f)
    (ha : Rd w A n (ints xs)) (hb : Rd w B m (ints ys)) (hc : Rd w C k (ints zs)) (hd : Rd w D l (ints us)) :
    Calls Try.prog 13 #[.agg #[.int .i64 P, .slice A n c, .slice B m d, .int .i64 Q, .slice C k e, .slice D l f]] w fun e' w' => e' = .returned (.bool (isDk P xs ys Q zs us)) ∧ Below w.heap.size w w' := by
  have hul : us.length = l := by have := hd.1; rwa [ints_length] at this
  have hB : Below w.heap.size w (w.alloc (.cells #[.int .i64 P, .slice A n c, .slice B m d, .int .i64 Q, .slice C k e, .slice D l f] 28)) := (Below.refl _ _).alloc (Nat.le_refl _) _
  have k0 : Blk (w.alloc (.cells #[.int .i64 P, .slice A n c, .slice B m d, .int .i64 Q, .slice C k e, .slice D l f] 28)) w.heap.size 28 #[.int .i64 P, .slice A n c, .slice B m d, .int .i64 Q, .slice C k e, .slice D l f] := Blk.new _ _ _
  have Hu := Lib.hid hul; clear hul
  cases h2 : (isSp P xs && isMu P xs ys)
  all_goals
    have H2 := Lib.hid h2; clear h2
    go_enter Try.func13, Try.ntmps13
    go_wp2_with fail
    refine (IsMultivector_b _ _ _ _ _ _ _ _ _ _ (by omega) (by omega) (ha.below hB) (hb.below hB) H2.out).mono ?_
    rintro e1 w1 ⟨rfl, hb1⟩
    have hB1 := hB.trans (hb1.mono (by simp))
    obtain ⟨p0, p1, p2, p3, p4, p5⟩ := (k0.below hb1 k0.lt).six
    go_wp2_with fail
  · go_ret
    exact ⟨ret_bool (by unfold isDk; rw [H2.out]; rfl), hB1⟩
  · have hB2 := hB1.alloc hB1.size (.cells #[.slice D l f] 22)
    refine (checkElements_any _ _ _ _ _ _ _ _ _ _ (by omega) (by omega) (hc.below hB2) (rdII_one (Blk.new _ _ _) (hd.below hB2) hf) (by intro ys' hy; simp at hy; subst hy; rw [Hu.out]; exact hl)).mono ?_
    rintro e1 w2 ⟨rfl, hb2⟩
    have he := elCode_desk Q zs us
    have HE := Lib.hid he; clear he
    go_wp2
    go_ret
    exact ⟨ret_bool (by unfold isDk; rw [HE.out, H2.out]; rfl), hB2.trans (hb2.mono hB2.size)⟩

end Go.Proofs.Ytnlfaaooocoicaa
