/-
  The library's sort and compact at lists of int64: the shelf's contracts at this program, in plain words (written by the shelf's own tools), and what they say of a row of the call's own.
-/
import Derived.Ground.SlgmProg
import Derived.Shelf.SortM.Plain
import Derived.Shelf.SlicesE.Compact
import Derived.Ground.SlgnProg
import Derived.Test.YtommppijnccomaaMat
import Derived.Sort.OwnSortedInts
namespace Go.Proofs.Ytommppijnccomaa
open Go.Shelf
def laysSort_ren : Go.Shelf.Ren := ⟨fun | 5 => 45 | 8 => 60 | 7 => 59 | 19 => 84 | 20 => 85 | 10 => 75 | 11 => 76 | 12 => 77 | 13 => 78 | 14 => 79 | 15 => 80 | 16 => 81 | 17 => 82 | 18 => 83 | 30 => 91 | 31 => 92 | 32 => 93 | 33 => 94 | 34 => 95 | 35 => 96 | 40 => 99 | n => n, fun | 23 => 22 | 25 => 2 | 3 => 3 | 32 => 70 | 22 => 22 | 0 => 0 | 44 => 84 | 46 => 64 | 4 => 4 | 36 => 88 | 35 => 87 | 41 => 77 | 5 => 5 | 9 => 9 | 53 => 96 | 57 => 100 | 63 => 102 | 64 => 103 | n => n, fun | n => n⟩
theorem laysSort : Go.Proofs.SlLaysM.n5 Try.prog laysSort_ren := {
  mixed := by kernel_rfl
  f5 := ⟨Try.f45.name, by decide, Try.func45.trans (congrArg some (by kernel_rfl))⟩
  f7 := ⟨Try.f59.name, by decide, Try.func59.trans (congrArg some (by kernel_rfl))⟩
  f8 := Try.func60.trans (congrArg some (by kernel_rfl))
  f10 := ⟨Try.f75.name, by decide, Try.func75.trans (congrArg some (by kernel_rfl))⟩
  f11 := ⟨Try.f76.name, by decide, Try.func76.trans (congrArg some (by kernel_rfl))⟩
  f12 := ⟨Try.f77.name, by decide, Try.func77.trans (congrArg some (by kernel_rfl))⟩
  f13 := ⟨Try.f78.name, by decide, Try.func78.trans (congrArg some (by kernel_rfl))⟩
  f14 := ⟨Try.f79.name, by decide, Try.func79.trans (congrArg some (by kernel_rfl))⟩
  f15 := ⟨Try.f80.name, by decide, Try.func80.trans (congrArg some (by kernel_rfl))⟩
  f16 := ⟨Try.f81.name, by decide, Try.func81.trans (congrArg some (by kernel_rfl))⟩
  f17 := ⟨Try.f82.name, by decide, Try.func82.trans (congrArg some (by kernel_rfl))⟩
  f18 := ⟨Try.f83.name, by decide, Try.func83.trans (congrArg some (by kernel_rfl))⟩
  f19 := Try.func84.trans (congrArg some (by kernel_rfl))
  f20 := Try.func85.trans (congrArg some (by kernel_rfl))
  f30 := ⟨Try.f91.name, by decide, Try.func91.trans (congrArg some (by kernel_rfl))⟩
  f31 := Try.func92.trans (congrArg some (by kernel_rfl))
  f32 := Try.func93.trans (congrArg some (by kernel_rfl))
  f33 := ⟨Try.f94.name, by decide, Try.func94.trans (congrArg some (by kernel_rfl))⟩
  f34 := ⟨Try.f95.name, by decide, Try.func95.trans (congrArg some (by kernel_rfl))⟩
  f35 := ⟨Try.f96.name, by decide, Try.func96.trans (congrArg some (by kernel_rfl))⟩
  f40 := ⟨Try.f99.name, by decide, Try.func99.trans (congrArg some (by kernel_rfl))⟩
  t0 := Try.underlying0
  a0 := Try.isAgg0
  z0 := Try.sizeOf0
  v0 := Try.zeroValue0
  t3 := Try.underlying3
  a3 := Try.isAgg3
  z3 := Try.sizeOf3
  v3 := Try.zeroValue3
  t4 := Try.underlying4
  a4 := Try.isAgg4
  z4 := Try.sizeOf4
  v4 := Try.zeroValue4
  t5 := Try.underlying5
  a5 := Try.isAgg5
  z5 := Try.sizeOf5
  v5 := Try.zeroValue5
  t9 := Try.underlying9
  a9 := Try.isAgg9
  z9 := Try.sizeOf9
  v9 := Try.zeroValue9
  t22 := Try.underlying22
  a22 := Try.isAgg22
  z22 := Try.sizeOf22
  v22 := Try.zeroValue22
  t23 := Try.underlying22
  a23 := Try.isAgg22
  z23 := Try.sizeOf22
  v23 := Try.zeroValue22
  t25 := Try.underlying2
  a25 := Try.isAgg2
  z25 := Try.sizeOf2
  v25 := Try.zeroValue2
  t32 := Try.underlying70
  a32 := Try.isAgg70
  z32 := Try.sizeOf70
  v32 := Try.zeroValue70
  t35 := Try.underlying87
  a35 := Try.isAgg87
  z35 := Try.sizeOf87
  v35 := Try.zeroValue87
  t36 := Try.underlying88
  a36 := Try.isAgg88
  z36 := Try.sizeOf88
  v36 := Try.zeroValue88
  t41 := Try.underlying77
  a41 := Try.isAgg77
  z41 := Try.sizeOf77
  v41 := Try.zeroValue77
  t44 := Try.underlying84
  a44 := Try.isAgg84
  z44 := Try.sizeOf84
  v44 := Try.zeroValue84
  t46 := Try.underlying64
  a46 := Try.isAgg64
  z46 := Try.sizeOf64
  v46 := Try.zeroValue64
  t53 := Try.underlying96
  a53 := Try.isAgg96
  z53 := Try.sizeOf96
  v53 := Try.zeroValue96
  t57 := Try.underlying100
  a57 := Try.isAgg100
  z57 := Try.sizeOf100
  v57 := Try.zeroValue100
  t63 := Try.underlying102
  a63 := Try.isAgg102
  z63 := Try.sizeOf102
  v63 := Try.zeroValue102
  t64 := Try.underlying103
  a64 := Try.isAgg103
  z64 := Try.sizeOf103
  v64 := Try.zeroValue103 }
open Go.Sort Go.RowKit in
theorem slices_Sort_int (blk off cap : Nat) (zs : List Int) (w : World) (hH : Holds (Value.int .i64) w blk off zs.toArray) (hblk : blk < w.heap.size) (hsz : zs.length < 4611686018427387904) :
    Calls Try.prog 45 #[.slice (some ⟨blk, off, none⟩) zs.length cap] w fun e w' =>
      e = .returned (.tuple #[]) ∧ ∃ n os, w' = grow (putRow (Value.int .i64) (Sort.ahead w n) blk off (zs.mergeSort fun x y => decide (x ≤ y)).toArray) os := AnyM.slices_Sort_int laysSort blk off cap zs w hH hblk hsz
def laysCompact_ren : Go.Shelf.Ren := ⟨fun | 43 => 46 | n => n, fun | 22 => 22 | 23 => 2 | 3 => 3 | 4 => 4 | 0 => 0 | n => n, fun | n => n⟩
theorem laysCompact : Go.Proofs.SlLaysE.n43 Try.prog laysCompact_ren := {
  mixed := by kernel_rfl
  f43 := ⟨Try.f46.name, by decide, Try.func46.trans (congrArg some (by kernel_rfl))⟩
  t0 := Try.underlying0
  a0 := Try.isAgg0
  z0 := Try.sizeOf0
  v0 := Try.zeroValue0
  t3 := Try.underlying3
  a3 := Try.isAgg3
  z3 := Try.sizeOf3
  v3 := Try.zeroValue3
  t4 := Try.underlying4
  a4 := Try.isAgg4
  z4 := Try.sizeOf4
  v4 := Try.zeroValue4
  t22 := Try.underlying22
  a22 := Try.isAgg22
  z22 := Try.sizeOf22
  v22 := Try.zeroValue22
  a23 := Try.isAgg2
  z23 := Try.sizeOf2 }

open Go.Sort Go.RowKit
/-- Sorted. -/
def sortL (zs : List Int) : List Int := zs.mergeSort fun x y => decide (x ≤ y)
theorem sortL_len (zs : List Int) : (sortL zs).length = zs.length := List.length_mergeSort zs

theorem own_sorted {w0 wr : World} {g n c q : Nat} {os : Array Obj} {zs ts : List Int} (h : MkI w0 wr (some ⟨g, 0, none⟩) n c zs) (hl : ts.length = zs.length) :
    MkI w0 (grow (putRow (Value.int .i64) (Sort.ahead wr q) g 0 ts.toArray) os) (some ⟨g, 0, none⟩) n c ts ∧ wr.grownBy (grow (putRow (Value.int .i64) (Sort.ahead wr q) g 0 ts.toArray) os) (some g) := by
  have hn : zs.length = n := by have := h.2.len; rwa [ints_length] at this
  subst hn
  have hg := grownBy_sortedI (w := wr) (g := g) (n := q) (os := os) ts.toArray
  rcases h.2.2 with ⟨he, _⟩ | ⟨g', cap, cur, he, hB, hc, h1, h2, h3, ht⟩
  · cases he
  · cases he
    exact ⟨⟨h.1.grown hg h.1.size (fun k hk => by injection hk with hk; subst hk; exact hB), ownsRow_sortedI hl hB hc h1 h2 h3⟩, hg⟩

theorem holds_own {w0 wr : World} {g n c : Nat} {zs : List Int} (h : MkI w0 wr (some ⟨g, 0, none⟩) n c zs) : Holds (Value.int .i64) wr g 0 zs.toArray ∧ g < wr.heap.size ∧ n ≤ c := by
  have hn : zs.length = n := by have := h.2.len; rwa [ints_length] at this
  subst hn
  rcases h.2.2 with ⟨he, _⟩ | ⟨g', cap, cur, he, hB, hc, h1, h2, h3, ht⟩
  · cases he
  · cases he
    exact ⟨holds_of_blockI hc (by simpa [ints] using ht), (Array.getElem?_eq_some_iff.1 hc).1, h1⟩

theorem sort_own (w0 wr : World) (g n c : Nat) (zs : List Int) (h : MkI w0 wr (some ⟨g, 0, none⟩) n c zs) (hn : n ≤ 1099511627776) :
    Calls Try.prog 45 #[.slice (some ⟨g, 0, none⟩) n c] wr fun e w' => e = .returned (.tuple #[]) ∧ MkI w0 w' (some ⟨g, 0, none⟩) n c (sortL zs) ∧ wr.grownBy w' (some g) := by
  have hl : zs.length = n := by have := h.2.len; rwa [ints_length] at this
  obtain ⟨h1, h2, h3⟩ := holds_own h
  have hc := slices_Sort_int g 0 c zs wr h1 h2 (by omega)
  rw [hl] at hc
  refine hc.mono ?_
  rintro e w' ⟨rfl, q, os, rfl⟩
  obtain ⟨h4, h5⟩ := own_sorted (q := q) (os := os) h (sortL_len zs)
  exact ⟨rfl, h4, h5⟩

theorem compact_own (w0 wr : World) (g n c : Nat) (zs : List Int) (h : MkI w0 wr (some ⟨g, 0, none⟩) n c zs) (hn : n ≤ 1099511627776) :
    Calls Try.prog 46 #[.slice (some ⟨g, 0, none⟩) n c] wr fun e w' => e = .returned (.slice (some ⟨g, 0, none⟩) (Lib.compact zs).length c) ∧ MkI w0 w' (some ⟨g, 0, none⟩) (Lib.compact zs).length c (Lib.compact zs) := by
  have hl : zs.length = n := by have := h.2.len; rwa [ints_length] at this
  obtain ⟨h1, h2, h3⟩ := holds_own h
  have hc := AnyE.slices_Compact laysCompact (Value.int .i64) (fun _ => rfl) (EqlAt.intD _ _ .i64) (NeqAt.intD _ _ .i64) 0 Try.zeroValue2 g 0 c zs.toArray wr h1 (by simp; omega) (by simp; omega)
  have hs : zs.toArray.size = n := by simpa using hl
  have hle : (Lib.compactUpTo zs.toArray n).length ≤ n := by
    unfold Lib.compactUpTo
    rw [List.length_map]
    exact Nat.le_trans (List.length_filter_le _ _) (by simp)
  have he : Lib.compact zs = Lib.compactUpTo zs.toArray n := by unfold Lib.compact; rw [hl]
  rw [hs] at hc
  rw [he]
  refine hc.mono ?_
  rintro e w' ⟨rfl, q, rfl⟩
  obtain ⟨h4, h5⟩ := own_sorted (ts := Lib.compactUpTo zs.toArray n ++ List.replicate (n - (Lib.compactUpTo zs.toArray n).length) 0) (q := q) (os := #[]) h (by simp; omega)
  rw [grow_empty] at h4
  refine ⟨rfl, h4.1, ?_⟩
  have := h4.2.cut hle
  have e2 : (ints (Lib.compactUpTo zs.toArray n ++ List.replicate (n - (Lib.compactUpTo zs.toArray n).length) 0)).take (Lib.compactUpTo zs.toArray n).length = ints (Lib.compactUpTo zs.toArray n) := by
    rw [← ints_append, List.take_left' (by rw [ints_length])]
  rwa [e2] at this
end Go.Proofs.Ytommppijnccomaa
