/- The sorted keys of a map: the library's functions, laid at this dump. -/
import Derived.Shelf.SlIterI.Nil
import Derived.Shelf.SortM.Plain
import Derived.Shelf.SortM.SortNone
import Derived.Test.YtjjghmkjdgogiaaProg
namespace Go.Proofs
open Go.RowKit Go.Maps Go.Sort Go.Shelf
set_option maxRecDepth 100000
def Try.keysA_ren : Shelf.Ren :=
{
  f := fun x =>
    match x with
    | 7 => 35
    | 10 => 47
    | n => n,
  t := fun x =>
    match x with
    | 23 => 65
    | 26 => 3
    | 3 => 3
    | 28 => 78
    | 0 => 0
    | 27 => 77
    | 33 => 50
    | 4 => 4
    | n => n,
  g := fun x =>
    have n := x;
    n }
theorem Try.keysA : SlLaysZI.n7 Try.prog Try.keysA_ren where
  f7 := ⟨"maps.Keys[map[int]int,int,int]", of_decide_eq_true rfl, Try.func35.trans (congrArg some rfl)⟩
  f10 := ⟨"maps.Keys[map[int]int,int,int]$1", of_decide_eq_true rfl, Try.func47.trans (congrArg some rfl)⟩
  mixed := rfl
  t0 := Try.underlying0
  a0 := Try.isAgg0
  z0 := Try.sizeOf0
  v0 := Try.zeroValue0
  t4 := Try.underlying4
  a4 := Try.isAgg4
  z4 := Try.sizeOf4
  v4 := Try.zeroValue4
  t23 := Try.underlying65
  a23 := Try.isAgg65
  z23 := Try.sizeOf65
  v23 := Try.zeroValue65
  t26 := Try.underlying3
  a26 := Try.isAgg3
  z26 := Try.sizeOf3
  v26 := Try.zeroValue3
  t27 := Try.underlying77
  a27 := Try.isAgg77
  z27 := Try.sizeOf77
  v27 := Try.zeroValue77
  t28 := Try.underlying78
  a28 := Try.isAgg78
  z28 := Try.sizeOf78
  v28 := Try.zeroValue78
  t33 := Try.underlying50
  a33 := Try.isAgg50
  z33 := Try.sizeOf50
  v33 := Try.zeroValue50
def Try.sortedA_ren : Shelf.Ren :=
{
  f := fun x =>
    match x with
    | 6 => 34
    | 8 => 45
    | 9 => 46
    | 11 => 48
    | 13 => 50
    | 12 => 49
    | 23 => 60
    | 24 => 61
    | 14 => 51
    | 15 => 52
    | 16 => 53
    | 17 => 54
    | 18 => 55
    | 19 => 56
    | 20 => 57
    | 21 => 58
    | 22 => 59
    | 25 => 62
    | 26 => 63
    | 27 => 64
    | 28 => 65
    | 29 => 66
    | 30 => 67
    | 31 => 68
    | n => n,
  t := fun x =>
    match x with
    | 26 => 3
    | 28 => 78
    | 24 => 41
    | 0 => 0
    | 3 => 3
    | 37 => 93
    | 48 => 102
    | 50 => 104
    | 4 => 4
    | 40 => 96
    | 39 => 95
    | 45 => 68
    | 5 => 5
    | 9 => 9
    | 51 => 105
    | 55 => 109
    | 57 => 111
    | 58 => 112
    | 33 => 50
    | n => n,
  g := fun x =>
    have n := x;
    n }
theorem Try.sortedA : SlLaysZI.n6 Try.prog Try.sortedA_ren where
  f6 := ⟨"slices.Sorted[int]", of_decide_eq_true rfl, Try.func34.trans (congrArg some rfl)⟩
  f8 := ⟨"slices.Collect[int]", of_decide_eq_true rfl, Try.func45.trans (congrArg some rfl)⟩
  f11 := ⟨"slices.AppendSeq[[]int,int]", of_decide_eq_true rfl, Try.func48.trans (congrArg some rfl)⟩
  mixed := rfl
  t0 := Try.underlying0
  a0 := Try.isAgg0
  z0 := Try.sizeOf0
  v0 := Try.zeroValue0
  t24 := Try.underlying41
  a24 := Try.isAgg41
  z24 := Try.sizeOf41
  v24 := Try.zeroValue41
  t26 := Try.underlying3
  a26 := Try.isAgg3
  z26 := Try.sizeOf3
  v26 := Try.zeroValue3
  t28 := Try.underlying78
  a28 := Try.isAgg78
  z28 := Try.sizeOf78
  v28 := Try.zeroValue78
  i26 := rfl
def Try.sortA_ren : Shelf.Ren :=
{
  f := fun x =>
    match x with
    | 5 => 46
    | 8 => 50
    | 7 => 49
    | 19 => 60
    | 20 => 61
    | 10 => 51
    | 11 => 52
    | 12 => 53
    | 13 => 54
    | 14 => 55
    | 15 => 56
    | 16 => 57
    | 17 => 58
    | 18 => 59
    | 30 => 62
    | 31 => 63
    | 32 => 64
    | 33 => 65
    | 34 => 66
    | 35 => 67
    | 40 => 68
    | n => n,
  t := fun x =>
    match x with
    | 23 => 41
    | 25 => 3
    | 3 => 3
    | 32 => 93
    | 22 => 41
    | 0 => 0
    | 44 => 102
    | 46 => 104
    | 4 => 4
    | 36 => 96
    | 35 => 95
    | 41 => 68
    | 5 => 5
    | 9 => 9
    | 53 => 105
    | 57 => 109
    | 63 => 111
    | 64 => 112
    | n => n,
  g := fun x =>
    have n := x;
    n }
theorem Try.sortA : SlLaysM.n5 Try.prog Try.sortA_ren where
  f5 := ⟨"slices.Sort[[]int,int]", of_decide_eq_true rfl, Try.func46.trans (congrArg some rfl)⟩
  f7 := ⟨"slices.pdqsortOrdered[int]", of_decide_eq_true rfl, Try.func49.trans (congrArg some rfl)⟩
  f10 := ⟨"slices.insertionSortOrdered[int]", of_decide_eq_true rfl, Try.func51.trans (congrArg some rfl)⟩
  f11 := ⟨"slices.heapSortOrdered[int]", of_decide_eq_true rfl, Try.func52.trans (congrArg some rfl)⟩
  f12 := ⟨"slices.breakPatternsOrdered[int]", of_decide_eq_true rfl, Try.func53.trans (congrArg some rfl)⟩
  f13 := ⟨"slices.choosePivotOrdered[int]", of_decide_eq_true rfl, Try.func54.trans (congrArg some rfl)⟩
  f14 := ⟨"slices.reverseRangeOrdered[int]", of_decide_eq_true rfl, Try.func55.trans (congrArg some rfl)⟩
  f15 := ⟨"slices.partialInsertionSortOrdered[int]", of_decide_eq_true rfl, Try.func56.trans (congrArg some rfl)⟩
  f16 := ⟨"cmp.Less[int]", of_decide_eq_true rfl, Try.func57.trans (congrArg some rfl)⟩
  f17 := ⟨"slices.partitionEqualOrdered[int]", of_decide_eq_true rfl, Try.func58.trans (congrArg some rfl)⟩
  f18 := ⟨"slices.partitionOrdered[int]", of_decide_eq_true rfl, Try.func59.trans (congrArg some rfl)⟩
  f30 := ⟨"slices.siftDownOrdered[int]", of_decide_eq_true rfl, Try.func62.trans (congrArg some rfl)⟩
  f33 := ⟨"slices.medianAdjacentOrdered[int]", of_decide_eq_true rfl, Try.func65.trans (congrArg some rfl)⟩
  f34 := ⟨"slices.medianOrdered[int]", of_decide_eq_true rfl, Try.func66.trans (congrArg some rfl)⟩
  f35 := ⟨"cmp.isNaN[int]", of_decide_eq_true rfl, Try.func67.trans (congrArg some rfl)⟩
  f40 := ⟨"slices.order2Ordered[int]", of_decide_eq_true rfl, Try.func68.trans (congrArg some rfl)⟩
  mixed := rfl
  f8 := Try.func50.trans (congrArg some rfl)
  f19 := Try.func60.trans (congrArg some rfl)
  f20 := Try.func61.trans (congrArg some rfl)
  f31 := Try.func63.trans (congrArg some rfl)
  f32 := Try.func64.trans (congrArg some rfl)
  t0 := Try.underlying0
  a0 := Try.isAgg0
  z0 := Try.sizeOf0
  v0 := Try.zeroValue0
  t3 := Try.underlying3
  a3 := Try.isAgg3
  z3 := Try.sizeOf3
  v3 := Try.zeroValue3
  t4 := Try.underlying4
  a4 := Try.isAgg4
  z4 := Try.sizeOf4
  v4 := Try.zeroValue4
  t5 := Try.underlying5
  a5 := Try.isAgg5
  z5 := Try.sizeOf5
  v5 := Try.zeroValue5
  t9 := Try.underlying9
  a9 := Try.isAgg9
  z9 := Try.sizeOf9
  v9 := Try.zeroValue9
  t22 := Try.underlying41
  a22 := Try.isAgg41
  z22 := Try.sizeOf41
  v22 := Try.zeroValue41
  t23 := Try.underlying41
  a23 := Try.isAgg41
  z23 := Try.sizeOf41
  v23 := Try.zeroValue41
  t25 := Try.underlying3
  a25 := Try.isAgg3
  z25 := Try.sizeOf3
  v25 := Try.zeroValue3
  t32 := Try.underlying93
  a32 := Try.isAgg93
  z32 := Try.sizeOf93
  v32 := Try.zeroValue93
  t35 := Try.underlying95
  a35 := Try.isAgg95
  z35 := Try.sizeOf95
  v35 := Try.zeroValue95
  t36 := Try.underlying96
  a36 := Try.isAgg96
  z36 := Try.sizeOf96
  v36 := Try.zeroValue96
  t41 := Try.underlying68
  a41 := Try.isAgg68
  z41 := Try.sizeOf68
  v41 := Try.zeroValue68
  t44 := Try.underlying102
  a44 := Try.isAgg102
  z44 := Try.sizeOf102
  v44 := Try.zeroValue102
  t46 := Try.underlying104
  a46 := Try.isAgg104
  z46 := Try.sizeOf104
  v46 := Try.zeroValue104
  t53 := Try.underlying105
  a53 := Try.isAgg105
  z53 := Try.sizeOf105
  v53 := Try.zeroValue105
  t57 := Try.underlying109
  a57 := Try.isAgg109
  z57 := Try.sizeOf109
  v57 := Try.zeroValue109
  t63 := Try.underlying111
  a63 := Try.isAgg111
  z63 := Try.sizeOf111
  v63 := Try.zeroValue111
  t64 := Try.underlying112
  a64 := Try.isAgg112
  z64 := Try.sizeOf112
  v64 := Try.zeroValue112
end Go.Proofs
