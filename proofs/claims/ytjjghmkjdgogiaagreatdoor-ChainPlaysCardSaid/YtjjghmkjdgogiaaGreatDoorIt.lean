/- The sorted keys of a map: the library's functions, laid at this dump. -/
import Derived.Shelf.SlIterI.Nil
import Derived.Shelf.SortM.Plain
import Derived.Shelf.SortM.SortNone
import Derived.Test.YtjjghmkjdgogiaaGreatDoorProg
namespace Go.Proofs
open Go.RowKit Go.Maps Go.Sort Go.Shelf
set_option maxRecDepth 100000
def Tryz.keysA_ren : Ren :=
{
 f := fun x =>
  match x with
  | 7 => 25
  | 10 => 142
  | n => n,
 t := fun x =>
  match x with
  | 23 => 37
  | 26 => 3
  | 3 => 3
  | 28 => 101
  | 0 => 0
  | 27 => 100
  | 33 => 123
  | 4 => 4
  | n => n,
 g := fun x =>
  have n := x;
  n }
theorem Tryz.keysA : SlLaysZI.n7 Tryz.prog Tryz.keysA_ren where
 f7 := ⟨"maps.Keys[map[int]int,int,int]", of_decide_eq_true rfl, Tryz.func25.trans (congrArg some rfl)⟩
 f10 := ⟨"maps.Keys[map[int]int,int,int]$1", of_decide_eq_true rfl, Tryz.func142.trans (congrArg some rfl)⟩
 mixed := rfl
 t0 := Tryz.underlying0
 a0 := Tryz.isAgg0
 z0 := Tryz.sizeOf0
 v0 := Tryz.zeroValue0
 t4 := Tryz.underlying4
 a4 := Tryz.isAgg4
 z4 := Tryz.sizeOf4
 v4 := Tryz.zeroValue4
 t23 := Tryz.underlying37
 a23 := Tryz.isAgg37
 z23 := Tryz.sizeOf37
 v23 := Tryz.zeroValue37
 t26 := Tryz.underlying3
 a26 := Tryz.isAgg3
 z26 := Tryz.sizeOf3
 v26 := Tryz.zeroValue3
 t27 := Tryz.underlying100
 a27 := Tryz.isAgg100
 z27 := Tryz.sizeOf100
 v27 := Tryz.zeroValue100
 t28 := Tryz.underlying101
 a28 := Tryz.isAgg101
 z28 := Tryz.sizeOf101
 v28 := Tryz.zeroValue101
 t33 := Tryz.underlying123
 a33 := Tryz.isAgg123
 z33 := Tryz.sizeOf123
 v33 := Tryz.zeroValue123
def Tryz.sortedA_ren : Ren :=
{
 f := fun x =>
  match x with
  | 6 => 24
  | 8 => 140
  | 9 => 141
  | 11 => 210
  | 13 => 212
  | 12 => 211
  | 23 => 223
  | 24 => 224
  | 14 => 214
  | 15 => 215
  | 16 => 216
  | 17 => 217
  | 18 => 218
  | 19 => 219
  | 20 => 220
  | 21 => 221
  | 22 => 222
  | 25 => 226
  | 26 => 227
  | 27 => 228
  | 28 => 229
  | 29 => 230
  | 30 => 231
  | 31 => 233
  | n => n,
 t := fun x =>
  match x with
  | 26 => 3
  | 28 => 101
  | 24 => 23
  | 0 => 0
  | 3 => 3
  | 37 => 112
  | 48 => 391
  | 50 => 393
  | 4 => 4
  | 40 => 385
  | 39 => 384
  | 45 => 97
  | 5 => 5
  | 9 => 9
  | 51 => 394
  | 55 => 398
  | 57 => 400
  | 58 => 401
  | 33 => 123
  | n => n,
 g := fun x =>
  have n := x;
  n }
theorem Tryz.sortedA : SlLaysZI.n6 Tryz.prog Tryz.sortedA_ren where
 f6 := ⟨"slices.Sorted[int]", of_decide_eq_true rfl, Tryz.func24.trans (congrArg some rfl)⟩
 f8 := ⟨"slices.Collect[int]", of_decide_eq_true rfl, Tryz.func140.trans (congrArg some rfl)⟩
 f11 := ⟨"slices.AppendSeq[[]int,int]", of_decide_eq_true rfl, Tryz.func210.trans (congrArg some rfl)⟩
 mixed := rfl
 t0 := Tryz.underlying0
 a0 := Tryz.isAgg0
 z0 := Tryz.sizeOf0
 v0 := Tryz.zeroValue0
 t24 := Tryz.underlying23
 a24 := Tryz.isAgg23
 z24 := Tryz.sizeOf23
 v24 := Tryz.zeroValue23
 t26 := Tryz.underlying3
 a26 := Tryz.isAgg3
 z26 := Tryz.sizeOf3
 v26 := Tryz.zeroValue3
 t28 := Tryz.underlying101
 a28 := Tryz.isAgg101
 z28 := Tryz.sizeOf101
 v28 := Tryz.zeroValue101
 i26 := rfl
def Tryz.sortA_ren : Ren :=
{
 f := fun x =>
  match x with
  | 5 => 141
  | 8 => 212
  | 7 => 211
  | 19 => 223
  | 20 => 224
  | 10 => 214
  | 11 => 215
  | 12 => 216
  | 13 => 217
  | 14 => 218
  | 15 => 219
  | 16 => 220
  | 17 => 221
  | 18 => 222
  | 30 => 226
  | 31 => 227
  | 32 => 228
  | 33 => 229
  | 34 => 230
  | 35 => 231
  | 40 => 233
  | n => n,
 t := fun x =>
  match x with
  | 23 => 23
  | 25 => 3
  | 3 => 3
  | 32 => 112
  | 22 => 23
  | 0 => 0
  | 44 => 391
  | 46 => 393
  | 4 => 4
  | 36 => 385
  | 35 => 384
  | 41 => 97
  | 5 => 5
  | 9 => 9
  | 53 => 394
  | 57 => 398
  | 63 => 400
  | 64 => 401
  | n => n,
 g := fun x =>
  have n := x;
  n }
theorem Tryz.sortA : SlLaysM.n5 Tryz.prog Tryz.sortA_ren where
 f5 := ⟨"slices.Sort[[]int,int]", of_decide_eq_true rfl, Tryz.func141.trans (congrArg some rfl)⟩
 f7 := ⟨"slices.pdqsortOrdered[int]", of_decide_eq_true rfl, Tryz.func211.trans (congrArg some rfl)⟩
 f10 := ⟨"slices.insertionSortOrdered[int]", of_decide_eq_true rfl, Tryz.func214.trans (congrArg some rfl)⟩
 f11 := ⟨"slices.heapSortOrdered[int]", of_decide_eq_true rfl, Tryz.func215.trans (congrArg some rfl)⟩
 f12 := ⟨"slices.breakPatternsOrdered[int]", of_decide_eq_true rfl, Tryz.func216.trans (congrArg some rfl)⟩
 f13 := ⟨"slices.choosePivotOrdered[int]", of_decide_eq_true rfl, Tryz.func217.trans (congrArg some rfl)⟩
 f14 := ⟨"slices.reverseRangeOrdered[int]", of_decide_eq_true rfl, Tryz.func218.trans (congrArg some rfl)⟩
 f15 := ⟨"slices.partialInsertionSortOrdered[int]", of_decide_eq_true rfl, Tryz.func219.trans (congrArg some rfl)⟩
 f16 := ⟨"cmp.Less[int]", of_decide_eq_true rfl, Tryz.func220.trans (congrArg some rfl)⟩
 f17 := ⟨"slices.partitionEqualOrdered[int]", of_decide_eq_true rfl, Tryz.func221.trans (congrArg some rfl)⟩
 f18 := ⟨"slices.partitionOrdered[int]", of_decide_eq_true rfl, Tryz.func222.trans (congrArg some rfl)⟩
 f30 := ⟨"slices.siftDownOrdered[int]", of_decide_eq_true rfl, Tryz.func226.trans (congrArg some rfl)⟩
 f33 := ⟨"slices.medianAdjacentOrdered[int]", of_decide_eq_true rfl, Tryz.func229.trans (congrArg some rfl)⟩
 f34 := ⟨"slices.medianOrdered[int]", of_decide_eq_true rfl, Tryz.func230.trans (congrArg some rfl)⟩
 f35 := ⟨"cmp.isNaN[int]", of_decide_eq_true rfl, Tryz.func231.trans (congrArg some rfl)⟩
 f40 := ⟨"slices.order2Ordered[int]", of_decide_eq_true rfl, Tryz.func233.trans (congrArg some rfl)⟩
 mixed := rfl
 f8 := Tryz.func212.trans (congrArg some rfl)
 f19 := Tryz.func223.trans (congrArg some rfl)
 f20 := Tryz.func224.trans (congrArg some rfl)
 f31 := Tryz.func227.trans (congrArg some rfl)
 f32 := Tryz.func228.trans (congrArg some rfl)
 t0 := Tryz.underlying0
 a0 := Tryz.isAgg0
 z0 := Tryz.sizeOf0
 v0 := Tryz.zeroValue0
 t3 := Tryz.underlying3
 a3 := Tryz.isAgg3
 z3 := Tryz.sizeOf3
 v3 := Tryz.zeroValue3
 t4 := Tryz.underlying4
 a4 := Tryz.isAgg4
 z4 := Tryz.sizeOf4
 v4 := Tryz.zeroValue4
 t5 := Tryz.underlying5
 a5 := Tryz.isAgg5
 z5 := Tryz.sizeOf5
 v5 := Tryz.zeroValue5
 t9 := Tryz.underlying9
 a9 := Tryz.isAgg9
 z9 := Tryz.sizeOf9
 v9 := Tryz.zeroValue9
 t22 := Tryz.underlying23
 a22 := Tryz.isAgg23
 z22 := Tryz.sizeOf23
 v22 := Tryz.zeroValue23
 t23 := Tryz.underlying23
 a23 := Tryz.isAgg23
 z23 := Tryz.sizeOf23
 v23 := Tryz.zeroValue23
 t25 := Tryz.underlying3
 a25 := Tryz.isAgg3
 z25 := Tryz.sizeOf3
 v25 := Tryz.zeroValue3
 t32 := Tryz.underlying112
 a32 := Tryz.isAgg112
 z32 := Tryz.sizeOf112
 v32 := Tryz.zeroValue112
 t35 := Tryz.underlying384
 a35 := Tryz.isAgg384
 z35 := Tryz.sizeOf384
 v35 := Tryz.zeroValue384
 t36 := Tryz.underlying385
 a36 := Tryz.isAgg385
 z36 := Tryz.sizeOf385
 v36 := Tryz.zeroValue385
 t41 := Tryz.underlying97
 a41 := Tryz.isAgg97
 z41 := Tryz.sizeOf97
 v41 := Tryz.zeroValue97
 t44 := Tryz.underlying391
 a44 := Tryz.isAgg391
 z44 := Tryz.sizeOf391
 v44 := Tryz.zeroValue391
 t46 := Tryz.underlying393
 a46 := Tryz.isAgg393
 z46 := Tryz.sizeOf393
 v46 := Tryz.zeroValue393
 t53 := Tryz.underlying394
 a53 := Tryz.isAgg394
 z53 := Tryz.sizeOf394
 v53 := Tryz.zeroValue394
 t57 := Tryz.underlying398
 a57 := Tryz.isAgg398
 z57 := Tryz.sizeOf398
 v57 := Tryz.zeroValue398
 t63 := Tryz.underlying400
 a63 := Tryz.isAgg400
 z63 := Tryz.sizeOf400
 v63 := Tryz.zeroValue400
 t64 := Tryz.underlying401
 a64 := Tryz.isAgg401
 z64 := Tryz.sizeOf401
 v64 := Tryz.zeroValue401
end Go.Proofs
