import Derived.Test.YtkndmgfahghcjaaGreatShelf
import Derived.Test.YtkndmgfahghcjaaGreatSLN
import Derived.Shelf.SlIterI.Nil
import Derived.Shelf.SortM.Plain
import Derived.Shelf.SortM.SortNone
import Derived.Shelf.SlIter.Nil
import Derived.Shelf.SlMaps.Clone
import Derived.Test.YtkndmgfahghcjaaGreatProg
/- The sorted keys of a map of ints (slices.Sorted of maps.Keys), for the small separation logic. -/
namespace Go.SL
open Go Go.RowKit Go.MapKept Go.Maps Go.Sort Go.Shelf Go.Proofs
open Go.WideElems (Fit rg)
section
variable {P : Program} {W0 w w' : World} {ρ ρ' : Ren}
/-- What a call has made, beside what was. -/
theorem st_later {L : List HP} {o : Obj} {g : Nat} (h : st W0 w L) (hb : Below w.heap.size w w') (hg : w.heap.size ≤ g) (hn : w'.heap[g]? = some o) : st W0 w' (own g o :: L) := by
  obtain ⟨hB, x, hs, hx⟩ := h
  have hlt : ∀ {k : Nat} {o : Obj}, w.heap[k]? = some o → k < w.heap.size := fun e => (Array.getElem?_eq_some_iff.1 e).1
  have hd : Hp.disj (Hp.one g o) x := fun k u e => by
    obtain ⟨rfl, rfl⟩ := Hp.one_some e
    cases hxx : x k with
    | none => rfl
    | some y => exact absurd (hlt (hx _ _ hxx).2) (by omega)
  refine ⟨hB.trans (hb.mono hB.size), Hp.un (Hp.one g o) x, ⟨_, x, hd, Hp.le_un_left _ _, Hp.le_un_right hd, Hp.one_at _ o, hs⟩, ?_⟩
  intro k u e
  rcases Hp.un_some e with e | e
  · obtain ⟨rfl, rfl⟩ := Hp.one_some e; exact ⟨by have := hB.size; omega, hn⟩
  · have := hx k u e
    exact ⟨this.1, by rw [hb.block k (hlt this.2)]; exact this.2⟩
theorem st_mp2 {L : List HP} {b i : Nat} {kvs : List (Value × Value)} (h : st W0 w L) (hi : L[i]? = some (mp b kvs)) : ∃ (es : Array MapEntry) (clock : Nat), w.heap[b]? = some (.map es clock) ∧ es.toList.map (fun e => (e.key, e.val)) = kvs ∧ Stamped es clock := by
 obtain ⟨_, x, hL, hx⟩ := h
 obtain ⟨a, ha, es, clock, h5, h6, h7⟩ := stL_get hL hi
 exact ⟨es, clock, (hx _ _ (ha _ _ h5)).2, h6, h7⟩
theorem st_rowMade {L : List HP} {e n : Nat} {v : Value} {xs : List Value} (h : st W0 w L) (hb : Below w.heap.size w w') (hr : w'.ownsRow w.heap.size e 1 v n xs) : st W0 w' (sl e 1 v n xs :: L) := by
  obtain ⟨hl, hr | ⟨g, cap, cur, hv, hg, hc, h1, h2, h3, h4⟩⟩ := hr
  · have := st_below h hb
    obtain ⟨hB, x, hs, hx⟩ := this
    exact ⟨hB, x, ⟨Hp.emp, x, Hp.emp_disj x, Hp.emp_le x, Hp.le_refl x, ⟨hl, .inl hr⟩, hs⟩, hx⟩
  · refine st_head (fun y hy => ?_) (st_later h hb hg hc)
    refine ⟨hl, .inr ⟨g, cap, hv, h1, cur.toList, ?_, ?_, h2, ?_, by have hy : y g = _ := hy; simpa using hy⟩⟩
    · simpa using h3
    · rw [hl]; simp; omega
    · rw [hl]; exact h4
end
end Go.SL

/- The sorted keys of a map of strings, and a map's clone, for the small separation logic. -/
namespace Go.SL
open Go Go.RowKit Go.MapKept Go.Maps Go.Sort Go.Shelf Go.Proofs
open Go.WideElems (Fit rg)
section
variable {P : Program} {W0 w w' : World} {ρ ρ' : Ren}
theorem con_keysS (K : SlLaysZ.n7 P ρ) (b : Nat) : Con P W0 (ρ.f 7) #[.map (some b)] [] (X := Nat) (fun _ => True) (fun q => .func (.func (ρ.f 10)) #[] #[.pointer (some ⟨q, 0, none⟩)]) (fun q => [pt q (ρ.t 23) [.map (some b)]]) := fun w F hs =>
 ((callsIn_wide (n := 5)).1 (AnyZ.keys_in K Fence.wide 5 trivial rfl (some b) w)).mono fun e w' ⟨he, hw⟩ => by
  subst he hw
  exact ⟨w.heap.size, trivial, rfl, st_new hs⟩
def strB : Value → List UInt8
 | .string s => s.data.toList
 | _ => []
/-- Sorted of Keys: a new slice of the keys, in order. -/
theorem con_sortedS (K : SlLaysZ.n7 P ρ) (S : SlLaysZ.n6 P ρ') (hsort : ∀ m, AnyZ.SortsIn P ρ' Fence.wide m) (e9 : ∀ args w, (callFunc (ρ'.f 9) args).run P w = .ok (.enter (ρ'.f 9) args) w) (e10 : ∀ args w, (callFunc (ρ.f 10) args).run P w = .ok (.enter (ρ.f 10) args) w)
  (h26 : P.underlying (ρ.t 26) = some .string) (q b : Nat) (ks : List (List UInt8 × Value)) (hk : ∀ p ∈ ks, p.1.length ≤ maxLen) (hlen : ks.length ≤ 8796093022208) :
  Con P W0 (ρ'.f 6) #[.func (.func (ρ.f 10)) #[] #[.pointer (some ⟨q, 0, none⟩)]] [pt q (ρ.t 23) [.map (some b)], mp b (ks.map fun p => (encStr p.1, p.2))] (X := Value) (fun _ => True) (fun v => v)
   (fun v => [sl (ρ'.t 26) 1 v ks.length (((ks.map (·.1)).mergeSort leB).map encStr), pt q (ρ.t 23) [.map (some b)], mp b (ks.map fun p => (encStr p.1, p.2))]) := fun w F hs => by
 have hq : w.cell? ⟨q, 0, none⟩ = some (.map (some b)) := st_cell (i := 0) hs rfl rfl
 have hqb := (Array.getElem?_eq_some_iff.1 (st_own (i := 0) hs rfl).2).1
 obtain ⟨es, clock, hb, hkv, hst⟩ := st_mp2 (i := 1) hs rfl
 have hsz : es.size = ks.length := by have := congrArg List.length hkv; simpa using this
 have hx : ∀ x ∈ es.toList, ∃ p ∈ ks, x.key = encStr p.1 := fun x hx => by
  have : (x.key, x.val) ∈ ks.map fun p => (encStr p.1, p.2) := hkv ▸ List.mem_map.2 ⟨x, hx, rfl⟩
  obtain ⟨p, hp, he⟩ := List.mem_map.1 this
  exact ⟨p, hp, (congrArg Prod.fst he).symm⟩
 have hko : ∀ x ∈ es.toList, keyOf P (ρ.t 26) x.key = some (.string (strB x.key)) := fun x hxm => by
  obtain ⟨p, hp, he⟩ := hx x hxm
  rw [he]
  have hp' := hk p hp
  simp [keyOf, h26, mapKey, strB, encStr, ByteArray.size, hp']
 have hrd : ∀ x ∈ es.toList, WideElems.rd P (ρ.t 26) (fun _ => some ((DataW.nil : DataW Unit), [])) x = some (.string (strB x.key), .nil) := fun x hxm => by
  unfold WideElems.rd; rw [hko x hxm]; rfl
 have hrg : ∀ x ∈ es.toList, rg P (ρ.t 26) (fun _ => some ((DataW.nil : DataW Unit), [])) x = (.string (strB x.key), .nil) := fun x hxm => by
  unfold rg; rw [hrd x hxm]; rfl
 have hown : w.ownsMap P (ρ.t 26) (fun _ => some ((DataW.nil : DataW Unit), [])) b es.size (.map ((es.toList.map (rg P (ρ.t 26) (fun _ => some ((DataW.nil : DataW Unit), [])))).foldr DataW.insert [])) :=
  ⟨es, clock, hb, ⟨by rw [hsz]; unfold maxLen; omega, hst, fun x hxm => ⟨_, hrd x hxm⟩⟩, Nat.le_refl _, rfl⟩
 have hms : Maps.size (.map ((es.toList.map (rg P (ρ.t 26) (fun _ => some ((DataW.nil : DataW Unit), [])))).foldr DataW.insert [])) = ks.length := by
  show (_ : List _).length = _
  rw [length_sorted]; simp [hsz]
 have hperm : (strKeys (.map ((es.toList.map (rg P (ρ.t 26) (fun _ => some ((DataW.nil : DataW Unit), [])))).foldr DataW.insert []))).Perm (ks.map (·.1)) := by
  refine ((WideShapes.sorted_perm _).map fun p => strOf p.1).trans (List.Perm.of_eq ?_)
  rw [List.map_map]
  have h1 : es.toList.map ((fun p : Lit × DataW Unit => strOf p.1) ∘ rg P (ρ.t 26) (fun _ => some ((DataW.nil : DataW Unit), []))) = (es.toList.map (fun e => (e.key, e.val))).map fun p => strB p.1 := by
   rw [List.map_map]
   refine List.map_congr_left fun x hxm => ?_
   simp only [Function.comp, hrg x hxm, strOf]
  rw [h1, hkv, List.map_map]
  exact List.map_congr_left fun p _ => rfl
 have hseq := AnyZ.keys_gives (ρ := ρ) { K with } Fence.wide 2 trivial rfl (by omega) q b es.size _ w hqb hq hown
 have cS := AnyZ.sorted_in S Fence.wide 5 trivial trivial trivial trivial rfl (by omega) (hsort _) e9 (ρ.f 10) #[.pointer (some ⟨q, 0, none⟩)] trivial e10 _ _ (by rw [hms]; unfold maxLen; omega) (by rw [hms]; omega) w hseq
 refine ((callsIn_wide (n := 5)).1 cS).mono fun e w' ⟨v, ss, he, hS, hrow, _, hB⟩ => ?_
 subst he
 have hp := hS.trans hperm
 have hl : ss.length = ks.length := by rw [hp.length_eq, List.length_map]
 rw [mergeSort_of_perm hp, hl] at hrow
 exact ⟨v, trivial, rfl, st_rowMade hs hB hrow⟩
/-- maps.Clone: a map of its own, with the same entries. -/
theorem con_clone (K : SlLaysW.n5 P ρ) (b : Nat) (kvs : List (Value × Value)) : Con P W0 (ρ.f 5) #[.map (some b)] [mp b kvs] (X := Nat) (fun _ => True) (fun q => .map (some q)) (fun q => [mp q kvs, mp b kvs]) := fun w F hs => by
 obtain ⟨es, clock, hb, hkv, hst⟩ := st_mp2 (i := 0) hs rfl
 refine (AnyW.maps_Clone K b es clock w hb).mono fun e w' ⟨he, hw⟩ => ?_
 subst he hw
 exact ⟨w.heap.size, trivial, rfl, st_head (p := own w.heap.size (.map es clock)) (fun _ hp => ⟨es, clock, hp, hkv, hst⟩) (st_new hs)⟩
end
end Go.SL

/- The sorted keys of a map: the library's functions, laid at this dump. -/
namespace Go.Proofs
open Go.RowKit Go.Maps Go.Sort Go.Shelf
set_option maxRecDepth 100000
def Tryz.keysA_ren : Ren :=
{
 f := fun x =>
  match x with
  | 7 => 54
  | 10 => 83
  | n => n,
 t := fun x =>
  match x with
  | 23 => 47
  | 26 => 9
  | 3 => 9
  | 28 => 89
  | 0 => 0
  | 27 => 88
  | 33 => 120
  | 4 => 4
  | n => n,
 g := fun x =>
  have n := x;
  n }
theorem Tryz.keysA : SlLaysZ.n7 Tryz.prog Tryz.keysA_ren where
 f7 := ⟨"maps.Keys[map[string]string,string,string]", of_decide_eq_true rfl, Tryz.func54.trans (congrArg some rfl)⟩
 f10 := ⟨"maps.Keys[map[string]string,string,string]$1", of_decide_eq_true rfl, Tryz.func83.trans (congrArg some rfl)⟩
 mixed := rfl
 t0 := Tryz.underlying0
 a0 := Tryz.isAgg0
 z0 := Tryz.sizeOf0
 v0 := Tryz.zeroValue0
 t4 := Tryz.underlying4
 a4 := Tryz.isAgg4
 z4 := Tryz.sizeOf4
 v4 := Tryz.zeroValue4
 t23 := Tryz.underlying47
 a23 := Tryz.isAgg47
 z23 := Tryz.sizeOf47
 v23 := Tryz.zeroValue47
 t26 := Tryz.underlying9
 a26 := Tryz.isAgg9
 z26 := Tryz.sizeOf9
 v26 := Tryz.zeroValue9
 t27 := Tryz.underlying88
 a27 := Tryz.isAgg88
 z27 := Tryz.sizeOf88
 v27 := Tryz.zeroValue88
 t28 := Tryz.underlying89
 a28 := Tryz.isAgg89
 z28 := Tryz.sizeOf89
 v28 := Tryz.zeroValue89
 t33 := Tryz.underlying120
 a33 := Tryz.isAgg120
 z33 := Tryz.sizeOf120
 v33 := Tryz.zeroValue120
def Tryz.sortedA_ren : Ren :=
{
 f := fun x =>
  match x with
  | 6 => 53
  | 8 => 81
  | 9 => 82
  | 11 => 96
  | 13 => 98
  | 12 => 97
  | 23 => 115
  | 24 => 116
  | 14 => 106
  | 15 => 107
  | 16 => 108
  | 17 => 109
  | 18 => 110
  | 19 => 111
  | 20 => 112
  | 21 => 113
  | 22 => 114
  | 25 => 125
  | 26 => 126
  | 27 => 127
  | 28 => 128
  | 29 => 129
  | 30 => 130
  | 31 => 135
  | n => n,
 t := fun x =>
  match x with
  | 26 => 9
  | 28 => 89
  | 24 => 50
  | 0 => 0
  | 3 => 3
  | 37 => 124
  | 48 => 160
  | 50 => 125
  | 4 => 4
  | 40 => 152
  | 39 => 151
  | 45 => 157
  | 5 => 5
  | 9 => 9
  | 51 => 168
  | 55 => 172
  | 57 => 178
  | 58 => 179
  | 33 => 120
  | n => n,
 g := fun x =>
  have n := x;
  n }
theorem Tryz.sortedA : SlLaysZ.n6 Tryz.prog Tryz.sortedA_ren where
 f6 := ⟨"slices.Sorted[string]", of_decide_eq_true rfl, Tryz.func53.trans (congrArg some rfl)⟩
 f8 := ⟨"slices.Collect[string]", of_decide_eq_true rfl, Tryz.func81.trans (congrArg some rfl)⟩
 f11 := ⟨"slices.AppendSeq[[]string,string]", of_decide_eq_true rfl, Tryz.func96.trans (congrArg some rfl)⟩
 mixed := rfl
 t0 := Tryz.underlying0
 a0 := Tryz.isAgg0
 z0 := Tryz.sizeOf0
 v0 := Tryz.zeroValue0
 t24 := Tryz.underlying50
 a24 := Tryz.isAgg50
 z24 := Tryz.sizeOf50
 v24 := Tryz.zeroValue50
 t26 := Tryz.underlying9
 a26 := Tryz.isAgg9
 z26 := Tryz.sizeOf9
 v26 := Tryz.zeroValue9
 t28 := Tryz.underlying89
 a28 := Tryz.isAgg89
 z28 := Tryz.sizeOf89
 v28 := Tryz.zeroValue89
 i26 := rfl
def Tryz.sortA_ren : Ren :=
{
 f := fun x =>
  match x with
  | 6 => 82
  | 8 => 98
  | 9 => 97
  | 19 => 115
  | 20 => 116
  | 21 => 106
  | 22 => 107
  | 23 => 108
  | 24 => 109
  | 25 => 110
  | 26 => 111
  | 27 => 112
  | 28 => 113
  | 29 => 114
  | 36 => 125
  | 31 => 126
  | 32 => 127
  | 37 => 128
  | 38 => 129
  | 39 => 130
  | 41 => 135
  | n => n,
 t := fun x =>
  match x with
  | 27 => 50
  | 29 => 9
  | 3 => 3
  | 32 => 124
  | 26 => 50
  | 0 => 0
  | 44 => 160
  | 46 => 125
  | 4 => 4
  | 36 => 152
  | 35 => 151
  | 41 => 157
  | 5 => 5
  | 9 => 9
  | 53 => 168
  | 57 => 172
  | 63 => 178
  | 64 => 179
  | n => n,
 g := fun x =>
  have n := x;
  n }
theorem Tryz.sortA : SlLaysM.n6 Tryz.prog Tryz.sortA_ren where
 f6 := ⟨"slices.Sort[[]string,string]", of_decide_eq_true rfl, Tryz.func82.trans (congrArg some rfl)⟩
 f9 := ⟨"slices.pdqsortOrdered[string]", of_decide_eq_true rfl, Tryz.func97.trans (congrArg some rfl)⟩
 f21 := ⟨"slices.insertionSortOrdered[string]", of_decide_eq_true rfl, Tryz.func106.trans (congrArg some rfl)⟩
 f22 := ⟨"slices.heapSortOrdered[string]", of_decide_eq_true rfl, Tryz.func107.trans (congrArg some rfl)⟩
 f23 := ⟨"slices.breakPatternsOrdered[string]", of_decide_eq_true rfl, Tryz.func108.trans (congrArg some rfl)⟩
 f24 := ⟨"slices.choosePivotOrdered[string]", of_decide_eq_true rfl, Tryz.func109.trans (congrArg some rfl)⟩
 f25 := ⟨"slices.reverseRangeOrdered[string]", of_decide_eq_true rfl, Tryz.func110.trans (congrArg some rfl)⟩
 f26 := ⟨"slices.partialInsertionSortOrdered[string]", of_decide_eq_true rfl, Tryz.func111.trans (congrArg some rfl)⟩
 f27 := ⟨"cmp.Less[string]", of_decide_eq_true rfl, Tryz.func112.trans (congrArg some rfl)⟩
 f28 := ⟨"slices.partitionEqualOrdered[string]", of_decide_eq_true rfl, Tryz.func113.trans (congrArg some rfl)⟩
 f29 := ⟨"slices.partitionOrdered[string]", of_decide_eq_true rfl, Tryz.func114.trans (congrArg some rfl)⟩
 f36 := ⟨"slices.siftDownOrdered[string]", of_decide_eq_true rfl, Tryz.func125.trans (congrArg some rfl)⟩
 f37 := ⟨"slices.medianAdjacentOrdered[string]", of_decide_eq_true rfl, Tryz.func128.trans (congrArg some rfl)⟩
 f38 := ⟨"slices.medianOrdered[string]", of_decide_eq_true rfl, Tryz.func129.trans (congrArg some rfl)⟩
 f39 := ⟨"cmp.isNaN[string]", of_decide_eq_true rfl, Tryz.func130.trans (congrArg some rfl)⟩
 f41 := ⟨"slices.order2Ordered[string]", of_decide_eq_true rfl, Tryz.func135.trans (congrArg some rfl)⟩
 mixed := rfl
 f8 := Tryz.func98.trans (congrArg some rfl)
 f19 := Tryz.func115.trans (congrArg some rfl)
 f20 := Tryz.func116.trans (congrArg some rfl)
 f31 := Tryz.func126.trans (congrArg some rfl)
 f32 := Tryz.func127.trans (congrArg some rfl)
 t0 := Tryz.underlying0
 a0 := Tryz.isAgg0
 z0 := Tryz.sizeOf0
 v0 := Tryz.zeroValue0
 t3 := Tryz.underlying3
 a3 := Tryz.isAgg3
 z3 := Tryz.sizeOf3
 v3 := Tryz.zeroValue3
 t4 := Tryz.underlying4
 a4 := Tryz.isAgg4
 z4 := Tryz.sizeOf4
 v4 := Tryz.zeroValue4
 t5 := Tryz.underlying5
 a5 := Tryz.isAgg5
 z5 := Tryz.sizeOf5
 v5 := Tryz.zeroValue5
 t9 := Tryz.underlying9
 a9 := Tryz.isAgg9
 z9 := Tryz.sizeOf9
 v9 := Tryz.zeroValue9
 t26 := Tryz.underlying50
 a26 := Tryz.isAgg50
 z26 := Tryz.sizeOf50
 v26 := Tryz.zeroValue50
 t27 := Tryz.underlying50
 a27 := Tryz.isAgg50
 z27 := Tryz.sizeOf50
 v27 := Tryz.zeroValue50
 t29 := Tryz.underlying9
 a29 := Tryz.isAgg9
 z29 := Tryz.sizeOf9
 v29 := Tryz.zeroValue9
 t32 := Tryz.underlying124
 a32 := Tryz.isAgg124
 z32 := Tryz.sizeOf124
 v32 := Tryz.zeroValue124
 t35 := Tryz.underlying151
 a35 := Tryz.isAgg151
 z35 := Tryz.sizeOf151
 v35 := Tryz.zeroValue151
 t36 := Tryz.underlying152
 a36 := Tryz.isAgg152
 z36 := Tryz.sizeOf152
 v36 := Tryz.zeroValue152
 t41 := Tryz.underlying157
 a41 := Tryz.isAgg157
 z41 := Tryz.sizeOf157
 v41 := Tryz.zeroValue157
 t44 := Tryz.underlying160
 a44 := Tryz.isAgg160
 z44 := Tryz.sizeOf160
 v44 := Tryz.zeroValue160
 t46 := Tryz.underlying125
 a46 := Tryz.isAgg125
 z46 := Tryz.sizeOf125
 v46 := Tryz.zeroValue125
 t53 := Tryz.underlying168
 a53 := Tryz.isAgg168
 z53 := Tryz.sizeOf168
 v53 := Tryz.zeroValue168
 t57 := Tryz.underlying172
 a57 := Tryz.isAgg172
 z57 := Tryz.sizeOf172
 v57 := Tryz.zeroValue172
 t63 := Tryz.underlying178
 a63 := Tryz.isAgg178
 z63 := Tryz.sizeOf178
 v63 := Tryz.zeroValue178
 t64 := Tryz.underlying179
 a64 := Tryz.isAgg179
 z64 := Tryz.sizeOf179
 v64 := Tryz.zeroValue179
def Tryz.cloneA_ren : Ren :=
{
 f := fun x =>
  match x with
  | 5 => 52
  | 7 => 80
  | n => n,
 t := fun x =>
  match x with
  | 23 => 47
  | 25 => 9
  | 3 => 9
  | 4 => 4
  | 20 => 20
  | n => n,
 g := fun x =>
  have n := x;
  n }
theorem Tryz.cloneA : SlLaysW.n5 Tryz.prog Tryz.cloneA_ren where
 f5 := ⟨"maps.Clone[map[string]string,string,string]", of_decide_eq_true rfl, Tryz.func52.trans (congrArg some rfl)⟩
 mixed := rfl
 f7 := Tryz.func80.trans (congrArg some rfl)
 t4 := Tryz.underlying4
 a4 := Tryz.isAgg4
 z4 := Tryz.sizeOf4
 v4 := Tryz.zeroValue4
 t20 := Tryz.underlying20
 a20 := Tryz.isAgg20
 z20 := Tryz.sizeOf20
 v20 := Tryz.zeroValue20
 t23 := Tryz.underlying47
 a23 := Tryz.isAgg47
 z23 := Tryz.sizeOf47
 v23 := Tryz.zeroValue47
end Go.Proofs

