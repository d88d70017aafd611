/- A part of the proof. -/
import Derived.Shelf.SlIterI.Nil
import Derived.Shelf.SlIter.Nil
import Derived.Shelf.SlMaps.Clone
import Derived.Test.YtjnejkdamhefgaaGreatDoorStB
namespace Go.SL
open Go Go.RowKit Go.MapKept Go.Maps Go.Sort Go.Shelf Go.Proofs
open Go.WideElems (Fit rg)
section
variable {P : Program} {W0 w w' : World} {ρ ρ' : Ren}
theorem st_later {L : List HP} {o : Obj} {g : Nat} (h : st W0 w L) (hb : Below w.heap.size w w') (hg : w.heap.size ≤ g) (hn : w'.heap[g]? = some o) : st W0 w' (own g o :: L) := by
  obtain ⟨hB, x, hs, hx⟩ := h
  have hlt : ∀ {k : Nat} {o : Obj}, w.heap[k]? = some o → k < w.heap.size := fun e => (Array.getElem?_eq_some_iff.1 e).1
  have hd : Hp.disj (Hp.one g o) x := fun k u e => by
    obtain ⟨rfl, rfl⟩ := Hp.one_some e
    cases hxx : x k with
    | none => rfl
    | some y => exact absurd (hlt (hx _ _ hxx).2) (by omega)
  refine ⟨hB.trans (hb.mono hB.size), Hp.un (Hp.one g o) x, ⟨_, x, hd, Hp.le_un_left _ _, Hp.le_un_right hd, Hp.one_at _ o, hs⟩, ?_⟩
  intro k u e
  rcases Hp.un_some e with e | e
  · obtain ⟨rfl, rfl⟩ := Hp.one_some e; exact ⟨by have := hB.size; omega, hn⟩
  · have := hx k u e
    exact ⟨this.1, by rw [hb.block k (hlt this.2)]; exact this.2⟩
theorem st_mp2 {L : List HP} {b i : Nat} {kvs : List (Value × Value)} (h : st W0 w L) (hi : L[i]? = some (mp b kvs)) : ∃ (es : Array MapEntry) (clock : Nat), w.heap[b]? = some (.map es clock) ∧ es.toList.map (fun e => (e.key, e.val)) = kvs ∧ Stamped es clock := by
 obtain ⟨_, x, hL, hx⟩ := h
 obtain ⟨a, ha, es, clock, h5, h6, h7⟩ := stL_get hL hi
 exact ⟨es, clock, (hx _ _ (ha _ _ h5)).2, h6, h7⟩
theorem st_rowMade {L : List HP} {e n : Nat} {v : Value} {xs : List Value} (h : st W0 w L) (hb : Below w.heap.size w w') (hr : w'.ownsRow w.heap.size e 1 v n xs) : st W0 w' (sl e 1 v n xs :: L) := by
  obtain ⟨hl, hr | ⟨g, cap, cur, hv, hg, hc, h1, h2, h3, h4⟩⟩ := hr
  · have := st_below h hb
    obtain ⟨hB, x, hs, hx⟩ := this
    exact ⟨hB, x, ⟨Hp.emp, x, Hp.emp_disj x, Hp.emp_le x, Hp.le_refl x, ⟨hl, .inl hr⟩, hs⟩, hx⟩
  · refine st_head (fun y hy => ?_) (st_later h hb hg hc)
    refine ⟨hl, .inr ⟨g, cap, hv, h1, cur.toList, ?_, ?_, h2, ?_, by have hy : y g = _ := hy; simpa using hy⟩⟩
    · simpa using h3
    · rw [hl]; simp; omega
    · rw [hl]; exact h4
end
section
variable {P : Program} {W0 w w' : World} {ρ ρ' : Ren}
theorem con_keysS (K : SlLaysZ.n7 P ρ) (b : Nat) : Con P W0 (ρ.f 7) #[.map (some b)] [] (X := Nat) (fun _ => True) (fun q => .func (.func (ρ.f 10)) #[] #[.pointer (some ⟨q, 0, none⟩)]) (fun q => [pt q (ρ.t 23) [.map (some b)]]) := fun w F hs =>
 ((callsIn_wide (n := 5)).1 (AnyZ.keys_in K Fence.wide 5 trivial rfl (some b) w)).mono fun e w' ⟨he, hw⟩ => by
  subst he hw
  exact ⟨w.heap.size, trivial, rfl, st_new hs⟩
def strB : Value → List UInt8
 | .string s => s.data.toList
 | _ => []
theorem con_sortedS (K : SlLaysZ.n7 P ρ) (S : SlLaysZ.n6 P ρ') (hsort : ∀ m, AnyZ.SortsIn P ρ' Fence.wide m) (e9 : ∀ args w, (callFunc (ρ'.f 9) args).run P w = .ok (.enter (ρ'.f 9) args) w) (e10 : ∀ args w, (callFunc (ρ.f 10) args).run P w = .ok (.enter (ρ.f 10) args) w)
  (h26 : P.underlying (ρ.t 26) = some .string) (q b : Nat) (ks : List (List UInt8 × Value)) (hk : ∀ p ∈ ks, p.1.length ≤ maxLen) (hlen : ks.length ≤ 8796093022208) :
  Con P W0 (ρ'.f 6) #[.func (.func (ρ.f 10)) #[] #[.pointer (some ⟨q, 0, none⟩)]] [pt q (ρ.t 23) [.map (some b)], mp b (ks.map fun p => (encStr p.1, p.2))] (X := Value) (fun _ => True) (fun v => v)
   (fun v => [sl (ρ'.t 26) 1 v ks.length (((ks.map (·.1)).mergeSort leB).map encStr), pt q (ρ.t 23) [.map (some b)], mp b (ks.map fun p => (encStr p.1, p.2))]) := fun w F hs => by
 have hq : w.cell? ⟨q, 0, none⟩ = some (.map (some b)) := st_cell (i := 0) hs rfl rfl
 have hqb := (Array.getElem?_eq_some_iff.1 (st_own (i := 0) hs rfl).2).1
 obtain ⟨es, clock, hb, hkv, hst⟩ := st_mp2 (i := 1) hs rfl
 have hsz : es.size = ks.length := by have := congrArg List.length hkv; simpa using this
 have hx : ∀ x ∈ es.toList, ∃ p ∈ ks, x.key = encStr p.1 := fun x hx => by
  have : (x.key, x.val) ∈ ks.map fun p => (encStr p.1, p.2) := hkv ▸ List.mem_map.2 ⟨x, hx, rfl⟩
  obtain ⟨p, hp, he⟩ := List.mem_map.1 this
  exact ⟨p, hp, (congrArg Prod.fst he).symm⟩
 have hko : ∀ x ∈ es.toList, keyOf P (ρ.t 26) x.key = some (.string (strB x.key)) := fun x hxm => by
  obtain ⟨p, hp, he⟩ := hx x hxm
  rw [he]
  have hp' := hk p hp
  simp [keyOf, h26, mapKey, strB, encStr, ByteArray.size, hp']
 have hrd : ∀ x ∈ es.toList, WideElems.rd P (ρ.t 26) (fun _ => some ((DataW.nil : DataW Unit), [])) x = some (.string (strB x.key), .nil) := fun x hxm => by
  unfold WideElems.rd; rw [hko x hxm]; rfl
 have hrg : ∀ x ∈ es.toList, rg P (ρ.t 26) (fun _ => some ((DataW.nil : DataW Unit), [])) x = (.string (strB x.key), .nil) := fun x hxm => by
  unfold rg; rw [hrd x hxm]; rfl
 have hown : w.ownsMap P (ρ.t 26) (fun _ => some ((DataW.nil : DataW Unit), [])) b es.size (.map ((es.toList.map (rg P (ρ.t 26) (fun _ => some ((DataW.nil : DataW Unit), [])))).foldr DataW.insert [])) :=
  ⟨es, clock, hb, ⟨by rw [hsz]; unfold maxLen; omega, hst, fun x hxm => ⟨_, hrd x hxm⟩⟩, Nat.le_refl _, rfl⟩
 have hms : Maps.size (.map ((es.toList.map (rg P (ρ.t 26) (fun _ => some ((DataW.nil : DataW Unit), [])))).foldr DataW.insert [])) = ks.length := by
  show (_ : List _).length = _
  rw [length_sorted]; simp [hsz]
 have hperm : (strKeys (.map ((es.toList.map (rg P (ρ.t 26) (fun _ => some ((DataW.nil : DataW Unit), [])))).foldr DataW.insert []))).Perm (ks.map (·.1)) := by
  refine ((WideShapes.sorted_perm _).map fun p => strOf p.1).trans (List.Perm.of_eq ?_)
  rw [List.map_map]
  have h1 : es.toList.map ((fun p : Lit × DataW Unit => strOf p.1) ∘ rg P (ρ.t 26) (fun _ => some ((DataW.nil : DataW Unit), []))) = (es.toList.map (fun e => (e.key, e.val))).map fun p => strB p.1 := by
   rw [List.map_map]
   refine List.map_congr_left fun x hxm => ?_
   simp only [Function.comp, hrg x hxm, strOf]
  rw [h1, hkv, List.map_map]
  exact List.map_congr_left fun p _ => rfl
 have hseq := AnyZ.keys_gives (ρ := ρ) { K with } Fence.wide 2 trivial rfl (by omega) q b es.size _ w hqb hq hown
 have cS := AnyZ.sorted_in S Fence.wide 5 trivial trivial trivial trivial rfl (by omega) (hsort _) e9 (ρ.f 10) #[.pointer (some ⟨q, 0, none⟩)] trivial e10 _ _ (by rw [hms]; unfold maxLen; omega) (by rw [hms]; omega) w hseq
 refine ((callsIn_wide (n := 5)).1 cS).mono fun e w' ⟨v, ss, he, hS, hrow, _, hB⟩ => ?_
 subst he
 have hp := hS.trans hperm
 have hl : ss.length = ks.length := by rw [hp.length_eq, List.length_map]
 rw [mergeSort_of_perm hp, hl] at hrow
 exact ⟨v, trivial, rfl, st_rowMade hs hB hrow⟩
theorem con_clone (K : SlLaysW.n5 P ρ) (b : Nat) (kvs : List (Value × Value)) : Con P W0 (ρ.f 5) #[.map (some b)] [mp b kvs] (X := Nat) (fun _ => True) (fun q => .map (some q)) (fun q => [mp q kvs, mp b kvs]) := fun w F hs => by
 obtain ⟨es, clock, hb, hkv, hst⟩ := st_mp2 (i := 0) hs rfl
 refine (AnyW.maps_Clone K b es clock w hb).mono fun e w' ⟨he, hw⟩ => ?_
 subst he hw
 exact ⟨w.heap.size, trivial, rfl, st_head (p := own w.heap.size (.map es clock)) (fun _ hp => ⟨es, clock, hp, hkv, hst⟩) (st_new hs)⟩
end
end Go.SL
namespace Go.Proofs
open Go.RowKit Go.Maps Go.Sort Go.Shelf
set_option maxRecDepth 100000
def Tryz.keysA_ren : Go.Shelf.Ren :=
{
 f := fun x =>
  match x with
  | 7 => 42
  | 10 => 179
  | n => n,
 t := fun x =>
  match x with
  | 23 => 112
  | 26 => 9
  | 3 => 9
  | 28 => 124
  | 0 => 0
  | 27 => 123
  | 33 => 157
  | 4 => 4
  | n => n,
 g := fun x =>
  have n := x;
  n }
theorem Tryz.keysA : Go.Proofs.SlLaysZ.n7 Go.Proofs.Tryz.prog Go.Proofs.Tryz.keysA_ren where
 f7 := ⟨"maps.Keys[map[string]string,string,string]", of_decide_eq_true rfl, Go.Proofs.Tryz.func42.trans (congrArg some rfl)⟩
 f10 := ⟨"maps.Keys[map[string]string,string,string]$1", of_decide_eq_true rfl, Go.Proofs.Tryz.func179.trans (congrArg some rfl)⟩
 mixed := rfl
 t0 := Go.Proofs.Tryz.underlying0
 a0 := Go.Proofs.Tryz.isAgg0
 z0 := Go.Proofs.Tryz.sizeOf0
 v0 := Go.Proofs.Tryz.zeroValue0
 t4 := Go.Proofs.Tryz.underlying4
 a4 := Go.Proofs.Tryz.isAgg4
 z4 := Go.Proofs.Tryz.sizeOf4
 v4 := Go.Proofs.Tryz.zeroValue4
 t23 := Go.Proofs.Tryz.underlying112
 a23 := Go.Proofs.Tryz.isAgg112
 z23 := Go.Proofs.Tryz.sizeOf112
 v23 := Go.Proofs.Tryz.zeroValue112
 t26 := Go.Proofs.Tryz.underlying9
 a26 := Go.Proofs.Tryz.isAgg9
 z26 := Go.Proofs.Tryz.sizeOf9
 v26 := Go.Proofs.Tryz.zeroValue9
 t27 := Go.Proofs.Tryz.underlying123
 a27 := Go.Proofs.Tryz.isAgg123
 z27 := Go.Proofs.Tryz.sizeOf123
 v27 := Go.Proofs.Tryz.zeroValue123
 t28 := Go.Proofs.Tryz.underlying124
 a28 := Go.Proofs.Tryz.isAgg124
 z28 := Go.Proofs.Tryz.sizeOf124
 v28 := Go.Proofs.Tryz.zeroValue124
 t33 := Go.Proofs.Tryz.underlying157
 a33 := Go.Proofs.Tryz.isAgg157
 z33 := Go.Proofs.Tryz.sizeOf157
 v33 := Go.Proofs.Tryz.zeroValue157
def Tryz.sortedA_ren : Go.Shelf.Ren :=
{
 f := fun x =>
  match x with
  | 6 => 41
  | 8 => 177
  | 9 => 178
  | 11 => 274
  | 13 => 276
  | 12 => 275
  | 23 => 299
  | 24 => 300
  | 14 => 290
  | 15 => 291
  | 16 => 292
  | 17 => 293
  | 18 => 294
  | 19 => 295
  | 20 => 296
  | 21 => 297
  | 22 => 298
  | 25 => 312
  | 26 => 313
  | 27 => 314
  | 28 => 315
  | 29 => 316
  | 30 => 317
  | 31 => 324
  | n => n,
 t := fun x =>
  match x with
  | 26 => 9
  | 28 => 124
  | 24 => 57
  | 0 => 0
  | 3 => 3
  | 37 => 133
  | 48 => 472
  | 50 => 457
  | 4 => 4
  | 40 => 464
  | 39 => 463
  | 45 => 469
  | 5 => 5
  | 9 => 9
  | 51 => 483
  | 55 => 487
  | 57 => 494
  | 58 => 150
  | 33 => 157
  | n => n,
 g := fun x =>
  have n := x;
  n }
theorem Tryz.sortedA : Go.Proofs.SlLaysZ.n6 Go.Proofs.Tryz.prog Go.Proofs.Tryz.sortedA_ren where
 f6 := ⟨"slices.Sorted[string]", of_decide_eq_true rfl, Go.Proofs.Tryz.func41.trans (congrArg some rfl)⟩
 f8 := ⟨"slices.Collect[string]", of_decide_eq_true rfl, Go.Proofs.Tryz.func177.trans (congrArg some rfl)⟩
 f11 := ⟨"slices.AppendSeq[[]string,string]", of_decide_eq_true rfl, Go.Proofs.Tryz.func274.trans (congrArg some rfl)⟩
 mixed := rfl
 t0 := Go.Proofs.Tryz.underlying0
 a0 := Go.Proofs.Tryz.isAgg0
 z0 := Go.Proofs.Tryz.sizeOf0
 v0 := Go.Proofs.Tryz.zeroValue0
 t24 := Go.Proofs.Tryz.underlying57
 a24 := Go.Proofs.Tryz.isAgg57
 z24 := Go.Proofs.Tryz.sizeOf57
 v24 := Go.Proofs.Tryz.zeroValue57
 t26 := Go.Proofs.Tryz.underlying9
 a26 := Go.Proofs.Tryz.isAgg9
 z26 := Go.Proofs.Tryz.sizeOf9
 v26 := Go.Proofs.Tryz.zeroValue9
 t28 := Go.Proofs.Tryz.underlying124
 a28 := Go.Proofs.Tryz.isAgg124
 z28 := Go.Proofs.Tryz.sizeOf124
 v28 := Go.Proofs.Tryz.zeroValue124
 i26 := rfl
def Tryz.sortA_ren : Go.Shelf.Ren :=
{
 f := fun x =>
  match x with
  | 6 => 178
  | 8 => 276
  | 9 => 275
  | 19 => 299
  | 20 => 300
  | 21 => 290
  | 22 => 291
  | 23 => 292
  | 24 => 293
  | 25 => 294
  | 26 => 295
  | 27 => 296
  | 28 => 297
  | 29 => 298
  | 36 => 312
  | 31 => 313
  | 32 => 314
  | 37 => 315
  | 38 => 316
  | 39 => 317
  | 41 => 324
  | n => n,
 t := fun x =>
  match x with
  | 27 => 57
  | 29 => 9
  | 3 => 3
  | 32 => 133
  | 26 => 57
  | 0 => 0
  | 44 => 472
  | 46 => 457
  | 4 => 4
  | 36 => 464
  | 35 => 463
  | 41 => 469
  | 5 => 5
  | 9 => 9
  | 53 => 483
  | 57 => 487
  | 63 => 494
  | 64 => 150
  | n => n,
 g := fun x =>
  have n := x;
  n }
theorem Tryz.sortA : Go.Proofs.SlLaysM.n6 Go.Proofs.Tryz.prog Go.Proofs.Tryz.sortA_ren where
 f6 := ⟨"slices.Sort[[]string,string]", of_decide_eq_true rfl, Go.Proofs.Tryz.func178.trans (congrArg some rfl)⟩
 f9 := ⟨"slices.pdqsortOrdered[string]", of_decide_eq_true rfl, Go.Proofs.Tryz.func275.trans (congrArg some rfl)⟩
 f21 := ⟨"slices.insertionSortOrdered[string]", of_decide_eq_true rfl, Go.Proofs.Tryz.func290.trans (congrArg some rfl)⟩
 f22 := ⟨"slices.heapSortOrdered[string]", of_decide_eq_true rfl, Go.Proofs.Tryz.func291.trans (congrArg some rfl)⟩
 f23 := ⟨"slices.breakPatternsOrdered[string]", of_decide_eq_true rfl, Go.Proofs.Tryz.func292.trans (congrArg some rfl)⟩
 f24 := ⟨"slices.choosePivotOrdered[string]", of_decide_eq_true rfl, Go.Proofs.Tryz.func293.trans (congrArg some rfl)⟩
 f25 := ⟨"slices.reverseRangeOrdered[string]", of_decide_eq_true rfl, Go.Proofs.Tryz.func294.trans (congrArg some rfl)⟩
 f26 := ⟨"slices.partialInsertionSortOrdered[string]", of_decide_eq_true rfl, Go.Proofs.Tryz.func295.trans (congrArg some rfl)⟩
 f27 := ⟨"cmp.Less[string]", of_decide_eq_true rfl, Go.Proofs.Tryz.func296.trans (congrArg some rfl)⟩
 f28 := ⟨"slices.partitionEqualOrdered[string]", of_decide_eq_true rfl, Go.Proofs.Tryz.func297.trans (congrArg some rfl)⟩
 f29 := ⟨"slices.partitionOrdered[string]", of_decide_eq_true rfl, Go.Proofs.Tryz.func298.trans (congrArg some rfl)⟩
 f36 := ⟨"slices.siftDownOrdered[string]", of_decide_eq_true rfl, Go.Proofs.Tryz.func312.trans (congrArg some rfl)⟩
 f37 := ⟨"slices.medianAdjacentOrdered[string]", of_decide_eq_true rfl, Go.Proofs.Tryz.func315.trans (congrArg some rfl)⟩
 f38 := ⟨"slices.medianOrdered[string]", of_decide_eq_true rfl, Go.Proofs.Tryz.func316.trans (congrArg some rfl)⟩
 f39 := ⟨"cmp.isNaN[string]", of_decide_eq_true rfl, Go.Proofs.Tryz.func317.trans (congrArg some rfl)⟩
 f41 := ⟨"slices.order2Ordered[string]", of_decide_eq_true rfl, Go.Proofs.Tryz.func324.trans (congrArg some rfl)⟩
 mixed := rfl
 f8 := Go.Proofs.Tryz.func276.trans (congrArg some rfl)
 f19 := Go.Proofs.Tryz.func299.trans (congrArg some rfl)
 f20 := Go.Proofs.Tryz.func300.trans (congrArg some rfl)
 f31 := Go.Proofs.Tryz.func313.trans (congrArg some rfl)
 f32 := Go.Proofs.Tryz.func314.trans (congrArg some rfl)
 t0 := Go.Proofs.Tryz.underlying0
 a0 := Go.Proofs.Tryz.isAgg0
 z0 := Go.Proofs.Tryz.sizeOf0
 v0 := Go.Proofs.Tryz.zeroValue0
 t3 := Go.Proofs.Tryz.underlying3
 a3 := Go.Proofs.Tryz.isAgg3
 z3 := Go.Proofs.Tryz.sizeOf3
 v3 := Go.Proofs.Tryz.zeroValue3
 t4 := Go.Proofs.Tryz.underlying4
 a4 := Go.Proofs.Tryz.isAgg4
 z4 := Go.Proofs.Tryz.sizeOf4
 v4 := Go.Proofs.Tryz.zeroValue4
 t5 := Go.Proofs.Tryz.underlying5
 a5 := Go.Proofs.Tryz.isAgg5
 z5 := Go.Proofs.Tryz.sizeOf5
 v5 := Go.Proofs.Tryz.zeroValue5
 t9 := Go.Proofs.Tryz.underlying9
 a9 := Go.Proofs.Tryz.isAgg9
 z9 := Go.Proofs.Tryz.sizeOf9
 v9 := Go.Proofs.Tryz.zeroValue9
 t26 := Go.Proofs.Tryz.underlying57
 a26 := Go.Proofs.Tryz.isAgg57
 z26 := Go.Proofs.Tryz.sizeOf57
 v26 := Go.Proofs.Tryz.zeroValue57
 t27 := Go.Proofs.Tryz.underlying57
 a27 := Go.Proofs.Tryz.isAgg57
 z27 := Go.Proofs.Tryz.sizeOf57
 v27 := Go.Proofs.Tryz.zeroValue57
 t29 := Go.Proofs.Tryz.underlying9
 a29 := Go.Proofs.Tryz.isAgg9
 z29 := Go.Proofs.Tryz.sizeOf9
 v29 := Go.Proofs.Tryz.zeroValue9
 t32 := Go.Proofs.Tryz.underlying133
 a32 := Go.Proofs.Tryz.isAgg133
 z32 := Go.Proofs.Tryz.sizeOf133
 v32 := Go.Proofs.Tryz.zeroValue133
 t35 := Go.Proofs.Tryz.underlying463
 a35 := Go.Proofs.Tryz.isAgg463
 z35 := Go.Proofs.Tryz.sizeOf463
 v35 := Go.Proofs.Tryz.zeroValue463
 t36 := Go.Proofs.Tryz.underlying464
 a36 := Go.Proofs.Tryz.isAgg464
 z36 := Go.Proofs.Tryz.sizeOf464
 v36 := Go.Proofs.Tryz.zeroValue464
 t41 := Go.Proofs.Tryz.underlying469
 a41 := Go.Proofs.Tryz.isAgg469
 z41 := Go.Proofs.Tryz.sizeOf469
 v41 := Go.Proofs.Tryz.zeroValue469
 t44 := Go.Proofs.Tryz.underlying472
 a44 := Go.Proofs.Tryz.isAgg472
 z44 := Go.Proofs.Tryz.sizeOf472
 v44 := Go.Proofs.Tryz.zeroValue472
 t46 := Go.Proofs.Tryz.underlying457
 a46 := Go.Proofs.Tryz.isAgg457
 z46 := Go.Proofs.Tryz.sizeOf457
 v46 := Go.Proofs.Tryz.zeroValue457
 t53 := Go.Proofs.Tryz.underlying483
 a53 := Go.Proofs.Tryz.isAgg483
 z53 := Go.Proofs.Tryz.sizeOf483
 v53 := Go.Proofs.Tryz.zeroValue483
 t57 := Go.Proofs.Tryz.underlying487
 a57 := Go.Proofs.Tryz.isAgg487
 z57 := Go.Proofs.Tryz.sizeOf487
 v57 := Go.Proofs.Tryz.zeroValue487
 t63 := Go.Proofs.Tryz.underlying494
 a63 := Go.Proofs.Tryz.isAgg494
 z63 := Go.Proofs.Tryz.sizeOf494
 v63 := Go.Proofs.Tryz.zeroValue494
 t64 := Go.Proofs.Tryz.underlying150
 a64 := Go.Proofs.Tryz.isAgg150
 z64 := Go.Proofs.Tryz.sizeOf150
 v64 := Go.Proofs.Tryz.zeroValue150
def Tryz.cloneA_ren : Go.Shelf.Ren :=
{
 f := fun x =>
  match x with
  | 5 => 40
  | 7 => 176
  | n => n,
 t := fun x =>
  match x with
  | 23 => 112
  | 25 => 9
  | 3 => 9
  | 4 => 4
  | 20 => 20
  | n => n,
 g := fun x =>
  have n := x;
  n }
theorem Tryz.cloneA : Go.Proofs.SlLaysW.n5 Go.Proofs.Tryz.prog Go.Proofs.Tryz.cloneA_ren where
 f5 := ⟨"maps.Clone[map[string]string,string,string]", of_decide_eq_true rfl, Go.Proofs.Tryz.func40.trans (congrArg some rfl)⟩
 mixed := rfl
 f7 := Go.Proofs.Tryz.func176.trans (congrArg some rfl)
 t4 := Go.Proofs.Tryz.underlying4
 a4 := Go.Proofs.Tryz.isAgg4
 z4 := Go.Proofs.Tryz.sizeOf4
 v4 := Go.Proofs.Tryz.zeroValue4
 t20 := Go.Proofs.Tryz.underlying20
 a20 := Go.Proofs.Tryz.isAgg20
 z20 := Go.Proofs.Tryz.sizeOf20
 v20 := Go.Proofs.Tryz.zeroValue20
 t23 := Go.Proofs.Tryz.underlying112
 a23 := Go.Proofs.Tryz.isAgg112
 z23 := Go.Proofs.Tryz.sizeOf112
 v23 := Go.Proofs.Tryz.zeroValue112
end Go.Proofs
namespace Go.Proofs.YtjnejkdamhefgaaGreatDoor
open Go Go.SL Go.St Go.Wr Go.RowKit
open Go.Dk (DS WF)
open Go.Jn (JS Ok openD_up)
set_option linter.unusedVariables false
set_option maxRecDepth 8000
theorem fo_114_0 : fieldOff Tryz.prog 114 0 = some 0 := by kernel_rfl
theorem fo_114_1 : fieldOff Tryz.prog 114 1 = some 1 := by kernel_rfl
theorem sc_112 : scalar Tryz.prog 112 = true := by kernel_rfl
theorem zo_114 : zeroOf Tryz.prog 114 = some (Value.agg #[Value.pointer none, Value.map none]) := by kernel_rfl
open Go.Maps Go.Sort Go.Shelf
theorem keyS {s : ByteArray} (h : s.size ≤ 65536) : ∃ l, keyOf Tryz.prog 9 (.string s) = some l := by
 have h' : s.size ≤ maxLen := Nat.le_trans h (by decide)
 exact ⟨_, by simp [keyOf, Tryz.underlying9, mapKey, h']; rfl⟩
theorem keysS {T : AL} (h : okA T) : ∀ p ∈ strV T, ∃ l, keyOf Tryz.prog 9 p.1 = some l := fun p hp => by
 obtain ⟨q, hq, rfl⟩ := List.mem_map.1 hp
 exact keyS (h.2 q hq).1
theorem sorts_in (m : Nat) : Go.Proofs.AnyZ.SortsIn Tryz.prog Tryz.sortedA_ren Fence.wide m :=
  ⟨fun blk off cap ss W hH hblk hsz => callsIn_wide.2 (Go.Proofs.AnyM.slices_Sort_string Tryz.sortA blk off cap ss W hH hblk hsz),
   fun p cap W => callsIn_wide.2 (Go.Proofs.AnyM.slices_Sort_string_none Tryz.sortA p cap W)⟩
def keysL (T : AL) : List (List UInt8 × Value) := T.map fun p => (p.1.data.toList, .string p.2)
theorem keysL_V (T : AL) : (keysL T).map (fun p => (Go.Proofs.encStr p.1, p.2)) = strV T := by
 unfold keysL strV; rw [List.map_map]; exact List.map_congr_left fun p _ => by simp [Go.Proofs.encStr]
theorem keysL_N (T : AL) : ((keysL T).map (·.1)).mergeSort leB = namesA T := by
 unfold keysL namesA keysA; rw [List.map_map, List.map_map]; rfl
theorem keys_w (W0 : World) (mb : Nat) : Con Tryz.prog W0 42 #[.map (some mb)] [] (X := Nat) (fun _ => True) (fun q => .func (.func 179) #[] #[.pointer (some ⟨q, 0, none⟩)]) (fun q => [pt q 112 [.map (some mb)]]) := con_keysS Tryz.keysA mb
theorem sorted_w (W0 : World) (q mb : Nat) (T : AL) (hT : okA T) (hl : T.length ≤ 1000000) : Con Tryz.prog W0 41 #[.func (.func 179) #[] #[.pointer (some ⟨q, 0, none⟩)]] [pt q 112 [.map (some mb)], mp mb (strV T)] (X := Value) (fun _ => True) (fun v => v)
  (fun v => [sl 9 1 v T.length ((namesA T).map Go.Proofs.encStr), pt q 112 [.map (some mb)], mp mb (strV T)]) := by
 have h := con_sortedS (W0 := W0) Tryz.keysA Tryz.sortedA sorts_in (enters_of Tryz.func178 (by kernel_rfl) rfl) (enters_of Tryz.func179 (by kernel_rfl) rfl) Tryz.underlying9 q mb (keysL T) (fun p hp => by
  obtain ⟨a, ha, rfl⟩ := List.mem_map.1 hp
  have := (hT.2 a ha).1
  show a.1.data.toList.length ≤ maxLen
  rw [size_list]; exact Nat.le_trans this (by decide)) (by unfold keysL; rw [List.length_map]; omega)
 rw [keysL_V, keysL_N, show (keysL T).length = T.length from List.length_map _] at h
 exact h
theorem clone_w (W0 : World) (mb : Nat) (T : AL) : Con Tryz.prog W0 40 #[.map (some mb)] [mp mb (strV T)] (X := Nat) (fun _ => True) (fun q => .map (some q)) (fun q => [mp q (strV T), mp mb (strV T)]) := con_clone Tryz.cloneA mb (strV T)
theorem st_there (W0 : World) (sp j mb : Nat) :
  Con1 Tryz.prog W0 39 #[Vp sp] [pt sp 114 [Vp j, Value.map (some mb)]] (.bool true) [pt sp 114 [Vp j, Value.map (some mb)]] := by
 refine Con.of (args := [Vp sp]) Tryz.func39 rfl Tryz.ntmps39 rfl (fun F => ?_)
 show Wc _ W0 _ _ _ _ _ ((pt sp 114 [Vp j, Value.map (some mb)]) :: F)
 refine Wc.a 1 rfl (Wc.b 1 rfl (Wl.q (q_neq_nil (r := false) rfl rfl Tryz.underlying33 rfl) (Wl.run 3 rfl (Wl.q (q_field (m := 0) fo_114_0 rfl rfl) (Wl.q (q_c 0 sc_109 rfl rfl rfl) (Wl.q (q_neq_nil (r := false) rfl rfl Tryz.underlying109 rfl) (Wl.rg 2 rfl (Wc.ret (Wx.f1 rfl (fun w hs => ?_))))))))))
 exact ⟨(), trivial, rfl, hs⟩
theorem get_yes (W0 : World) (sp j mb : Nat) (T : AL) (n : ByteArray) (hT : okA T) (hn : n.size ≤ 65536) (t : ByteArray) (h : getA T n = some t) :
  Con1 Tryz.prog W0 15 #[Vp sp, Vs n] [pt sp 114 [Vp j, Value.map (some mb)], mp mb (strV T)] (.tuple #[.string t, .bool true]) [pt sp 114 [Vp j, Value.map (some mb)], mp mb (strV T)] := by
 refine Con.of (args := [Vp sp, Vs n]) Tryz.func15 rfl Tryz.ntmps15 rfl (fun F => ?_)
 show Wc _ W0 _ _ _ _ _ ((pt sp 114 [Vp j, Value.map (some mb)]) :: (mp mb (strV T)) :: F)
 refine Wc.a 2 rfl (Wc.seq (Wc.b 1 rfl (Wl.e (e_call (F := (mp mb (strV T)) :: F) (args := [Vp sp]) Tryz.call39 rfl (st_there W0 sp j mb)) (fun _ _ => Wl.q (q_not rfl rfl) (Wl.dg (Wc.no rfl (Wc.skip (Wx.go (Wc.b 2 rfl (Wl.q (q_field (m := 1) fo_114_1 rfl rfl) (Wl.q (q_c 0 sc_112 rfl rfl rfl) (Wl.run 1 rfl (Wl.q (q_lookup (i := 1) (key := .string n) (r := .string t) (ok := true) Tryz.underlying112 (Maps.string_keyed Tryz.underlying9) zo_9 rfl rfl rfl (keyS hn) (keysS hT) (.inr ⟨(strV_yes hT.1 h).1, (strV_yes hT.1 h).2, rfl⟩)) (Wl.rg 5 rfl (Wc.a 4 rfl (Wc.ret (Wx.f2 rfl (fun w hs => ?_))))))))))))))))))
 exact ⟨(), trivial, rfl, hs⟩
theorem names_w (W0 : World) (sp j mb : Nat) (T : AL) (hT : okA T) (hl : T.length ≤ 1000000) :
  Con Tryz.prog W0 24 #[Vp sp] [pt sp 114 [Vp j, Value.map (some mb)], mp mb (strV T)] (X := Value) (fun _ => True) (fun v => v) (fun v => [sl 9 1 v T.length ((namesA T).map Go.Proofs.encStr), pt sp 114 [Vp j, Value.map (some mb)], mp mb (strV T)]) := by
 refine Con.of (args := [Vp sp]) Tryz.func24 rfl Tryz.ntmps24 rfl (fun F => ?_)
 show Wc _ W0 _ _ _ _ _ ((pt sp 114 [Vp j, Value.map (some mb)]) :: (mp mb (strV T)) :: F)
 refine Wc.a 1 rfl (Wc.seq (Wc.b 1 rfl (Wl.e (e_call (F := (mp mb (strV T)) :: F) (args := [Vp sp]) Tryz.call39 rfl (st_there W0 sp j mb)) (fun _ _ => Wl.imp (L' := (pt sp 114 [Vp j, Value.map (some mb)]) :: (mp mb (strV T)) :: F) (fun _ h => h) (Wl.q (q_not rfl rfl) (Wl.dg (Wc.no rfl (Wc.skip (Wx.go (Wc.b 2 rfl (Wl.q (q_field (m := 1) fo_114_1 rfl rfl) (Wl.q (q_c 0 sc_112 rfl rfl rfl) (Wl.e (e_call (F := (pt sp 114 [Vp j, Value.map (some mb)]) :: (mp mb (strV T)) :: F) (args := [Value.map (some mb)]) Tryz.call42 rfl (keys_w W0 mb)) (fun kq _ => Wl.imp (L' := (pt kq 112 [Value.map (some mb)]) :: (mp mb (strV T)) :: (pt sp 114 [Vp j, Value.map (some mb)]) :: F) (fun _ h => st_pull [0, 1] h) (Wl.e (e_call (F := (pt sp 114 [Vp j, Value.map (some mb)]) :: F) (args := [Value.func (.func 179) #[] #[Vp kq]]) Tryz.call41 rfl (sorted_w W0 kq mb T hT hl)) (fun nv _ => Wl.rg 1 rfl (Wc.ret (Wx.f1 rfl (fun w hs => ?_)))))))))))))))))))
 exact ⟨nv, trivial, rfl, (st_pull [0, 1, 0] (st_drop (st_pull [1] hs)))⟩
theorem seq_w (W0 : World) (sp j mb dp : Nat) (t : ByteArray) (q : Int) :
  Con1 Tryz.prog W0 14 #[Vp sp] [pt sp 114 [Vp j, Value.map (some mb)], isJ j dp ⟨t, q, false⟩] (.int .i64 q) [pt sp 114 [Vp j, Value.map (some mb)], isJ j dp ⟨t, q, false⟩] := by
 refine Con.of (args := [Vp sp]) Tryz.func14 rfl Tryz.ntmps14 rfl (fun F => ?_)
 show Wc _ W0 _ _ _ _ _ ((pt sp 114 [Vp j, Value.map (some mb)]) :: (isJ j dp ⟨t, q, false⟩) :: F)
 refine Wc.a 1 rfl (Wc.seq (Wc.b 1 rfl (Wl.e (e_call (F := (isJ j dp ⟨t, q, false⟩) :: F) (args := [Vp sp]) Tryz.call39 rfl (st_there W0 sp j mb)) (fun _ _ => Wl.q (q_not rfl rfl) (Wl.dg (Wc.no rfl (Wc.skip (Wx.go (Wc.b 2 rfl (Wl.q (q_field (m := 0) fo_114_0 rfl rfl) (Wl.q (q_c 0 sc_109 rfl rfl rfl) (Wl.imp (L' := (isJ j dp ⟨t, q, false⟩) :: (pt sp 114 [Vp j, Value.map (some mb)]) :: F) (fun _ h => st_pull [1] h) (Wl.e (e_call (F := (pt sp 114 [Vp j, Value.map (some mb)]) :: F) (args := [Vp j]) Tryz.call34 rfl (seq_in W0 j dp t q false)) (fun _ _ => Wl.rg 1 rfl (Wc.ret (Wx.f1 rfl (fun w hs => ?_)))))))))))))))))
 exact ⟨(), trivial, rfl, (st_pull [1, 0] (hs))⟩
theorem open_fresh (W0 : World) (dp : Nat) (S : List ByteArray) (k : Nat) (hok : Ok S ByteArray.empty 0) :
  Con Tryz.prog W0 9 #[Vp dp] [isDisk dp (⟨S, [], false, k, none⟩ : DS)] (X := Nat × Nat × Nat) (fun _ => True) (fun y => .tuple #[.pointer (some ⟨y.1, 0, none⟩), .int .i64 0]) (fun y => [pt y.1 114 [.pointer (some ⟨y.2.1, 0, none⟩), .map (some y.2.2)], mp y.2.2 (strV []), isJ y.2.1 dp ⟨ByteArray.empty, 0, false⟩, isDisk dp (⟨S, [], false, k, none⟩ : DS)]) := by
 refine Con.of (args := [Vp dp]) Tryz.func9 rfl Tryz.ntmps9 rfl (fun F => ?_)
 have hlen := hok.rng.2.2
 show Wc _ W0 _ _ _ _ _ ((isDisk dp (⟨S, [], false, k, none⟩ : DS)) :: F)
 refine Wc.a 2 rfl (Wc.b 1 rfl (Wl.e (e_call (F := F) (args := [Vp dp]) Tryz.call33 rfl (open_ok W0 dp (⟨S, [], false, k, none⟩ : DS) (Ok.wf hok) (by show 1 ≤ (S).length; omega) (by show 0 < 1099511627776; decide) (openD_up hok))) (fun j _ => Wl.rg 5 rfl (Wc.seq (Wc.b 1 rfl (Wl.q (q_neq rfl rfl (dt (by decide))) (Wl.dg (Wc.no rfl (Wc.skip (Wx.go (Wc.b 1 rfl (Wl.e (e_makeMap) (fun mb _ => Wl.q (v := Value.agg #[Vp j, Value.map (some mb)]) (q_build (pl := [(0, 1), (1, 1)]) Tryz.underlying114 zo_114 (by kernel_rfl) (by kernel_rfl)) (Wl.e (e_box (x := .tmp 21) (vs := [Vp j, Value.map (some mb)]) rfl) (fun sp _ => Wl.rg 1 rfl (Wc.seq (Wc.b 1 rfl (Wl.imp (L' := (isJ j dp ⟨ByteArray.empty, 0, false⟩) :: (pt sp 114 [Vp j, Value.map (some mb)]) :: (mp mb []) :: (isDisk dp (⟨S, [], false, k, none⟩ : DS)) :: F) (fun _ h => st_pull [2] h) (Wl.e (e_call (F := (pt sp 114 [Vp j, Value.map (some mb)]) :: (mp mb []) :: (isDisk dp (⟨S, [], false, k, none⟩ : DS)) :: F) (args := [Vp j]) Tryz.call34 rfl (seq_in W0 j dp ByteArray.empty 0 false)) (fun _ _ => Wl.q (q_eql rfl rfl (dt (by decide))) (Wl.dg (Wc.yes rfl (Wc.a 3 rfl ?_)))))))))))))))))))))))
 refine Wc.ret (Wx.thenRet (Wx.f2 rfl (fun w hs => ?_)))
 exact ⟨(sp, j, mb), trivial, rfl, (st_pull [1, 1, 0, 0] (hs))⟩
end Go.Proofs.YtjnejkdamhefgaaGreatDoor
