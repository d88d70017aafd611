import Derived.Test.YtkndmgfahghcjaaGreatSLY
import Derived.Test.YtkndmgfahghcjaaGreatSLA
import Derived.Shelf.SlIterI.Nil
import Derived.Shelf.SortM.Plain
import Derived.Shelf.SortM.SortNone
import Derived.Shelf.SlIter.Nil
import Derived.Shelf.SlMaps.Clone
/- The sorted keys of a map of ints (slices.Sorted of maps.Keys), for the small separation logic. -/
namespace Go.SL
open Go Go.RowKit Go.MapKept Go.Maps Go.Sort Go.Shelf Go.Proofs
open Go.WideElems (Fit rg)
section
variable {P : Program} {W0 w w' : World} {ρ ρ' : Ren}
/-- What a call has made, beside what was. -/
theorem st_later {L : List HP} {o : Obj} {g : Nat} (h : st W0 w L) (hb : Below w.heap.size w w') (hg : w.heap.size ≤ g) (hn : w'.heap[g]? = some o) : st W0 w' (own g o :: L) := by
  obtain ⟨hB, x, hs, hx⟩ := h
  have hlt : ∀ {k : Nat} {o : Obj}, w.heap[k]? = some o → k < w.heap.size := fun e => (Array.getElem?_eq_some_iff.1 e).1
  have hd : Hp.disj (Hp.one g o) x := fun k u e => by
    obtain ⟨rfl, rfl⟩ := Hp.one_some e
    cases hxx : x k with
    | none => rfl
    | some y => exact absurd (hlt (hx _ _ hxx).2) (by omega)
  refine ⟨hB.trans (hb.mono hB.size), Hp.un (Hp.one g o) x, ⟨_, x, hd, Hp.le_un_left _ _, Hp.le_un_right hd, Hp.one_at _ o, hs⟩, ?_⟩
  intro k u e
  rcases Hp.un_some e with e | e
  · obtain ⟨rfl, rfl⟩ := Hp.one_some e; exact ⟨by have := hB.size; omega, hn⟩
  · have := hx k u e
    exact ⟨this.1, by rw [hb.block k (hlt this.2)]; exact this.2⟩
theorem st_mp2 {L : List HP} {b i : Nat} {kvs : List (Value × Value)} (h : st W0 w L) (hi : L[i]? = some (mp b kvs)) : ∃ (es : Array MapEntry) (clock : Nat), w.heap[b]? = some (.map es clock) ∧ es.toList.map (fun e => (e.key, e.val)) = kvs ∧ Stamped es clock := by
 obtain ⟨_, x, hL, hx⟩ := h
 obtain ⟨a, ha, es, clock, h5, h6, h7⟩ := stL_get hL hi
 exact ⟨es, clock, (hx _ _ (ha _ _ h5)).2, h6, h7⟩
theorem st_rowMade {L : List HP} {e n : Nat} {v : Value} {xs : List Value} (h : st W0 w L) (hb : Below w.heap.size w w') (hr : w'.ownsRow w.heap.size e 1 v n xs) : st W0 w' (sl e 1 v n xs :: L) := by
  obtain ⟨hl, hr | ⟨g, cap, cur, hv, hg, hc, h1, h2, h3, h4⟩⟩ := hr
  · have := st_below h hb
    obtain ⟨hB, x, hs, hx⟩ := this
    exact ⟨hB, x, ⟨Hp.emp, x, Hp.emp_disj x, Hp.emp_le x, Hp.le_refl x, ⟨hl, .inl hr⟩, hs⟩, hx⟩
  · refine st_head (fun y hy => ?_) (st_later h hb hg hc)
    refine ⟨hl, .inr ⟨g, cap, hv, h1, cur.toList, ?_, ?_, h2, ?_, by have hy : y g = _ := hy; simpa using hy⟩⟩
    · simpa using h3
    · rw [hl]; simp; omega
    · rw [hl]; exact h4
end
end Go.SL

/- The sorted keys of a map of strings, and a map's clone, for the small separation logic. -/
namespace Go.SL
open Go Go.RowKit Go.MapKept Go.Maps Go.Sort Go.Shelf Go.Proofs
open Go.WideElems (Fit rg)
section
variable {P : Program} {W0 w w' : World} {ρ ρ' : Ren}
theorem con_keysS (K : SlLaysZ.n7 P ρ) (b : Nat) : Con P W0 (ρ.f 7) #[.map (some b)] [] (X := Nat) (fun _ => True) (fun q => .func (.func (ρ.f 10)) #[] #[.pointer (some ⟨q, 0, none⟩)]) (fun q => [pt q (ρ.t 23) [.map (some b)]]) := fun w F hs =>
 ((callsIn_wide (n := 5)).1 (AnyZ.keys_in K Fence.wide 5 trivial rfl (some b) w)).mono fun e w' ⟨he, hw⟩ => by
  subst he hw
  exact ⟨w.heap.size, trivial, rfl, st_new hs⟩
def strB : Value → List UInt8
 | .string s => s.data.toList
 | _ => []
/-- Sorted of Keys: a new slice of the keys, in order. -/
theorem con_sortedS (K : SlLaysZ.n7 P ρ) (S : SlLaysZ.n6 P ρ') (hsort : ∀ m, AnyZ.SortsIn P ρ' Fence.wide m) (e9 : ∀ args w, (callFunc (ρ'.f 9) args).run P w = .ok (.enter (ρ'.f 9) args) w) (e10 : ∀ args w, (callFunc (ρ.f 10) args).run P w = .ok (.enter (ρ.f 10) args) w)
  (h26 : P.underlying (ρ.t 26) = some .string) (q b : Nat) (ks : List (List UInt8 × Value)) (hk : ∀ p ∈ ks, p.1.length ≤ maxLen) (hlen : ks.length ≤ 8796093022208) :
  Con P W0 (ρ'.f 6) #[.func (.func (ρ.f 10)) #[] #[.pointer (some ⟨q, 0, none⟩)]] [pt q (ρ.t 23) [.map (some b)], mp b (ks.map fun p => (encStr p.1, p.2))] (X := Value) (fun _ => True) (fun v => v)
   (fun v => [sl (ρ'.t 26) 1 v ks.length (((ks.map (·.1)).mergeSort leB).map encStr), pt q (ρ.t 23) [.map (some b)], mp b (ks.map fun p => (encStr p.1, p.2))]) := fun w F hs => by
 have hq : w.cell? ⟨q, 0, none⟩ = some (.map (some b)) := st_cell (i := 0) hs rfl rfl
 have hqb := (Array.getElem?_eq_some_iff.1 (st_own (i := 0) hs rfl).2).1
 obtain ⟨es, clock, hb, hkv, hst⟩ := st_mp2 (i := 1) hs rfl
 have hsz : es.size = ks.length := by have := congrArg List.length hkv; simpa using this
 have hx : ∀ x ∈ es.toList, ∃ p ∈ ks, x.key = encStr p.1 := fun x hx => by
  have : (x.key, x.val) ∈ ks.map fun p => (encStr p.1, p.2) := hkv ▸ List.mem_map.2 ⟨x, hx, rfl⟩
  obtain ⟨p, hp, he⟩ := List.mem_map.1 this
  exact ⟨p, hp, (congrArg Prod.fst he).symm⟩
 have hko : ∀ x ∈ es.toList, keyOf P (ρ.t 26) x.key = some (.string (strB x.key)) := fun x hxm => by
  obtain ⟨p, hp, he⟩ := hx x hxm
  rw [he]
  have hp' := hk p hp
  simp [keyOf, h26, mapKey, strB, encStr, ByteArray.size, hp']
 have hrd : ∀ x ∈ es.toList, WideElems.rd P (ρ.t 26) (fun _ => some ((DataW.nil : DataW Unit), [])) x = some (.string (strB x.key), .nil) := fun x hxm => by
  unfold WideElems.rd; rw [hko x hxm]; rfl
 have hrg : ∀ x ∈ es.toList, rg P (ρ.t 26) (fun _ => some ((DataW.nil : DataW Unit), [])) x = (.string (strB x.key), .nil) := fun x hxm => by
  unfold rg; rw [hrd x hxm]; rfl
 have hown : w.ownsMap P (ρ.t 26) (fun _ => some ((DataW.nil : DataW Unit), [])) b es.size (.map ((es.toList.map (rg P (ρ.t 26) (fun _ => some ((DataW.nil : DataW Unit), [])))).foldr DataW.insert [])) :=
  ⟨es, clock, hb, ⟨by rw [hsz]; unfold maxLen; omega, hst, fun x hxm => ⟨_, hrd x hxm⟩⟩, Nat.le_refl _, rfl⟩
 have hms : Maps.size (.map ((es.toList.map (rg P (ρ.t 26) (fun _ => some ((DataW.nil : DataW Unit), [])))).foldr DataW.insert [])) = ks.length := by
  show (_ : List _).length = _
  rw [length_sorted]; simp [hsz]
 have hperm : (strKeys (.map ((es.toList.map (rg P (ρ.t 26) (fun _ => some ((DataW.nil : DataW Unit), [])))).foldr DataW.insert []))).Perm (ks.map (·.1)) := by
  refine ((WideShapes.sorted_perm _).map fun p => strOf p.1).trans (List.Perm.of_eq ?_)
  rw [List.map_map]
  have h1 : es.toList.map ((fun p : Lit × DataW Unit => strOf p.1) ∘ rg P (ρ.t 26) (fun _ => some ((DataW.nil : DataW Unit), []))) = (es.toList.map (fun e => (e.key, e.val))).map fun p => strB p.1 := by
   rw [List.map_map]
   refine List.map_congr_left fun x hxm => ?_
   simp only [Function.comp, hrg x hxm, strOf]
  rw [h1, hkv, List.map_map]
  exact List.map_congr_left fun p _ => rfl
 have hseq := AnyZ.keys_gives (ρ := ρ) { K with } Fence.wide 2 trivial rfl (by omega) q b es.size _ w hqb hq hown
 have cS := AnyZ.sorted_in S Fence.wide 5 trivial trivial trivial trivial rfl (by omega) (hsort _) e9 (ρ.f 10) #[.pointer (some ⟨q, 0, none⟩)] trivial e10 _ _ (by rw [hms]; unfold maxLen; omega) (by rw [hms]; omega) w hseq
 refine ((callsIn_wide (n := 5)).1 cS).mono fun e w' ⟨v, ss, he, hS, hrow, _, hB⟩ => ?_
 subst he
 have hp := hS.trans hperm
 have hl : ss.length = ks.length := by rw [hp.length_eq, List.length_map]
 rw [mergeSort_of_perm hp, hl] at hrow
 exact ⟨v, trivial, rfl, st_rowMade hs hB hrow⟩
/-- maps.Clone: a map of its own, with the same entries. -/
theorem con_clone (K : SlLaysW.n5 P ρ) (b : Nat) (kvs : List (Value × Value)) : Con P W0 (ρ.f 5) #[.map (some b)] [mp b kvs] (X := Nat) (fun _ => True) (fun q => .map (some q)) (fun q => [mp q kvs, mp b kvs]) := fun w F hs => by
 obtain ⟨es, clock, hb, hkv, hst⟩ := st_mp2 (i := 0) hs rfl
 refine (AnyW.maps_Clone K b es clock w hb).mono fun e w' ⟨he, hw⟩ => ?_
 subst he hw
 exact ⟨w.heap.size, trivial, rfl, st_head (p := own w.heap.size (.map es clock)) (fun _ hp => ⟨es, clock, hp, hkv, hst⟩) (st_new hs)⟩
end
end Go.SL

