import Derived.Test.YtkndmgfahghcjaaGreatSLY
import Derived.Test.YtkndmgfahghcjaaGreatSLN
import Derived.Shelf.SlIterI.Nil
import Derived.Shelf.SortM.Plain
import Derived.Shelf.SortM.SortNone
/- The sorted keys of a map of ints (slices.Sorted of maps.Keys), for the small separation logic. -/
namespace Go.SL
open Go Go.RowKit Go.MapKept Go.Maps Go.Sort Go.Shelf Go.Proofs
open Go.WideElems (Fit rg)
section
variable {P : Program} {W0 w w' : World} {ρ ρ' : Ren}
/-- What a call has made, beside what was. -/
theorem st_later {L : List HP} {o : Obj} {g : Nat} (h : st W0 w L) (hb : Below w.heap.size w w') (hg : w.heap.size ≤ g) (hn : w'.heap[g]? = some o) : st W0 w' (own g o :: L) := by
  obtain ⟨hB, x, hs, hx⟩ := h
  have hlt : ∀ {k : Nat} {o : Obj}, w.heap[k]? = some o → k < w.heap.size := fun e => (Array.getElem?_eq_some_iff.1 e).1
  have hd : Hp.disj (Hp.one g o) x := fun k u e => by
    obtain ⟨rfl, rfl⟩ := Hp.one_some e
    cases hxx : x k with
    | none => rfl
    | some y => exact absurd (hlt (hx _ _ hxx).2) (by omega)
  refine ⟨hB.trans (hb.mono hB.size), Hp.un (Hp.one g o) x, ⟨_, x, hd, Hp.le_un_left _ _, Hp.le_un_right hd, Hp.one_at _ o, hs⟩, ?_⟩
  intro k u e
  rcases Hp.un_some e with e | e
  · obtain ⟨rfl, rfl⟩ := Hp.one_some e; exact ⟨by have := hB.size; omega, hn⟩
  · have := hx k u e
    exact ⟨this.1, by rw [hb.block k (hlt this.2)]; exact this.2⟩
theorem st_mp2 {L : List HP} {b i : Nat} {kvs : List (Value × Value)} (h : st W0 w L) (hi : L[i]? = some (mp b kvs)) : ∃ (es : Array MapEntry) (clock : Nat), w.heap[b]? = some (.map es clock) ∧ es.toList.map (fun e => (e.key, e.val)) = kvs ∧ Stamped es clock := by
 obtain ⟨_, x, hL, hx⟩ := h
 obtain ⟨a, ha, es, clock, h5, h6, h7⟩ := stL_get hL hi
 exact ⟨es, clock, (hx _ _ (ha _ _ h5)).2, h6, h7⟩
theorem st_rowMade {L : List HP} {e n : Nat} {v : Value} {xs : List Value} (h : st W0 w L) (hb : Below w.heap.size w w') (hr : w'.ownsRow w.heap.size e 1 v n xs) : st W0 w' (sl e 1 v n xs :: L) := by
  obtain ⟨hl, hr | ⟨g, cap, cur, hv, hg, hc, h1, h2, h3, h4⟩⟩ := hr
  · have := st_below h hb
    obtain ⟨hB, x, hs, hx⟩ := this
    exact ⟨hB, x, ⟨Hp.emp, x, Hp.emp_disj x, Hp.emp_le x, Hp.le_refl x, ⟨hl, .inl hr⟩, hs⟩, hx⟩
  · refine st_head (fun y hy => ?_) (st_later h hb hg hc)
    refine ⟨hl, .inr ⟨g, cap, hv, h1, cur.toList, ?_, ?_, h2, ?_, by have hy : y g = _ := hy; simpa using hy⟩⟩
    · simpa using h3
    · rw [hl]; simp; omega
    · rw [hl]; exact h4
end
end Go.SL

