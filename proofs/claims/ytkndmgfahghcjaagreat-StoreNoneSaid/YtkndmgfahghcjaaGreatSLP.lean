import Derived.Test.YtkndmgfahghcjaaGreatSLU
/- An element that is a struct of two strings and a bool. -/
namespace Go.SL
open Go Go.RowKit Go.ChangeShapes Go.WideShapes Go.Deep

section
variable {H : Type} {enc : TypeId × Value → H} {P : Program}
theorem elem_str2_bool {e : Nat} {f0 f1 f2 : Field} {W : World} {base : Nat} {sp : Nat → Bool} {n : Nat} {cs : List Value} {y : DataW H × List MemPlace} (he : P.underlying e = some (.struct #[f0, f1, f2])) (hone : oneCellFields P #[f0, f1, f2] = true) (hC : P.cellsOf e = 3)
  (h0 : P.underlying f0.type = some .string) (h1 : P.underlying f1.type = some .string) (h2 : P.underlying f2.type = some .bool) (h : DataW.trod enc P W base sp true n e cs = some y) :
  ∃ (a b : ByteArray) (g : Bool), a.size ≤ maxLen ∧ b.size ≤ maxLen ∧ cs = [.string a, .string b, .bool g] := by
 obtain ⟨xs, n', _, _, hl, hlen, hg⟩ := DataW.trod_struct he h
 have hlen3 : xs.length = 3 := hlen
 have at_ : ∀ (i : Nat) (f : Field), #[f0, f1, f2][i]? = some f → ∃ z, DataW.trod enc P W base sp true n' f.type ((cs.drop i).take 1) = some z := fun i f hi => by
  obtain ⟨o, kk⟩ := hone_of hone i f hi
  have h' := hg i f hi
  rw [o, kk] at h'
  have hlt : i < xs.length := by rw [hlen]; exact (Array.getElem?_eq_some_iff.1 hi).1
  rw [List.getElem?_eq_getElem hlt] at h'
  exact ⟨_, h'⟩
 obtain ⟨_, t0⟩ := at_ 0 f0 rfl
 obtain ⟨_, t1⟩ := at_ 1 f1 rfl
 obtain ⟨_, t2⟩ := at_ 2 f2 rfl
 obtain ⟨a, ea, _, wa⟩ := DataW.trod_string h0 t0
 obtain ⟨b, eb, _, wb⟩ := DataW.trod_string h1 t1
 obtain ⟨g, eg, _⟩ := DataW.trod_bool h2 t2
 rw [hC] at hl
 match cs, hl with
 | [c0, c1, c2], _ =>
  simp at ea eb eg
  exact ⟨a, b, g, wa, wb, by rw [ea, eb, eg]⟩
end
end Go.SL

