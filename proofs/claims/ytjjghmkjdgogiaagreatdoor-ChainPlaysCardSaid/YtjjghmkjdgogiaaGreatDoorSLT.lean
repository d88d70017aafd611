/- A struct of four integers, opened. -/
import Derived.Test.YtjjghmkjdgogiaaGreatDoorSLU
namespace Go.SL
open Go Go.RowKit Go.ChangeShapes Go.WideShapes Go.Deep
section
variable {H : Type} {enc : TypeId × Value → H} {P : Program}
theorem elem_int4 {e : Nat} {f0 f1 f2 f3 : Field} {k0 k1 k2 k3 : IntKind} {W : World} {base : Nat} {sp : Nat → Bool} {n : Nat} {cs : List Value} {y : DataW H × List MemPlace} (he : P.underlying e = some (.struct #[f0, f1, f2, f3])) (hone : oneCellFields P #[f0, f1, f2, f3] = true) (hC : P.cellsOf e = 4)
  (h0 : P.underlying f0.type = some (.int k0)) (h1 : P.underlying f1.type = some (.int k1)) (h2 : P.underlying f2.type = some (.int k2)) (h3 : P.underlying f3.type = some (.int k3)) (h : DataW.trod enc P W base sp true n e cs = some y) :
  ∃ a b c d : Int, (Lit.int k0 a).wf = true ∧ (Lit.int k1 b).wf = true ∧ (Lit.int k2 c).wf = true ∧ (Lit.int k3 d).wf = true ∧ cs = [.int k0 a, .int k1 b, .int k2 c, .int k3 d] := by
 obtain ⟨xs, n', _, _, hl, hlen, hg⟩ := DataW.trod_struct he h
 have key : ∀ (i : Nat) (f : Field) (k : IntKind), #[f0, f1, f2, f3][i]? = some f → P.underlying f.type = some (.int k) → ∃ z, (Lit.int k z).wf = true ∧ (cs.drop i).take 1 = [.int k z] := fun i f k hi hk => by
  obtain ⟨o, kk⟩ := hone_of hone i f hi
  have h' := hg i f hi
  rw [o, kk] at h'
  have hlt : i < xs.length := by rw [hlen]; exact (Array.getElem?_eq_some_iff.1 hi).1
  rw [List.getElem?_eq_getElem hlt] at h'
  obtain ⟨z, hz, _, hw⟩ := DataW.trod_int hk h'
  exact ⟨z, hw, hz⟩
 obtain ⟨a, wa, ea⟩ := key 0 f0 k0 rfl h0
 obtain ⟨b, wb, eb⟩ := key 1 f1 k1 rfl h1
 obtain ⟨c, wc, ec⟩ := key 2 f2 k2 rfl h2
 obtain ⟨d, wd, ed⟩ := key 3 f3 k3 rfl h3
 rw [hC] at hl
 match cs, hl with
 | [c0, c1, c2, c3], _ =>
  simp at ea eb ec ed
  exact ⟨a, b, c, d, wa, wb, wc, wd, by rw [ea, eb, ec, ed]⟩
end
end Go.SL
