/- An array of three booleans that came in, opened. -/
import Derived.Test.YtoehhbapilfdbaaDoorSLU
import Derived.Laws.IdiomArrays
namespace Go.SL
open Go Go.RowKit Go.ChangeShapes Go.WideShapes Go.Deep
section
variable {H : Type} {enc : TypeId × Value → H} {P : Program}
theorem okWide_arr {t n e : TypeId} {W : World} {r : Reach} {base : Nat} {v : Value} (ht : P.underlying t = some (.array n e)) (h : Value.okWide P W r base t v) : ∃ cs, v = .agg cs ∧ cs.size = P.cellsOf t := by
  simp only [Value.okWide, ht] at h
  obtain ⟨cs, h1, h2, _⟩ := h
  exact ⟨cs, h1, h2⟩
theorem elem_arr3 {t e : TypeId} {W : World} {r : Reach} {base b2 : Nat} {sp : Nat → Bool} {v : Value} {y : DataW H × List MemPlace} (ht : P.underlying t = some (.array 3 e)) (hce : P.cellsOf e = 1) (hct : P.cellsOf t = 3) (hb : P.underlying e = some .bool)
    (hv : Value.okWide P W r base t v) (h : ∃ n, DataW.trod enc P W b2 sp true n t v.cells.toList = some y) : ∃ a b c : Bool, v = .agg #[.bool a, .bool b, .bool c] := by
  obtain ⟨cs, rfl, hl⟩ := okWide_arr ht hv
  obtain ⟨n, h⟩ := h
  rw [hct] at hl
  obtain ⟨l⟩ := cs
  match l, hl with
  | [c0, c1, c2], _ =>
    obtain ⟨y0, y1, y2, m, _, h0, h1, h2⟩ := trod_array3 ht hce (by simpa [Value.cells] using h)
    obtain ⟨a, ea, _⟩ := DataW.trod_bool hb h0
    obtain ⟨b, eb, _⟩ := DataW.trod_bool hb h1
    obtain ⟨c, ec, _⟩ := DataW.trod_bool hb h2
    simp only [List.cons.injEq, and_true] at ea eb ec
    subst ea; subst eb; subst ec
    exact ⟨a, b, c, rfl⟩
end
end Go.SL
