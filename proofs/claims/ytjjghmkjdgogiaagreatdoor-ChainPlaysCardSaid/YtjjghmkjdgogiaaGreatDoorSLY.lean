/- Bytes of a text, a text of bytes that are kept (strings.Builder), and calls that leave all that was, for the small separation logic. -/
import Derived.Test.YtjjghmkjdgogiaaGreatDoorSLD
import Derived.Lib.ConvBytes
import Derived.Lib.UnsafeStr
import Derived.Lib.Builder
import Derived.Laws.Externs
namespace Go.SL
open Go Go.RowKit
section
variable {P : Program} {W0 w w' : World} {E : Nat → Value} {L F : List HP} {x y : Operand} {v : Value} {ty : TypeId}
/-- Whatever was is as it was. -/
theorem st_below (h : st W0 w L) (hb : Below w.heap.size w w') : st W0 w' L := by
 obtain ⟨hB, x, hs, hx⟩ := h
 have hlt : ∀ {k : Nat} {o : Obj}, w.heap[k]? = some o → k < w.heap.size := fun e => (Array.getElem?_eq_some_iff.1 e).1
 exact ⟨hB.trans (hb.mono hB.size), x, hs, fun k o e => ⟨(hx k o e).1, by rw [hb.block k (hlt (hx k o e).2)]; exact (hx k o e).2⟩⟩
theorem Con.below {f : FuncId} {args : Array Value} {u : Value} (h : ∀ w, Calls P f args w fun e w' => e = .returned u ∧ Below w.heap.size w w') : Con P W0 f args [] (X := Unit) (fun _ => True) (fun _ => u) (fun _ => []) := fun w F hs =>
 (h w).mono fun e w' ⟨he, hb⟩ => by subst he; exact ⟨(), trivial, rfl, st_below hs hb⟩
/-! ### A text's bytes -/
/-! ### strings.Builder -/
end
end Go.SL
