/- Deferred calls and results that lie in cells, for the small separation logic. -/
import Derived.Test.YtjjghmkjdgogiaaGreatDoorSLR
import Derived.Defers
import Derived.Lib.AppendStr
namespace Go.SL
open Go Go.RowKit

/-- A contract of a function that is called as a deferred one. -/
def ConD (P : Program) (W0 : World) (f : FuncId) (args : Array Value) (pre : List HP) {X : Type} (φ : X → Prop) (post : X → List HP) : Prop :=
 ∀ (w : World) (u : FrameMode) (F : List HP), st W0 w (pre ++ F) → CallsD P f args u w fun e u' w' => u' = u ∧ Ret (fun _ w' => ∃ x, φ x ∧ st W0 w' (post x ++ F)) e w'

section
variable {P : Program} {W0 : World} {Q : Exit → Act → World → Prop} {n : Nat} {D : List Deferred} {ops : Array Oper} {E : Nat → Value} {L : List HP}
 {d : Option Tmp} {ty : TypeId} {pos : String} {aft : Array Edge} {os : List Oper}

theorem ConD.of {f : FuncId} {fn : Func} {c : Code} {args : List Value} {pre : List HP} {X : Type} {φ : X → Prop} {val : X → Value} {post : X → List HP} {n : Nat}
    (hf : P.funcs[f]? = some fn) (hb : fn.body = some c) (hn : fn.ntmps = n) (hle : Nat.ble args.length n = true)
    (k : ∀ F, Wc P W0 (bodyPost P fn (Ret fun v w' => ∃ x, φ x ∧ v = val x ∧ st W0 w' (post x ++ F))) n [] c (fun t => args.getD t undef) (pre ++ F)) :
    ConD P W0 f args.toArray pre φ post := fun w u F hs => by
  have hle' : args.length ≤ n := Nat.le_of_ble_eq_true hle
  refine CallsD.mono (callsD_of_wp hf hb (k F _ w ⟨?_, rfl, fun t => ?_⟩ hs)) fun e u' w' h => ⟨h.1, ?_⟩
  · simp [hn]; omega
  · simp only [Array.getD_eq_getD_getElem?, List.getD_eq_getElem?_getD, Array.getElem?_append, hn]
    by_cases ht : t < args.length
    · rw [if_pos (by simpa using ht)]; simp [ht]
    · rw [if_neg (by simpa using ht)]
      simp [List.getElem?_eq_none (Nat.le_of_not_lt ht), Array.getElem?_replicate]
      split <;> rfl
  · cases e with
    | returned v => obtain ⟨x, hx, _, hs⟩ := h.2; exact ⟨x, hx, hs⟩
    | panicked c => exact h.2
    | outgrown => exact h.2

end

section
variable {P : Program} {W0 : World} {E : Nat → Value} {L : List HP} {x : Operand} {ty : TypeId}
end

/-! ### A string's bytes behind those of a slice -/
section
variable {P : Program} {W0 : World} {E : Nat → Value} {L : List HP} {x y : Operand} {v : Value} {ty : TypeId}
end
end Go.SL
