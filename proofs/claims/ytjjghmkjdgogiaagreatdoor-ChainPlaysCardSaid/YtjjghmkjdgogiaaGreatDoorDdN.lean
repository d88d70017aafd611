/- What follows: contracts of the calls. -/
import Derived.Test.YtjjghmkjdgogiaaGreatDoorDdD
namespace Go.Proofs.YtjjghmkjdgogiaaGreatDoor
open Go Go.SL Go.Dd Go.RowKit
set_option linter.unusedVariables false
set_option maxRecDepth 8000

noncomputable def derB (ts : List TermR) (K : Nat → Prop) (x : Int) : Bool := @decide (1 ≤ x ∧ x ≤ (ts.length : Int) ∧ Der ts K x.toNat) (Classical.propDecidable _)
def int1 (x : Int) : List Value := [.int .i64 x]
theorem flat1 : ∀ {l : List Int} {k : Nat} {o : Int}, l[k]? = some o → (l.flatMap int1)[k]? = some (.int .i64 o)
 | [], k, o, h => by simp at h
 | q :: l, 0, o, h => by simp at h; subst h; rfl
 | q :: l, k + 1, o, h => by
  have := flat1 (l := l) (k := k) (by simpa using h)
  simpa [List.flatMap_cons, int1] using this
theorem rd1 {W0 : World} {v : Value} {l : List Int} {k : Nat} {o : Int} (h : Rd W0 v l.length (l.flatMap int1)) (hg : l[k]? = some o) : W0.cell? ⟨rb v, ro v + k, none⟩ = some (.int .i64 o) :=
 h.cell _ _ (flat1 hg)
/-- What is known, by its numbers. -/
def KL (l : List Int) (n : Nat) : Prop := ∃ x ∈ l, x.toNat = n
theorem build_all {l : List TermR} (h : ∀ x ∈ l, okT x) : Wf (build [] l) := by have := build_wf h l.length; rwa [List.take_length] at this
theorem build_all_le (l : List TermR) : (build [] l).length ≤ l.length := by have := build_le (l := l) l.length; rwa [List.take_length] at this
end Go.Proofs.YtjjghmkjdgogiaaGreatDoor
