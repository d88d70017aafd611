import Derived.Test.YtkndmgfahghcjaaGreatJnX
/- The laws' plain part: calls on journals whose state is known. -/
namespace Go.Jn
open Go Go.SL Go.Dk
set_option linter.unusedVariables false
section
variable {S : List ByteArray} {t s : ByteArray} {q : Int} {dn : Bool} {k : Nat}
theorem Ok.wf (h : Ok S t q) : WF ⟨S, [], dn, k, none⟩ := ⟨h.wfl, fun _ _ h => by cases h⟩
theorem Ok.rng (h : Ok S t q) : 0 ≤ q ∧ q ≤ 9223372036854775807 ∧ 4 ≤ S.length := opens_rng h.opens
theorem put_js (h : Ok S t q) (hq : q < 9223372036854775807) (hs : s.size ≤ half S * 64) (k : Nat) :
  ∃ S', S'.length = S.length ∧ Ok S' s (q + 1) ∧ (JS.mk t q false).put ⟨S, [], false, k, none⟩ s = (0, ⟨S', [], false, k + nPieces s + 3, none⟩, ⟨s, q + 1, false⟩) := by
 obtain ⟨S', h1, h2, h3⟩ := put_ends h hq hs k
 refine ⟨S', h1, h2, ?_⟩
 rw [JS.put, if_neg (by simp), if_neg (by show ¬ half S * 64 < s.size; omega), h3, if_pos rfl]
end
/-! ### Texts -/
end Go.Jn

