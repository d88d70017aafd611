/- Maps, for the small separation logic. -/
import Derived.Test.YtnhejdnigblnoaaSLR
import Derived.Maps.Keyed
import Derived.DeepKeys4
namespace Go.SL
open Go Go.RowKit

section
variable {P : Program} {W0 w : World} {E : Nat → Value} {L : List HP} {ty : TypeId} {x y z : Operand} {v : Value}
/-- Structs, compared. -/
theorem q_eql_agg {t t' : TypeId} {a b : Array Value} {r : Bool} (hx : evE E x = .agg a) (hy : evE E y = .agg b) (hg : P.eqGuardType P.depth t = false) (hr : ∀ w, (Op.equal t (.agg a) (.agg b)).run P w = .ok r w) : Quiet P W0 E L (.binOp .eql t x y t') ty (.bool r) := fun w d pos aft g _ => by
 simp [execOp, eqGuard, hx, hy, binOp, hg, hr w, Result.andThen]

end
end Go.SL
