/- Appends of whatever slice, and a slice of no elements, for the small separation logic. -/
import Derived.Test.YtoehhbapilfdbaaDoorSLR
namespace Go.SL
open Go Go.RowKit
section
variable {P : Program} {W0 : World} {E : Nat → Value} {L : List HP} {x y : Operand} {v : Value} {ty : TypeId}
end
end Go.SL
