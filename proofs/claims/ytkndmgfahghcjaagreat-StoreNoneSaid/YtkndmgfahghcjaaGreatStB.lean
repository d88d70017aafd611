import Derived.Test.YtkndmgfahghcjaaGreatStA
import Derived.Test.YtkndmgfahghcjaaGreatWrF
import Derived.Test.YtkndmgfahghcjaaGreatWrN
import Derived.Test.YtkndmgfahghcjaaGreatWrR
import Derived.Test.YtkndmgfahghcjaaGreatWrO
/- Contracts of the calls. -/
namespace Go.Proofs.YtkndmgfahghcjaaGreat
open Go Go.SL Go.St Go.Wr Go.RowKit
open Go.Dk (DS WF)
open Go.Jn (JS Ok openD_up)
set_option linter.unusedVariables false
set_option maxRecDepth 8000
theorem by_44 : (Tryz.prog.info? 44).map (·.bytes) = some 40 := by kernel_rfl
end Go.Proofs.YtkndmgfahghcjaaGreat

