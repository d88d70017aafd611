import Derived.Test.YtkndmgfahghcjaaGreatWrC
/- Contracts of the calls. -/
namespace Go.Proofs.YtkndmgfahghcjaaGreat
open Go Go.SL Go.Wr Go.RowKit
open Go.Dk (beyondF beyondB beyond_step beyond_le beyond_one beyond_two)
set_option linter.unusedVariables false
set_option maxRecDepth 8000
theorem zo_3 : zeroOf Tryz.prog 3 = some (Value.int .i64 0) := by kernel_rfl
end Go.Proofs.YtkndmgfahghcjaaGreat

