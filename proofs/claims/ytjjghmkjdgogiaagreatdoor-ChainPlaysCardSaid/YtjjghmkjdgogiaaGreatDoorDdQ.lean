/- What follows, told by a list that is looked through. -/
import Derived.Test.YtjjghmkjdgogiaaGreatDoorDdN
import Derived.Test.YtjjghmkjdgogiaaGreatDoorDdW
namespace Go.Proofs.YtjjghmkjdgogiaaGreatDoor
open Go Go.SL Go.Dd Go.RowKit
set_option linter.unusedVariables false
end Go.Proofs.YtjjghmkjdgogiaaGreatDoor
