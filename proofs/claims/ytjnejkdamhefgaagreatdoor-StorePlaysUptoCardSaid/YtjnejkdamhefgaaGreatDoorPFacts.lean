/- What the row of StorePlays says of the program's form: each cell by itself. -/
import Derived.Test.YtjnejkdamhefgaaGreatDoorRows
import Derived.SevenTiedAt
import Derived.LaidMore
import Derived.Stop.Joined
namespace Go.Proofs.YtjnejkdamhefgaaGreatDoor.storePlays
open Go
set_option maxRecDepth 20000
theorem laidOut : laidOutB Tryz.prog = true := by kernel_rfl
theorem j1 : mapsRowed Tryz.prog = true := by kernel_rfl
theorem j2 : namedTie Tryz.prog Rows.storePlaysUptoRow.named Rows.storePlaysSpec.vars = true := by kernel_rfl
theorem j3 : (Rows.storePlaysUptoRow.inPlace == Tryz.prog.inPlace 3) = true := by kernel_rfl
theorem j4 : (Rows.storePlaysUptoRow.unfollowed == Tryz.prog.unfollowed 3) = true := by kernel_rfl
theorem j5 : (Rows.storePlaysUptoRow.recurses == Tryz.prog.recurses 3) = true := by kernel_rfl
theorem j6 : (Rows.storePlaysUptoRow.named == Tryz.prog.varsNamed 3) = true := by kernel_rfl
theorem j7 : (Rows.storePlaysUptoRow.plainKeys == Tryz.prog.plainKeys) = true := by kernel_rfl
theorem j8 : Tryz.prog.stopsHeard = true := by kernel_rfl
theorem j9 : Tryz.prog.mayEnter = true := by kernel_rfl
theorem closed : joinedFacts Tryz.prog 3 Tryz.f3 Rows.storePlaysSpec Rows.storePlaysUptoRow = true := by
 unfold joinedFacts
 rw [laidOut, j1, j2, j3, j4, j5, j6, j7, j8, j9]
 kernel_rfl
end Go.Proofs.YtjnejkdamhefgaaGreatDoor.storePlays
