/-
  DERIVED. GIVEN WITH THE SEED: THE CARDS: each row of YtoehhbapilfdbaaDoorRows.lean that lists a variable, with what it lists TIED to the program's text (the seventh form; the later family's looks); each row that meets fmt, with fmt's text TOLD by the authors' own Lean function (tested against real Go, not proved from fmt's source: count such statements apart). THE CARD IS WHAT COUNTS. Prove the row's statement (the work); the ties are given (YtoehhbapilfdbaaDoorTie.lean); close each card by the builder's one call (the guide's Derived/Test/ToyasCard.lean, 'card_holds'). Laid BY PROGRAM, IN A SANDBOX (cutbox-door.mjs). By AI agents, Wed Nov 11 2026. No macro, syntax, notation, axiom, sorry.
-/
import Derived.Test.YtoehhbapilfdbaaDoorRows
import GoSem.ClaimSeven
namespace Go.Proofs.YtoehhbapilfdbaaDoor
namespace Rows

/-- THE TIED CARD OF 'phratrylaw10.SchedUnlike'. -/
def schedUnlikeCard : Claim7 := { stood := { row := schedUnlikeRow, standIns := [], harness := (true, "a86dfba4d745d9cc7a2202c83456cbbdd23afa3b1e0555b32aabbe65424def92"), looks := false }, kinds := [], alts := [], laidByText := true, laidKinds := [.data], laidTests := true, laidLooks := .later }
def SchedUnlikeCardSaid : Prop := Claim7.holds Tryd.pinned (.plain (OpenSpec.ofChange schedUnlikeSpec)) schedUnlikeCard

/-- THE TIED CARD OF 'phratrylaw10.SchedApart'. -/
def schedApartCard : Claim7 := { stood := { row := schedApartRow, standIns := [], harness := (true, "a86dfba4d745d9cc7a2202c83456cbbdd23afa3b1e0555b32aabbe65424def92"), looks := false }, kinds := [], alts := [], laidByText := true, laidKinds := [.data], laidTests := true, laidLooks := .later }
def SchedApartCardSaid : Prop := Claim7.holds Tryd.pinned (.plain (OpenSpec.ofChange schedApartSpec)) schedApartCard

/-- THE SECOND FORM's CARD OF 'phratrylaw10.SchedUnlike'. -/
def schedUnlikeUptoCard : Claim7 := { stood := { row := schedUnlikeUptoRow, standIns := [], harness := (true, "a86dfba4d745d9cc7a2202c83456cbbdd23afa3b1e0555b32aabbe65424def92"), looks := false }, kinds := [], alts := [], laidByText := true, laidKinds := [.data], laidTests := true, laidLooks := .later }
def SchedUnlikeUptoCardSaid : Prop := Claim7.holds Tryd.pinned (.plain (OpenSpec.upto schedUnlikeSpec)) schedUnlikeUptoCard

/-- THE SECOND FORM's CARD OF 'phratrylaw10.SchedApart'. -/
def schedApartUptoCard : Claim7 := { stood := { row := schedApartUptoRow, standIns := [], harness := (true, "a86dfba4d745d9cc7a2202c83456cbbdd23afa3b1e0555b32aabbe65424def92"), looks := false }, kinds := [], alts := [], laidByText := true, laidKinds := [.data], laidTests := true, laidLooks := .later }
def SchedApartUptoCardSaid : Prop := Claim7.holds Tryd.pinned (.plain (OpenSpec.upto schedApartSpec)) schedApartUptoCard
end Rows
end Go.Proofs.YtoehhbapilfdbaaDoor
