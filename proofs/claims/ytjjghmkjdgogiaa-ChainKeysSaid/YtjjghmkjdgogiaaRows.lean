/-
  No cell of these rows narrows 'for every input' (looked for: loops, veiled, ifaces, maps, wideKeys, modest, calm, conditions, laid).
  DERIVED. THE GIVEN ROWS OF THIS SEAT. 3 by the template 'for every input the law returns true; each argument reads behind the call as it read before'; 0 by the template 'total and deterministic' (their statements: YtjjghmkjdgogiaaTotals.lean).
  GIVEN WITH THE SEED: the statements are not yours to turn. If you find one false, say at which input.
  Laid BY PROGRAM, IN A SANDBOX (cutbox-rows.mjs): the forced cells as the released guide's own fill.sh prints them over the translation 3365020fcc105bd4… (all of the seat's roots in one cut). By AI agents, Wed Nov 11 2026. No macro, syntax, notation, axiom, sorry.
-/
import Derived.Test.YtjjghmkjdgogiaaChecked
import GoSem.Claim
import GoSem.ClaimJoined
import GoSem.ClaimMapViews
import Derived.JoinedTies
import Derived.KernelRfl
namespace Go.Proofs.Ytjjghmkjdgogiaa
/- THE CELL 'sum', in the pinned program and in every row, IS THE sha256 OF THE DUMP (.gsa) THAT YtjjghmkjdgogiaaProg.lean LOADS. Nothing in Lean hashes anything: it is a label: what it is worth is what the hold of that sum in a sandbox is worth. -/
noncomputable def Try.pinned : Pinned := { name := "ytjjghmkjdgogiaa", sum := "3365020fcc105bd45e0761294ed9ad50d810db54b1351352a7f14b1497151367", checked := Try.checked }
namespace Rows
def none {H : Type} : Left H := { results := [], args := [] }

/-- 'phratrylaw11.ChainApart': WHATEVER THE INPUT: true; the input reads as it did. -/
def chainApartSpec : ChangeSpec := { name := "chainApart", fn := fun _ => fun
  | [d1, d2, d3, d4] => { results := [.lit (.bool true)], args := [d1, d2, d3, d4] }
  | _ => none }
def chainApartRow : OpenClaim := { program := "ytjjghmkjdgogiaa", sum := "3365020fcc105bd45e0761294ed9ad50d810db54b1351352a7f14b1497151367", func := "phratry/phratrylaw11.ChainApart", spec := "chainApart", unfollowed := true, recurses := true, plainKeys := false, apart := false }
def ChainApartSaid : Prop := chainApartRow.holds Try.pinned (OpenSpec.ofChange chainApartSpec)

/-- ITS FALSE NEIGHBOUR: 'it returns false'. Refute it at one input. -/
def chainApartWrong : ChangeSpec := { name := "chainApart", fn := fun _ => fun
  | [d1, d2, d3, d4] => { results := [.lit (.bool false)], args := [d1, d2, d3, d4] }
  | _ => none }
def ChainApartWrongFalsely : Prop := chainApartRow.holds Try.pinned (OpenSpec.ofChange chainApartWrong)

/-- 'phratrylaw11.ChainKeys': WHATEVER THE INPUT: true; the input reads as it did. -/
def chainKeysSpec : ChangeSpec := { name := "chainKeys", fn := fun _ => fun
  | [d1, d2, d3, d4] => { results := [.lit (.bool true)], args := [d1, d2, d3, d4] }
  | _ => none }
def chainKeysRow : OpenClaim := { program := "ytjjghmkjdgogiaa", sum := "3365020fcc105bd45e0761294ed9ad50d810db54b1351352a7f14b1497151367", func := "phratry/phratrylaw11.ChainKeys", spec := "chainKeys", unfollowed := true, recurses := true, plainKeys := false, apart := false }
def ChainKeysSaid : Prop := chainKeysRow.holds Try.pinned (OpenSpec.ofChange chainKeysSpec)

/-- ITS FALSE NEIGHBOUR: 'it returns false'. Refute it at one input. -/
def chainKeysWrong : ChangeSpec := { name := "chainKeys", fn := fun _ => fun
  | [d1, d2, d3, d4] => { results := [.lit (.bool false)], args := [d1, d2, d3, d4] }
  | _ => none }
def ChainKeysWrongFalsely : Prop := chainKeysRow.holds Try.pinned (OpenSpec.ofChange chainKeysWrong)

/-- 'phratrylaw11.ChainForgets': WHATEVER THE INPUT: true; the input reads as it did. -/
def chainForgetsSpec : ChangeSpec := { name := "chainForgets", fn := fun _ => fun
  | [d1, d2, d3] => { results := [.lit (.bool true)], args := [d1, d2, d3] }
  | _ => none }
def chainForgetsRow : OpenClaim := { program := "ytjjghmkjdgogiaa", sum := "3365020fcc105bd45e0761294ed9ad50d810db54b1351352a7f14b1497151367", func := "phratry/phratrylaw11.ChainForgets", spec := "chainForgets", unfollowed := true, recurses := true, plainKeys := false, apart := false }
def ChainForgetsSaid : Prop := chainForgetsRow.holds Try.pinned (OpenSpec.ofChange chainForgetsSpec)

/-- ITS FALSE NEIGHBOUR: 'it returns false'. Refute it at one input. -/
def chainForgetsWrong : ChangeSpec := { name := "chainForgets", fn := fun _ => fun
  | [d1, d2, d3] => { results := [.lit (.bool false)], args := [d1, d2, d3] }
  | _ => none }
def ChainForgetsWrongFalsely : Prop := chainForgetsRow.holds Try.pinned (OpenSpec.ofChange chainForgetsWrong)

/- THE SECOND FORM. 'bulk': how many values and letters a reading holds, each counted each time it is reached (what is shared counts as often as it is met; a slice's spare places count too). A statement '..UptoSaid' is the law's where the arguments, and the package variables that the reading takes, are together of bulk at most 1048576: NARROWER than '..Said'. Prove '..Said' where nothing that the law and all that it calls make is longer than what came in: it says more and counts as full. Else prove '..UptoSaid'. A law counts once. -/
mutual
def uptoBulk {H : Type} : DataW H → Nat
  | .lit (.string bytes) => bytes.length + 1
  | .lit _ => 1
  | .nil => 1
  | .ptr d => uptoBulk d + 1
  | .slice elems spare => uptoBulkAll elems + uptoBulkAll spare + 1
  | .agg parts => uptoBulkAll parts + 1
  | .iface _ d => uptoBulk d + 1
  | .map entries => uptoBulkEntries entries + 1
  | .held _ => 1
def uptoBulkAll {H : Type} : List (DataW H) → Nat
  | [] => 0
  | d :: r => uptoBulk d + uptoBulkAll r
def uptoBulkEntries {H : Type} : List (Lit × DataW H) → Nat
  | [] => 0
  | x :: r => uptoBulkEntry x + uptoBulkEntries r
def uptoBulkEntry {H : Type} : Lit × DataW H → Nat
  | (.string bytes, d) => bytes.length + uptoBulk d + 1
  | (_, d) => uptoBulk d + 1
 end
def uptoSmall : (H : Type) → List (DataW H) → Bool := fun _ ds => decide (uptoBulkAll ds ≤ 1048576)
def OpenSpec.upto (s : _root_.Go.ChangeSpec) : _root_.Go.OpenSpec := { _root_.Go.OpenSpec.ofChange s with cond := some uptoSmall }

/-- 'phratrylaw11.ChainApart', WHERE WHAT IT READS IS OF BULK AT MOST 1048576: true; the input reads as it did. -/
def chainApartUptoRow : OpenClaim := { program := "ytjjghmkjdgogiaa", sum := "3365020fcc105bd45e0761294ed9ad50d810db54b1351352a7f14b1497151367", func := "phratry/phratrylaw11.ChainApart", spec := "chainApart", unfollowed := true, recurses := true, plainKeys := false, apart := false, narrowed := true }
def ChainApartUptoSaid : Prop := chainApartUptoRow.holds Try.pinned (OpenSpec.upto chainApartSpec)

/-- 'phratrylaw11.ChainKeys', WHERE WHAT IT READS IS OF BULK AT MOST 1048576: true; the input reads as it did. -/
def chainKeysUptoRow : OpenClaim := { program := "ytjjghmkjdgogiaa", sum := "3365020fcc105bd45e0761294ed9ad50d810db54b1351352a7f14b1497151367", func := "phratry/phratrylaw11.ChainKeys", spec := "chainKeys", unfollowed := true, recurses := true, plainKeys := false, apart := false, narrowed := true }
def ChainKeysUptoSaid : Prop := chainKeysUptoRow.holds Try.pinned (OpenSpec.upto chainKeysSpec)

/-- 'phratrylaw11.ChainForgets', WHERE WHAT IT READS IS OF BULK AT MOST 1048576: true; the input reads as it did. -/
def chainForgetsUptoRow : OpenClaim := { program := "ytjjghmkjdgogiaa", sum := "3365020fcc105bd45e0761294ed9ad50d810db54b1351352a7f14b1497151367", func := "phratry/phratrylaw11.ChainForgets", spec := "chainForgets", unfollowed := true, recurses := true, plainKeys := false, apart := false, narrowed := true }
def ChainForgetsUptoSaid : Prop := chainForgetsUptoRow.holds Try.pinned (OpenSpec.upto chainForgetsSpec)

end Rows
end Go.Proofs.Ytjjghmkjdgogiaa
