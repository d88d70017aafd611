/-
  No cell of these rows narrows 'for every input' (looked for: loops, veiled, ifaces, maps, wideKeys, modest, calm, conditions, laid).
  DERIVED. THE GIVEN ROWS OF THIS SEAT. 6 by the template 'for every input the law returns true; each argument reads behind the call as it read before'; 0 by the template 'total and deterministic' (their statements: YtmghnmfhniohkaaTotals.lean).
  GIVEN WITH THE SEED: the statements are not yours to turn. If you find one false, say at which input.
  Laid BY PROGRAM, IN A SANDBOX (cutbox-rows.mjs): the forced cells as the released guide's own fill.sh prints them over the translation c089fc7a85270e38… (all of the seat's roots in one cut). By AI agents, Wed Nov 11 2026. No macro, syntax, notation, axiom, sorry.
-/
import Derived.Test.YtmghnmfhniohkaaChecked
import GoSem.Claim
import GoSem.ClaimJoined
import GoSem.ClaimMapViews
import Derived.JoinedTies
import Derived.KernelRfl
namespace Go.Proofs.Ytmghnmfhniohkaa
/- THE CELL 'sum', in the pinned program and in every row, IS THE sha256 OF THE DUMP (.gsa) THAT YtmghnmfhniohkaaProg.lean LOADS. Nothing in Lean hashes anything: it is a label: what it is worth is what the hold of that sum in a sandbox is worth. -/
noncomputable def Try.pinned : Pinned := { name := "ytmghnmfhniohkaa", sum := "c089fc7a85270e38fe6e414c7e710d1e1fb52a0047d35537108342b0fb99979e", checked := Try.checked }
namespace Rows
def none {H : Type} : Left H := { results := [], args := [] }

/-- 'phratrylaw04.DeduceAsks': WHATEVER THE INPUT: true; the input reads as it did. -/
def deduceAsksSpec : ChangeSpec := { name := "deduceAsks", fn := fun _ => fun
  | [d1, d2, d3] => { results := [.lit (.bool true)], args := [d1, d2, d3] }
  | _ => none }
def deduceAsksRow : OpenClaim := { program := "ytmghnmfhniohkaa", sum := "c089fc7a85270e38fe6e414c7e710d1e1fb52a0047d35537108342b0fb99979e", func := "phratry/phratrylaw04.DeduceAsks", spec := "deduceAsks", plainKeys := false, apart := false }
def DeduceAsksSaid : Prop := deduceAsksRow.holds Try.pinned (OpenSpec.ofChange deduceAsksSpec)

/-- ITS FALSE NEIGHBOUR: 'it returns false'. Refute it at one input. -/
def deduceAsksWrong : ChangeSpec := { name := "deduceAsks", fn := fun _ => fun
  | [d1, d2, d3] => { results := [.lit (.bool false)], args := [d1, d2, d3] }
  | _ => none }
def DeduceAsksWrongFalsely : Prop := deduceAsksRow.holds Try.pinned (OpenSpec.ofChange deduceAsksWrong)

/-- 'phratrylaw04.DeducePairs': WHATEVER THE INPUT: true; the input reads as it did. -/
def deducePairsSpec : ChangeSpec := { name := "deducePairs", fn := fun _ => fun
  | [d1, d2, d3] => { results := [.lit (.bool true)], args := [d1, d2, d3] }
  | _ => none }
def deducePairsRow : OpenClaim := { program := "ytmghnmfhniohkaa", sum := "c089fc7a85270e38fe6e414c7e710d1e1fb52a0047d35537108342b0fb99979e", func := "phratry/phratrylaw04.DeducePairs", spec := "deducePairs", plainKeys := false, apart := false }
def DeducePairsSaid : Prop := deducePairsRow.holds Try.pinned (OpenSpec.ofChange deducePairsSpec)

/-- ITS FALSE NEIGHBOUR: 'it returns false'. Refute it at one input. -/
def deducePairsWrong : ChangeSpec := { name := "deducePairs", fn := fun _ => fun
  | [d1, d2, d3] => { results := [.lit (.bool false)], args := [d1, d2, d3] }
  | _ => none }
def DeducePairsWrongFalsely : Prop := deducePairsRow.holds Try.pinned (OpenSpec.ofChange deducePairsWrong)

/-- 'phratrylaw04.DeduceSealed': WHATEVER THE INPUT: true; the input reads as it did. -/
def deduceSealedSpec : ChangeSpec := { name := "deduceSealed", fn := fun _ => fun
  | [d1, d2, d3, d4] => { results := [.lit (.bool true)], args := [d1, d2, d3, d4] }
  | _ => none }
def deduceSealedRow : OpenClaim := { program := "ytmghnmfhniohkaa", sum := "c089fc7a85270e38fe6e414c7e710d1e1fb52a0047d35537108342b0fb99979e", func := "phratry/phratrylaw04.DeduceSealed", spec := "deduceSealed", plainKeys := false, apart := false }
def DeduceSealedSaid : Prop := deduceSealedRow.holds Try.pinned (OpenSpec.ofChange deduceSealedSpec)

/-- ITS FALSE NEIGHBOUR: 'it returns false'. Refute it at one input. -/
def deduceSealedWrong : ChangeSpec := { name := "deduceSealed", fn := fun _ => fun
  | [d1, d2, d3, d4] => { results := [.lit (.bool false)], args := [d1, d2, d3, d4] }
  | _ => none }
def DeduceSealedWrongFalsely : Prop := deduceSealedRow.holds Try.pinned (OpenSpec.ofChange deduceSealedWrong)

/-- 'phratrylaw04.DeduceTells': WHATEVER THE INPUT: true; the input reads as it did. -/
def deduceTellsSpec : ChangeSpec := { name := "deduceTells", fn := fun _ => fun
  | [d1, d2, d3] => { results := [.lit (.bool true)], args := [d1, d2, d3] }
  | _ => none }
def deduceTellsRow : OpenClaim := { program := "ytmghnmfhniohkaa", sum := "c089fc7a85270e38fe6e414c7e710d1e1fb52a0047d35537108342b0fb99979e", func := "phratry/phratrylaw04.DeduceTells", spec := "deduceTells", plainKeys := false, apart := false }
def DeduceTellsSaid : Prop := deduceTellsRow.holds Try.pinned (OpenSpec.ofChange deduceTellsSpec)

/-- ITS FALSE NEIGHBOUR: 'it returns false'. Refute it at one input. -/
def deduceTellsWrong : ChangeSpec := { name := "deduceTells", fn := fun _ => fun
  | [d1, d2, d3] => { results := [.lit (.bool false)], args := [d1, d2, d3] }
  | _ => none }
def DeduceTellsWrongFalsely : Prop := deduceTellsRow.holds Try.pinned (OpenSpec.ofChange deduceTellsWrong)

/-- 'phratrylaw04.DeduceLearns': WHATEVER THE INPUT: true; the input reads as it did. -/
def deduceLearnsSpec : ChangeSpec := { name := "deduceLearns", fn := fun _ => fun
  | [d1, d2, d3] => { results := [.lit (.bool true)], args := [d1, d2, d3] }
  | _ => none }
def deduceLearnsRow : OpenClaim := { program := "ytmghnmfhniohkaa", sum := "c089fc7a85270e38fe6e414c7e710d1e1fb52a0047d35537108342b0fb99979e", func := "phratry/phratrylaw04.DeduceLearns", spec := "deduceLearns", plainKeys := false, apart := false }
def DeduceLearnsSaid : Prop := deduceLearnsRow.holds Try.pinned (OpenSpec.ofChange deduceLearnsSpec)

/-- ITS FALSE NEIGHBOUR: 'it returns false'. Refute it at one input. -/
def deduceLearnsWrong : ChangeSpec := { name := "deduceLearns", fn := fun _ => fun
  | [d1, d2, d3] => { results := [.lit (.bool false)], args := [d1, d2, d3] }
  | _ => none }
def DeduceLearnsWrongFalsely : Prop := deduceLearnsRow.holds Try.pinned (OpenSpec.ofChange deduceLearnsWrong)

/-- 'phratrylaw04.DeduceGrows': WHATEVER THE INPUT: true; the input reads as it did. -/
def deduceGrowsSpec : ChangeSpec := { name := "deduceGrows", fn := fun _ => fun
  | [d1, d2, d3] => { results := [.lit (.bool true)], args := [d1, d2, d3] }
  | _ => none }
def deduceGrowsRow : OpenClaim := { program := "ytmghnmfhniohkaa", sum := "c089fc7a85270e38fe6e414c7e710d1e1fb52a0047d35537108342b0fb99979e", func := "phratry/phratrylaw04.DeduceGrows", spec := "deduceGrows", plainKeys := false, apart := false }
def DeduceGrowsSaid : Prop := deduceGrowsRow.holds Try.pinned (OpenSpec.ofChange deduceGrowsSpec)

/-- ITS FALSE NEIGHBOUR: 'it returns false'. Refute it at one input. -/
def deduceGrowsWrong : ChangeSpec := { name := "deduceGrows", fn := fun _ => fun
  | [d1, d2, d3] => { results := [.lit (.bool false)], args := [d1, d2, d3] }
  | _ => none }
def DeduceGrowsWrongFalsely : Prop := deduceGrowsRow.holds Try.pinned (OpenSpec.ofChange deduceGrowsWrong)

/- THE SECOND FORM. 'bulk': how many values and letters a reading holds, each counted each time it is reached (what is shared counts as often as it is met; a slice's spare places count too). A statement '..UptoSaid' is the law's where the arguments, and the package variables that the reading takes, are together of bulk at most 1048576: NARROWER than '..Said'. Prove '..Said' where nothing that the law and all that it calls make is longer than what came in: it says more and counts as full. Else prove '..UptoSaid'. A law counts once. -/
mutual
def uptoBulk {H : Type} : DataW H → Nat
  | .lit (.string bytes) => bytes.length + 1
  | .lit _ => 1
  | .nil => 1
  | .ptr d => uptoBulk d + 1
  | .slice elems spare => uptoBulkAll elems + uptoBulkAll spare + 1
  | .agg parts => uptoBulkAll parts + 1
  | .iface _ d => uptoBulk d + 1
  | .map entries => uptoBulkEntries entries + 1
  | .held _ => 1
def uptoBulkAll {H : Type} : List (DataW H) → Nat
  | [] => 0
  | d :: r => uptoBulk d + uptoBulkAll r
def uptoBulkEntries {H : Type} : List (Lit × DataW H) → Nat
  | [] => 0
  | x :: r => uptoBulkEntry x + uptoBulkEntries r
def uptoBulkEntry {H : Type} : Lit × DataW H → Nat
  | (.string bytes, d) => bytes.length + uptoBulk d + 1
  | (_, d) => uptoBulk d + 1
 end
def uptoSmall : (H : Type) → List (DataW H) → Bool := fun _ ds => decide (uptoBulkAll ds ≤ 1048576)
def OpenSpec.upto (s : _root_.Go.ChangeSpec) : _root_.Go.OpenSpec := { _root_.Go.OpenSpec.ofChange s with cond := some uptoSmall }

/-- 'phratrylaw04.DeduceAsks', WHERE WHAT IT READS IS OF BULK AT MOST 1048576: true; the input reads as it did. -/
def deduceAsksUptoRow : OpenClaim := { program := "ytmghnmfhniohkaa", sum := "c089fc7a85270e38fe6e414c7e710d1e1fb52a0047d35537108342b0fb99979e", func := "phratry/phratrylaw04.DeduceAsks", spec := "deduceAsks", plainKeys := false, apart := false, narrowed := true }
def DeduceAsksUptoSaid : Prop := deduceAsksUptoRow.holds Try.pinned (OpenSpec.upto deduceAsksSpec)

/-- 'phratrylaw04.DeducePairs', WHERE WHAT IT READS IS OF BULK AT MOST 1048576: true; the input reads as it did. -/
def deducePairsUptoRow : OpenClaim := { program := "ytmghnmfhniohkaa", sum := "c089fc7a85270e38fe6e414c7e710d1e1fb52a0047d35537108342b0fb99979e", func := "phratry/phratrylaw04.DeducePairs", spec := "deducePairs", plainKeys := false, apart := false, narrowed := true }
def DeducePairsUptoSaid : Prop := deducePairsUptoRow.holds Try.pinned (OpenSpec.upto deducePairsSpec)

/-- 'phratrylaw04.DeduceSealed', WHERE WHAT IT READS IS OF BULK AT MOST 1048576: true; the input reads as it did. -/
def deduceSealedUptoRow : OpenClaim := { program := "ytmghnmfhniohkaa", sum := "c089fc7a85270e38fe6e414c7e710d1e1fb52a0047d35537108342b0fb99979e", func := "phratry/phratrylaw04.DeduceSealed", spec := "deduceSealed", plainKeys := false, apart := false, narrowed := true }
def DeduceSealedUptoSaid : Prop := deduceSealedUptoRow.holds Try.pinned (OpenSpec.upto deduceSealedSpec)

/-- 'phratrylaw04.DeduceTells', WHERE WHAT IT READS IS OF BULK AT MOST 1048576: true; the input reads as it did. -/
def deduceTellsUptoRow : OpenClaim := { program := "ytmghnmfhniohkaa", sum := "c089fc7a85270e38fe6e414c7e710d1e1fb52a0047d35537108342b0fb99979e", func := "phratry/phratrylaw04.DeduceTells", spec := "deduceTells", plainKeys := false, apart := false, narrowed := true }
def DeduceTellsUptoSaid : Prop := deduceTellsUptoRow.holds Try.pinned (OpenSpec.upto deduceTellsSpec)

/-- 'phratrylaw04.DeduceLearns', WHERE WHAT IT READS IS OF BULK AT MOST 1048576: true; the input reads as it did. -/
def deduceLearnsUptoRow : OpenClaim := { program := "ytmghnmfhniohkaa", sum := "c089fc7a85270e38fe6e414c7e710d1e1fb52a0047d35537108342b0fb99979e", func := "phratry/phratrylaw04.DeduceLearns", spec := "deduceLearns", plainKeys := false, apart := false, narrowed := true }
def DeduceLearnsUptoSaid : Prop := deduceLearnsUptoRow.holds Try.pinned (OpenSpec.upto deduceLearnsSpec)

/-- 'phratrylaw04.DeduceGrows', WHERE WHAT IT READS IS OF BULK AT MOST 1048576: true; the input reads as it did. -/
def deduceGrowsUptoRow : OpenClaim := { program := "ytmghnmfhniohkaa", sum := "c089fc7a85270e38fe6e414c7e710d1e1fb52a0047d35537108342b0fb99979e", func := "phratry/phratrylaw04.DeduceGrows", spec := "deduceGrows", plainKeys := false, apart := false, narrowed := true }
def DeduceGrowsUptoSaid : Prop := deduceGrowsUptoRow.holds Try.pinned (OpenSpec.upto deduceGrowsSpec)

end Rows
end Go.Proofs.Ytmghnmfhniohkaa
