/- 'DiskTorn': for every input the law returns true, and the input reads behind the call as it did before. No condition. -/
import Derived.Test.YtbnglfbfgannhaaRows
import Derived.Test.YtbnglfbfgannhaaDkH
import Derived.Test.YtbnglfbfgannhaaSLU
namespace Go.Proofs.Ytbnglfbfgannhaa.diskTorn
open Go Go.SL Go.Dk Go.RowKit Go.ChangeShapes Go.WideShapes Go.ChangeAt
set_option linter.unusedVariables false

theorem own : ownKnob Try.prog.godebug = none := by kernel_rfl
theorem laidOut : laidOutB Try.prog = true := by kernel_rfl

theorem law (W : World) (n : Int) (vl : Value) (l : List (Int × ByteArray)) (hl : Rd W vl l.length (flatI l)) (hm : l.length ≤ maxLen) (bits : Int) :
    Con Try.prog W 3 #[.int .i64 n, vl, .int .i64 bits] [] (X := Unit) (fun _ => True) (fun _ => .bool true) (fun _ => []) := by
  by_cases h1 : n < 1
  · exact torn_low W n vl l hl bits h1
  by_cases h2 : n > 4096
  · exact torn_high W n vl l hl bits h2
  obtain ⟨m, rfl⟩ := Int.eq_ofNat_of_zero_le (show 0 ≤ n by omega)
  cases hb : beyondB [(l.length : Int)] with
  | true => exact torn_beyond W m (by omega) (by omega) vl l hl bits hb hm
  | false => exact torn_law W m (by omega) (by omega) vl l hl bits hb

theorem contract (H : Type) (enc : TypeId × Value → H) (W : World) (base : Nat) (args : Array Value) (ds gs : List (DataW H)) (before : List MemPlace)
    (hval : ∀ (j : Nat) t v, Try.f3.params[j]? = some t → args[j]? = some v → Value.okWide Try.prog W .any base t v)
    (hW : DataW.Whole enc Try.prog Try.f3.params.toList Rows.diskTornSpec.vars false W args.toList ds gs before) :
    Calls Try.prog 3 args W fun e W' => ∃ v, e = .returned v ∧ Rows.diskTornSpec.post enc Try.prog Try.f3 false true false false W args v W' := by
  have hW' := hW
  obtain ⟨p, q, hA0, hV, rfl, hfz, hnd⟩ := hW
  have hA : DataW.TrodAll enc Try.prog W 0 (fun _ => true) true Try.f3.params.toList args.toList ds p := hA0
  rw [Try.params3] at hA hval
  obtain ⟨v0, vs0, d0, ds0, p0, q0, hargs, rfl, rfl, h0, r0⟩ := trodAll_cons hA
  obtain ⟨v1, vs1, d1, ds1, p1, q1, rfl, rfl, rfl, h1, r1⟩ := trodAll_cons r0
  obtain ⟨v2, vs2, d2, ds2, p2, q2, rfl, rfl, rfl, h2, r2⟩ := trodAll_cons r1
  obtain ⟨rfl, rfl, rfl⟩ := trodAll_nil r2
  obtain rfl : args = #[v0, v1, v2] := by cases args; simp_all
  obtain ⟨rfl, rfl⟩ := trodVars_none hV
  obtain ⟨a0, rfl, _⟩ := open_int Try.underlying3 (hval 0 3 v0 rfl rfl) h0
  obtain ⟨l, hl, hm, _⟩ := open_rows (fun q : Int × ByteArray => [.int .i64 q.1, .string q.2]) _ (k := 2) (fun _ => rfl) (by decide) Try.underlying22 (by kernel_rfl) (fun n cs y h => elem_int_str Try.underlying31 (by kernel_rfl) (by kernel_rfl) Try.underlying3 Try.underlying9 h) (hval 1 22 v1 rfl rfl) h1
  obtain ⟨a2, rfl, _⟩ := open_int Try.underlying2 (hval 2 2 v2 rfl rfl) h2
  refine (law W a0 v1 l hl hm a2 W [] ⟨Below.refl _ _, _, trivial, fun k o h => by cases (show (Hp.emp k = some o) from h)⟩).mono fun e W' h => ?_
  cases e with
  | panicked c => exact h.elim
  | outgrown => exact h.elim
  | returned v =>
    obtain ⟨_, _, rfl, hs⟩ := h
    exact ⟨_, rfl, post_true hW' rfl laidOut (by kernel_rfl) Try.underlying4 rfl rfl hs.1⟩

set_option maxRecDepth 100000 in
theorem lifted (os : Os) (started : os.Started) (H : Type) (enc : TypeId × Value → H) :
    ReturnsInHanded {} Try.checked os 3 .any (Rows.diskTornSpec.pre6 enc Try.prog Try.f3 Rows.diskTornRow.domain false) (Rows.diskTornSpec.post enc Try.prog Try.f3 false true false false) := by
  refine returnsInHanded_of_change (C := Try.checked) own started (by kernel_rfl) Try.func3
    (ChangeSpec.witness6 (enc := enc) (C := Try.checked) false ⟨#[], #[.int .i64 0, .slice none 0 0, .int .i64 0], []⟩ 8 (by kernel_rfl) (by kernel_rfl) (by kernel_rfl) (by kernel_rfl)) ?_
  intro W base args ds gs before hval hW _ _
  exact contract H enc W base args ds gs before hval hW

theorem over : Rows.diskTornRow.holds Try.pinned (OpenSpec.ofChange Rows.diskTornSpec) :=
  OpenClaim.holds_of_wide 3 Try.f3 rfl rfl rfl rfl rfl rfl rfl ⟨rfl, rfl, rfl, rfl, rfl⟩ rfl rfl rfl rfl rfl (by kernel_rfl) Try.func3 (by kernel_rfl)
    (of_decide_eq_true (by kernel_rfl)) (by unfold Func.isWrapper; first | (rw [if_pos (by decide +kernel)]; kernel_rfl) | (rw [if_neg (by decide +kernel)]; exact ⟨rfl, rfl⟩))
    (fun os started H enc _ => lifted os started H enc)

theorem proved : Rows.DiskTornSaid :=
  over
#print axioms proved
end Go.Proofs.Ytbnglfbfgannhaa.diskTorn
