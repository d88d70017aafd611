/- 'DiskApart': for every input the law returns true, and the input reads behind the call as it did before. No condition. -/
import Derived.Test.YtbnglfbfgannhaaRows
import Derived.Test.YtbnglfbfgannhaaDkApart
import Derived.Test.YtbnglfbfgannhaaSLU
namespace Go.Proofs.Ytbnglfbfgannhaa.diskApart
open Go Go.SL Go.Dk Go.RowKit Go.ChangeShapes Go.WideShapes Go.ChangeAt
set_option linter.unusedVariables false

theorem own : ownKnob Try.prog.godebug = none := by kernel_rfl
theorem laidOut : laidOutB Try.prog = true := by kernel_rfl

theorem law (W : World) (n : Int) (hn : (Lit.int .i64 n).wf = true) (v : Value) (l : List (Int × ByteArray)) (hl : Rd W v l.length (l.flatMap (fun q : Int × ByteArray => [Value.int .i64 q.1, Value.string q.2]))) (hlm : l.length ≤ maxLen) (hlw : ∀ x ∈ l, (Lit.int .i64 x.1).wf = true ∧ x.2.size ≤ maxLen) :
    Con Try.prog W 5 #[.int .i64 n, v] [] (X := Unit) (fun _ => True) (fun _ => .bool true) (fun _ => []) := by
  by_cases h1 : n < 1
  · exact apart_low W n v l hl h1
  by_cases h2 : n > 4096
  · exact apart_high W n v l hl h2
  obtain ⟨m0, rfl⟩ := Int.eq_ofNat_of_zero_le (show 0 ≤ n by omega)
  cases hb : beyondB [(l.length : Int)] with
  | true => exact apart_beyond W m0 (by omega) (by omega) v l hl hb hlm
  | false => exact apart_law W m0 (by omega) (by omega) v l hl hb

theorem contract (H : Type) (enc : TypeId × Value → H) (W : World) (base : Nat) (args : Array Value) (ds gs : List (DataW H)) (before : List MemPlace)
    (hval : ∀ (j : Nat) t v, Try.f5.params[j]? = some t → args[j]? = some v → Value.okWide Try.prog W .any base t v)
    (hW : DataW.Whole enc Try.prog Try.f5.params.toList Rows.diskApartSpec.vars false W args.toList ds gs before) :
    Calls Try.prog 5 args W fun e W' => ∃ v, e = .returned v ∧ Rows.diskApartSpec.post enc Try.prog Try.f5 false true false false W args v W' := by
  have hW' := hW
  obtain ⟨p, q, hA0, hV, rfl, hfz, hnd⟩ := hW
  have hA : DataW.TrodAll enc Try.prog W 0 (fun _ => true) true Try.f5.params.toList args.toList ds p := hA0
  rw [Try.params5] at hA hval
  obtain ⟨v0, vs0, d0, ds0, p0, q0, hargs, rfl, rfl, t0, r0⟩ := trodAll_cons hA
  obtain ⟨v1, vs1, d1, ds1, p1, q1, rfl, rfl, rfl, t1, r1⟩ := trodAll_cons r0
  obtain ⟨rfl, rfl, rfl⟩ := trodAll_nil r1
  obtain rfl : args = #[v0, v1] := by cases args; simp_all
  obtain ⟨rfl, rfl⟩ := trodVars_none hV
  obtain ⟨a0, rfl, _, _, w0⟩ := open_int Try.underlying3 (hval 0 3 v0 rfl rfl) t0
  obtain ⟨l1, hl1, hm1, hw1⟩ := open_rows (X := (Int × ByteArray)) ((fun q : Int × ByteArray => [Value.int .i64 q.1, Value.string q.2])) (fun x => (Lit.int .i64 x.1).wf = true ∧ x.2.size ≤ maxLen) (k := 2) (fun _ => rfl) (by decide) Try.underlying22 (by kernel_rfl) (fun n cs y h => elem_int_str Try.underlying31 (by kernel_rfl) (by kernel_rfl) Try.underlying3 Try.underlying9 h) (hval 1 22 v1 rfl rfl) t1
  refine (law W a0 w0 v1 l1 hl1 hm1 hw1 W [] (st_refl W)).mono fun e W' h => ?_
  cases e with
  | panicked c => exact h.elim
  | outgrown => exact h.elim
  | returned v =>
    obtain ⟨_, _, rfl, hs⟩ := h
    exact ⟨_, rfl, post_true hW' rfl laidOut (by kernel_rfl) Try.underlying4 rfl rfl hs.1⟩

set_option maxRecDepth 100000 in
theorem lifted (os : Os) (started : os.Started) (H : Type) (enc : TypeId × Value → H) :
    ReturnsInHanded {} Try.checked os 5 .any (Rows.diskApartSpec.pre6 enc Try.prog Try.f5 Rows.diskApartRow.domain false) (Rows.diskApartSpec.post enc Try.prog Try.f5 false true false false) := by
  refine returnsInHanded_of_change (C := Try.checked) own started (by kernel_rfl) Try.func5
    (ChangeSpec.witness6 (enc := enc) (C := Try.checked) false ⟨#[], #[.int .i64 0, .slice none 0 0], []⟩ 8 (by kernel_rfl) (by kernel_rfl) (by kernel_rfl) (by kernel_rfl)) ?_
  intro W base args ds gs before hval hW _ _
  exact contract H enc W base args ds gs before hval hW

theorem over : Rows.diskApartRow.holds Try.pinned (OpenSpec.ofChange Rows.diskApartSpec) :=
  OpenClaim.holds_of_wide 5 Try.f5 rfl rfl rfl rfl rfl rfl rfl ⟨rfl, rfl, rfl, rfl, rfl⟩ rfl rfl rfl rfl rfl (by kernel_rfl) Try.func5 (by kernel_rfl)
    (of_decide_eq_true (by kernel_rfl)) (by unfold Func.isWrapper; first | (rw [if_pos (by decide +kernel)]; kernel_rfl) | (rw [if_neg (by decide +kernel)]; exact ⟨rfl, rfl⟩))
    (fun os started H enc _ => lifted os started H enc)

theorem proved : Rows.DiskApartSaid :=
  over
#print axioms proved
end Go.Proofs.Ytbnglfbfgannhaa.diskApart
