/- 'DiskPlays': for every input the law returns true, and the input reads behind the call as it did before. No condition. -/
import Derived.Test.YtbnglfbfgannhaaRows
import Derived.Test.YtbnglfbfgannhaaDkPlays
import Derived.Test.YtbnglfbfgannhaaSLU
namespace Go.Proofs.Ytbnglfbfgannhaa.diskPlays
open Go Go.SL Go.Dk Go.RowKit Go.ChangeShapes Go.WideShapes Go.ChangeAt
set_option linter.unusedVariables false

theorem own : ownKnob Try.prog.godebug = none := by kernel_rfl
theorem laidOut : laidOutB Try.prog = true := by kernel_rfl

theorem elem_op2 {H : Type} {enc : TypeId × Value → H} {W : World} {base : Nat} {sp : Nat → Bool} {n : Nat} {cs : List Value} {y : DataW H × List MemPlace} (h : DataW.trod enc Try.prog W base sp true n 45 cs = some y) : ∃ x : OpR, (x.b < 256 ∧ x.at_ ≤ 9223372036854775807) ∧ cs = opCells x := by
  obtain ⟨a, b, c, d, g, _, wb, wc, _, _, e⟩ := elem_int5 Try.underlying45 (by kernel_rfl) (by kernel_rfl) Try.underlying3 Try.underlying3 Try.underlying5 Try.underlying3 Try.underlying2 h
  have hc : 0 ≤ c ∧ c ≤ 255 := by simpa [Lit.wf, IntKind.min, IntKind.max, IntKind.signed, IntKind.bits] using wc
  have hb : -9223372036854775808 ≤ b ∧ b ≤ 9223372036854775807 := by simpa [Lit.wf, IntKind.min, IntKind.max, IntKind.signed, IntKind.bits] using wb
  exact ⟨⟨a, b, c.toNat, d, g⟩, ⟨by simp only; omega, hb.2⟩, by rw [e]; simp only [opCells]; rw [Int.toNat_of_nonneg hc.1]⟩

theorem law (W : World) (n : Int) (hn : (Lit.int .i64 n).wf = true) (v : Value) (l : List OpR) (hl : Rd W v l.length (l.flatMap opCells)) (hlm : l.length ≤ maxLen) (hlw : ∀ x ∈ l, x.b < 256 ∧ x.at_ ≤ 9223372036854775807) :
    Con Try.prog W 8 #[.int .i64 n, v] [] (X := Unit) (fun _ => True) (fun _ => .bool true) (fun _ => []) := by
  cases hb : beyondB [(l.length : Int)] with
  | true => exact plays_beyond W n v l hl hlw hb hlm
  | false =>
    by_cases h1 : n < 1
    · exact plays_low W n h1 v l hl hlw hb
    by_cases h2 : n > 4096
    · exact plays_high W n h2 v l hl hlw hb
    obtain ⟨m0, rfl⟩ := Int.eq_ofNat_of_zero_le (show 0 ≤ n by omega)
    exact plays_law W m0 (by omega) (by omega) v l hl hlw hb

theorem contract (H : Type) (enc : TypeId × Value → H) (W : World) (base : Nat) (args : Array Value) (ds gs : List (DataW H)) (before : List MemPlace)
    (hval : ∀ (j : Nat) t v, Try.f8.params[j]? = some t → args[j]? = some v → Value.okWide Try.prog W .any base t v)
    (hW : DataW.Whole enc Try.prog Try.f8.params.toList Rows.diskPlaysSpec.vars false W args.toList ds gs before) :
    Calls Try.prog 8 args W fun e W' => ∃ v, e = .returned v ∧ Rows.diskPlaysSpec.post enc Try.prog Try.f8 false true false false W args v W' := by
  have hW' := hW
  obtain ⟨p, q, hA0, hV, rfl, hfz, hnd⟩ := hW
  have hA : DataW.TrodAll enc Try.prog W 0 (fun _ => true) true Try.f8.params.toList args.toList ds p := hA0
  rw [Try.params8] at hA hval
  obtain ⟨v0, vs0, d0, ds0, p0, q0, hargs, rfl, rfl, t0, r0⟩ := trodAll_cons hA
  obtain ⟨v1, vs1, d1, ds1, p1, q1, rfl, rfl, rfl, t1, r1⟩ := trodAll_cons r0
  obtain ⟨rfl, rfl, rfl⟩ := trodAll_nil r1
  obtain rfl : args = #[v0, v1] := by cases args; simp_all
  obtain ⟨rfl, rfl⟩ := trodVars_none hV
  obtain ⟨a0, rfl, _, _, w0⟩ := open_int Try.underlying3 (hval 0 3 v0 rfl rfl) t0
  obtain ⟨l1, hl1, hm1, hw1⟩ := open_rows (X := OpR) (opCells) (fun x => x.b < 256 ∧ x.at_ ≤ 9223372036854775807) (k := 5) (fun _ => rfl) (by decide) Try.underlying42 (by kernel_rfl) (fun n cs y h => elem_op2 h) (hval 1 42 v1 rfl rfl) t1
  refine (law W a0 w0 v1 l1 hl1 hm1 hw1 W [] (st_refl W)).mono fun e W' h => ?_
  cases e with
  | panicked c => exact h.elim
  | outgrown => exact h.elim
  | returned v =>
    obtain ⟨_, _, rfl, hs⟩ := h
    exact ⟨_, rfl, post_true hW' rfl laidOut (by kernel_rfl) Try.underlying4 rfl rfl hs.1⟩

set_option maxRecDepth 100000 in
theorem lifted (os : Os) (started : os.Started) (H : Type) (enc : TypeId × Value → H) :
    ReturnsInHanded {} Try.checked os 8 .any (Rows.diskPlaysSpec.pre6 enc Try.prog Try.f8 Rows.diskPlaysRow.domain false) (Rows.diskPlaysSpec.post enc Try.prog Try.f8 false true false false) := by
  refine returnsInHanded_of_change (C := Try.checked) own started (by kernel_rfl) Try.func8
    (ChangeSpec.witness6 (enc := enc) (C := Try.checked) false ⟨#[], #[.int .i64 0, .slice none 0 0], []⟩ 8 (by kernel_rfl) (by kernel_rfl) (by kernel_rfl) (by kernel_rfl)) ?_
  intro W base args ds gs before hval hW _ _
  exact contract H enc W base args ds gs before hval hW

theorem over : Rows.diskPlaysRow.holds Try.pinned (OpenSpec.ofChange Rows.diskPlaysSpec) :=
  OpenClaim.holds_of_wide 8 Try.f8 rfl rfl rfl rfl rfl rfl rfl ⟨rfl, rfl, rfl, rfl, rfl⟩ rfl rfl rfl rfl rfl (by kernel_rfl) Try.func8 (by kernel_rfl)
    (of_decide_eq_true (by kernel_rfl)) (by unfold Func.isWrapper; first | (rw [if_pos (by decide +kernel)]; kernel_rfl) | (rw [if_neg (by decide +kernel)]; exact ⟨rfl, rfl⟩))
    (fun os started H enc _ => lifted os started H enc)

theorem proved : Rows.DiskPlaysSaid :=
  over
#print axioms proved
end Go.Proofs.Ytbnglfbfgannhaa.diskPlays
