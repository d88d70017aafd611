/- 'DeduceTells': for every input the law returns true, and the input reads behind the call as it did before. No condition. -/
import Derived.Test.YtmghnmfhniohkaaRows
import Derived.Test.YtmghnmfhniohkaaDdTells
import Derived.Test.YtmghnmfhniohkaaSLT
namespace Go.Proofs.Ytmghnmfhniohkaa.deduceTells
open Go Go.SL Go.Dd Go.RowKit Go.ChangeShapes Go.WideShapes Go.ChangeAt
set_option linter.unusedVariables false

theorem own : ownKnob Try.prog.godebug = none := by kernel_rfl
theorem laidOut : laidOutB Try.prog = true := by kernel_rfl

theorem elem_int {H : Type} {enc : TypeId × Value → H} {W : World} {base : Nat} {sp : Nat → Bool} {n : Nat} {cs : List Value} {y : DataW H × List MemPlace} (h : DataW.trod enc Try.prog W base sp true n 3 cs = some y) : ∃ x : Int, True ∧ cs = int1 x := by
  obtain ⟨z, e, _, _⟩ := DataW.trod_int Try.underlying3 h
  exact ⟨z, trivial, e⟩
theorem elem_term {H : Type} {enc : TypeId × Value → H} {W : World} {base : Nat} {sp : Nat → Bool} {n : Nat} {cs : List Value} {y : DataW H × List MemPlace} (h : DataW.trod enc Try.prog W base sp true n 46 cs = some y) : ∃ x : TermR, okT x ∧ cs = termCells x := by
  obtain ⟨a, b, c, d, wa, wb, wc, wd, e⟩ := elem_int4 Try.underlying46 (by kernel_rfl) (by kernel_rfl) Try.underlying44 Try.underlying2 Try.underlying3 Try.underlying3 h
  have hr : ∀ z : Int, (Lit.int .i64 z).wf = true → -9223372036854775808 ≤ z ∧ z ≤ 9223372036854775807 := fun z hz => by simpa [Lit.wf, IntKind.min, IntKind.max, IntKind.signed, IntKind.bits] using hz
  have ha : 0 ≤ a ∧ a ≤ 255 := by simpa [Lit.wf, IntKind.min, IntKind.max, IntKind.signed, IntKind.bits] using wa
  obtain ⟨m, rfl⟩ := Int.eq_ofNat_of_zero_le ha.1
  exact ⟨⟨m, b, c, d⟩, ⟨(by show m < 256; omega), hr b wb, hr c wc, hr d wd⟩, e⟩

theorem law (W : World) (v : Value) (l : List TermR) (hl : Rd W v l.length (l.flatMap termCells)) (hlm : l.length ≤ maxLen) (hlw : ∀ x ∈ l, okT x) (v1 : Value) (l1 : List Int) (hl1 : Rd W v1 l1.length (l1.flatMap int1)) (hl1m : l1.length ≤ maxLen) (hl1w : ∀ x ∈ l1, True) (v2 : Value) (l2 : List TermR) (hl2 : Rd W v2 l2.length (l2.flatMap termCells)) (hl2m : l2.length ≤ maxLen) (hl2w : ∀ x ∈ l2, okT x) :
    Con Try.prog W 6 #[v, v1, v2] [] (X := Unit) (fun _ => True) (fun _ => .bool true) (fun _ => []) := by
  exact tells_law W v l hl hlm hlw v1 l1 hl1 hl1m v2 l2 hl2 hl2m hl2w

theorem contract (H : Type) (enc : TypeId × Value → H) (W : World) (base : Nat) (args : Array Value) (ds gs : List (DataW H)) (before : List MemPlace)
    (hval : ∀ (j : Nat) t v, Try.f6.params[j]? = some t → args[j]? = some v → Value.okWide Try.prog W .any base t v)
    (hW : DataW.Whole enc Try.prog Try.f6.params.toList Rows.deduceTellsSpec.vars false W args.toList ds gs before) :
    Calls Try.prog 6 args W fun e W' => ∃ v, e = .returned v ∧ Rows.deduceTellsSpec.post enc Try.prog Try.f6 false true false false W args v W' := by
  have hW' := hW
  obtain ⟨p, q, hA0, hV, rfl, hfz, hnd⟩ := hW
  have hA : DataW.TrodAll enc Try.prog W 0 (fun _ => true) true Try.f6.params.toList args.toList ds p := hA0
  rw [Try.params6] at hA hval
  obtain ⟨v0, vs0, d0, ds0, p0, q0, hargs, rfl, rfl, t0, r0⟩ := trodAll_cons hA
  obtain ⟨v1, vs1, d1, ds1, p1, q1, rfl, rfl, rfl, t1, r1⟩ := trodAll_cons r0
  obtain ⟨v2, vs2, d2, ds2, p2, q2, rfl, rfl, rfl, t2, r2⟩ := trodAll_cons r1
  obtain ⟨rfl, rfl, rfl⟩ := trodAll_nil r2
  obtain rfl : args = #[v0, v1, v2] := by cases args; simp_all
  obtain ⟨rfl, rfl⟩ := trodVars_none hV
  obtain ⟨l0, hl0, hm0, hw0⟩ := open_rows (X := TermR) (termCells) (fun x => okT x) (k := 4) (fun _ => rfl) (by decide) Try.underlying22 (by kernel_rfl) (fun n cs y h => elem_term h) (hval 0 22 v0 rfl rfl) t0
  obtain ⟨l1, hl1, hm1, hw1⟩ := open_rows (X := Int) (int1) (fun x => True) (k := 1) (fun _ => rfl) (by decide) Try.underlying23 (by kernel_rfl) (fun n cs y h => elem_int h) (hval 1 23 v1 rfl rfl) t1
  obtain ⟨l2, hl2, hm2, hw2⟩ := open_rows (X := TermR) (termCells) (fun x => okT x) (k := 4) (fun _ => rfl) (by decide) Try.underlying22 (by kernel_rfl) (fun n cs y h => elem_term h) (hval 2 22 v2 rfl rfl) t2
  refine (law W v0 l0 hl0 hm0 hw0 v1 l1 hl1 hm1 hw1 v2 l2 hl2 hm2 hw2 W [] (st_refl W)).mono fun e W' h => ?_
  cases e with
  | panicked c => exact h.elim
  | outgrown => exact h.elim
  | returned v =>
    obtain ⟨_, _, rfl, hs⟩ := h
    exact ⟨_, rfl, post_true hW' rfl laidOut (by kernel_rfl) Try.underlying4 rfl rfl hs.1⟩

set_option maxRecDepth 100000 in
theorem lifted (os : Os) (started : os.Started) (H : Type) (enc : TypeId × Value → H) :
    ReturnsInHanded {} Try.checked os 6 .any (Rows.deduceTellsSpec.pre6 enc Try.prog Try.f6 Rows.deduceTellsRow.domain false) (Rows.deduceTellsSpec.post enc Try.prog Try.f6 false true false false) := by
  refine returnsInHanded_of_change (C := Try.checked) own started (by kernel_rfl) Try.func6
    (ChangeSpec.witness6 (enc := enc) (C := Try.checked) false ⟨#[], #[.slice none 0 0, .slice none 0 0, .slice none 0 0], []⟩ 8 (by kernel_rfl) (by kernel_rfl) (by kernel_rfl) (by kernel_rfl)) ?_
  intro W base args ds gs before hval hW _ _
  exact contract H enc W base args ds gs before hval hW

theorem over : Rows.deduceTellsRow.holds Try.pinned (OpenSpec.ofChange Rows.deduceTellsSpec) :=
  OpenClaim.holds_of_wide 6 Try.f6 rfl rfl rfl rfl rfl rfl rfl ⟨rfl, rfl, rfl, rfl, rfl⟩ rfl rfl rfl rfl rfl (by kernel_rfl) Try.func6 (by kernel_rfl)
    (of_decide_eq_true (by kernel_rfl)) (by unfold Func.isWrapper; first | (rw [if_pos (by decide +kernel)]; kernel_rfl) | (rw [if_neg (by decide +kernel)]; exact ⟨rfl, rfl⟩))
    (fun os started H enc _ => lifted os started H enc)

theorem proved : Rows.DeduceTellsSaid :=
  over
#print axioms proved
end Go.Proofs.Ytmghnmfhniohkaa.deduceTells
