/- 'ChainForgets': for every input the law returns true, and the input reads behind the call as it did before. No condition. -/
import Derived.Test.YtjjghmkjdgogiaaRows
import Derived.Test.YtjjghmkjdgogiaaDdFg
import Derived.Test.YtjjghmkjdgogiaaSLU
namespace Go.Proofs.Ytjjghmkjdgogiaa.chainForgets
open Go Go.SL Go.Dd Go.RowKit Go.ChangeShapes Go.WideShapes Go.ChangeAt
set_option linter.unusedVariables false
set_option maxRecDepth 20000

theorem own : ownKnob Try.prog.godebug = none := by kernel_rfl
theorem laidOut : laidOutB Try.prog = true := by kernel_rfl

theorem elem_i64 {H : Type} {enc : TypeId × Value → H} {W : World} {base : Nat} {sp : Nat → Bool} {n : Nat} {cs : List Value} {y : DataW H × List MemPlace} (h : DataW.trod enc Try.prog W base sp true n 3 cs = some y) : ∃ x : Int, i64R x ∧ cs = int1 x := by
  obtain ⟨z, e, _, w⟩ := DataW.trod_int Try.underlying3 h
  exact ⟨z, i64R_wf w, e⟩

theorem law (W : World) (n : Int) (hn : (Lit.int .i64 n).wf = true) (sd : Int) (hsd : (Lit.int .i64 sd).wf = true) (vt : Value) (tk : List Int) (ht : Rd W vt tk.length (tk.flatMap int1)) (htm : tk.length ≤ maxLen) (htw : ∀ x ∈ tk, i64R x) :
    Con Try.prog W 5 #[.int .i64 n, .int .i64 sd, vt] [] (X := Unit) (fun _ => True) (fun _ => .bool true) (fun _ => []) := by
  exact forgets_law W n sd (i64R_wf hn) (i64R_wf hsd) vt tk ht htw

theorem contract (H : Type) (enc : TypeId × Value → H) (W : World) (base : Nat) (args : Array Value) (ds gs : List (DataW H)) (before : List MemPlace)
    (hval : ∀ (j : Nat) t v, Try.f5.params[j]? = some t → args[j]? = some v → Value.okWide Try.prog W .any base t v)
    (hW : DataW.Whole enc Try.prog Try.f5.params.toList Rows.chainForgetsSpec.vars false W args.toList ds gs before) :
    Calls Try.prog 5 args W fun e W' => ∃ v, e = .returned v ∧ Rows.chainForgetsSpec.post enc Try.prog Try.f5 false true false false W args v W' := by
  have hW' := hW
  obtain ⟨p, q, hA0, hV, rfl, hfz, hnd⟩ := hW
  have hA : DataW.TrodAll enc Try.prog W 0 (fun _ => true) true Try.f5.params.toList args.toList ds p := hA0
  rw [Try.params5] at hA hval
  obtain ⟨v0, vs0, d0, ds0, p0, q0, hargs, rfl, rfl, t0, r0⟩ := trodAll_cons hA
  obtain ⟨v1, vs1, d1, ds1, p1, q1, rfl, rfl, rfl, t1, r1⟩ := trodAll_cons r0
  obtain ⟨v2, vs2, d2, ds2, p2, q2, rfl, rfl, rfl, t2, r2⟩ := trodAll_cons r1
  obtain ⟨rfl, rfl, rfl⟩ := trodAll_nil r2
  obtain rfl : args = #[v0, v1, v2] := by cases args; simp_all
  obtain ⟨rfl, rfl⟩ := trodVars_none hV
  obtain ⟨a0, rfl, _, _, w0⟩ := open_int Try.underlying2 (hval 0 2 v0 rfl rfl) t0
  obtain ⟨a1, rfl, _, _, w1⟩ := open_int Try.underlying3 (hval 1 3 v1 rfl rfl) t1
  obtain ⟨l2, hl2, hm2, hw2⟩ := open_rows (X := Int) (int1) (fun x => i64R x) (k := 1) (fun _ => rfl) (by decide) Try.underlying41 (by kernel_rfl) (fun n cs y h => elem_i64 h) (hval 2 41 v2 rfl rfl) t2
  refine (law W a0 w0 a1 w1 v2 l2 hl2 hm2 hw2 W [] (st_refl W)).mono fun e W' h => ?_
  cases e with
  | panicked c => exact h.elim
  | outgrown => exact h.elim
  | returned v =>
    obtain ⟨_, _, rfl, hs⟩ := h
    exact ⟨_, rfl, post_true hW' rfl laidOut (by kernel_rfl) Try.underlying4 rfl rfl hs.1⟩

set_option maxRecDepth 100000 in
theorem lifted (os : Os) (started : os.Started) (H : Type) (enc : TypeId × Value → H) :
    ReturnsInHanded {} Try.checked os 5 .any (Rows.chainForgetsSpec.pre6 enc Try.prog Try.f5 Rows.chainForgetsRow.domain false) (Rows.chainForgetsSpec.post enc Try.prog Try.f5 false true false false) := by
  refine returnsInHanded_of_change (C := Try.checked) own started (by kernel_rfl) Try.func5
    (ChangeSpec.witness6 (enc := enc) (C := Try.checked) false ⟨#[], #[.int .i64 0, .int .i64 0, .slice none 0 0], []⟩ 8 (by kernel_rfl) (by kernel_rfl) (by kernel_rfl) (by kernel_rfl)) ?_
  intro W base args ds gs before hval hW _ _
  exact contract H enc W base args ds gs before hval hW

theorem over : Rows.chainForgetsRow.holds Try.pinned (OpenSpec.ofChange Rows.chainForgetsSpec) :=
  OpenClaim.holds_of_wide 5 Try.f5 rfl rfl rfl rfl rfl rfl rfl ⟨rfl, rfl, rfl, rfl, rfl⟩ rfl rfl rfl rfl rfl (by kernel_rfl) Try.func5 (by kernel_rfl)
    (of_decide_eq_true (by kernel_rfl)) (by unfold Func.isWrapper; first | (rw [if_pos (by decide +kernel)]; kernel_rfl) | (rw [if_neg (by decide +kernel)]; exact ⟨rfl, rfl⟩))
    (fun os started H enc _ => lifted os started H enc)

theorem proved : Rows.ChainForgetsSaid :=
  over
#print axioms proved
end Go.Proofs.Ytjjghmkjdgogiaa.chainForgets
