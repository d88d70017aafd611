/- 'ChainKeys': for every input the law returns true, and the input reads behind the call as it did before. No condition. -/
import Derived.Test.YtjjghmkjdgogiaaRows
import Derived.Test.YtjjghmkjdgogiaaDdKy
import Derived.Test.YtjjghmkjdgogiaaSLU
import Derived.Test.YtjjghmkjdgogiaaSLT
namespace Go.Proofs.Ytjjghmkjdgogiaa.chainKeys
open Go Go.SL Go.Dd Go.RowKit Go.ChangeShapes Go.WideShapes Go.ChangeAt
set_option linter.unusedVariables false
set_option maxRecDepth 20000

theorem own : ownKnob Try.prog.godebug = none := by kernel_rfl
theorem laidOut : laidOutB Try.prog = true := by kernel_rfl

theorem elem_term {H : Type} {enc : TypeId × Value → H} {W : World} {base : Nat} {sp : Nat → Bool} {n : Nat} {cs : List Value} {y : DataW H × List MemPlace} (h : DataW.trod enc Try.prog W base sp true n 28 cs = some y) : ∃ x : TermR, okT x ∧ cs = termCells x := by
  obtain ⟨a, b, c, d, wa, wb, wc, wd, e⟩ := elem_int4 Try.underlying28 (by kernel_rfl) (by kernel_rfl) Try.underlying26 Try.underlying2 Try.underlying3 Try.underlying3 h
  have hr : ∀ z : Int, (Lit.int .i64 z).wf = true → -9223372036854775808 ≤ z ∧ z ≤ 9223372036854775807 := fun z hz => by simpa [Lit.wf, IntKind.min, IntKind.max, IntKind.signed, IntKind.bits] using hz
  have ha : 0 ≤ a ∧ a ≤ 255 := by simpa [Lit.wf, IntKind.min, IntKind.max, IntKind.signed, IntKind.bits] using wa
  obtain ⟨m, rfl⟩ := Int.eq_ofNat_of_zero_le ha.1
  exact ⟨⟨m, b, c, d⟩, ⟨(by show m < 256; omega), hr b wb, hr c wc, hr d wd⟩, e⟩

theorem law (W : World) (vl : Value) (l : List TermR) (hl : Rd W vl l.length (l.flatMap termCells)) (hlm : l.length ≤ maxLen) (hlw : ∀ x ∈ l, okT x) (app : Int) (happ : (Lit.int .i64 app).wf = true) (sd : Int) (hsd : (Lit.int .i64 sd).wf = true) (n : Int) (hn : (Lit.int .i64 n).wf = true) :
    Con Try.prog W 4 #[vl, .int .i64 app, .int .i64 sd, .int .i64 n] [] (X := Unit) (fun _ => True) (fun _ => .bool true) (fun _ => []) := by
  exact keys_law W vl l hl hlw app sd n (i64R_wf hsd)

theorem contract (H : Type) (enc : TypeId × Value → H) (W : World) (base : Nat) (args : Array Value) (ds gs : List (DataW H)) (before : List MemPlace)
    (hval : ∀ (j : Nat) t v, Try.f4.params[j]? = some t → args[j]? = some v → Value.okWide Try.prog W .any base t v)
    (hW : DataW.Whole enc Try.prog Try.f4.params.toList Rows.chainKeysSpec.vars false W args.toList ds gs before) :
    Calls Try.prog 4 args W fun e W' => ∃ v, e = .returned v ∧ Rows.chainKeysSpec.post enc Try.prog Try.f4 false true false false W args v W' := by
  have hW' := hW
  obtain ⟨p, q, hA0, hV, rfl, hfz, hnd⟩ := hW
  have hA : DataW.TrodAll enc Try.prog W 0 (fun _ => true) true Try.f4.params.toList args.toList ds p := hA0
  rw [Try.params4] at hA hval
  obtain ⟨v0, vs0, d0, ds0, p0, q0, hargs, rfl, rfl, t0, r0⟩ := trodAll_cons hA
  obtain ⟨v1, vs1, d1, ds1, p1, q1, rfl, rfl, rfl, t1, r1⟩ := trodAll_cons r0
  obtain ⟨v2, vs2, d2, ds2, p2, q2, rfl, rfl, rfl, t2, r2⟩ := trodAll_cons r1
  obtain ⟨v3, vs3, d3, ds3, p3, q3, rfl, rfl, rfl, t3, r3⟩ := trodAll_cons r2
  obtain ⟨rfl, rfl, rfl⟩ := trodAll_nil r3
  obtain rfl : args = #[v0, v1, v2, v3] := by cases args; simp_all
  obtain ⟨rfl, rfl⟩ := trodVars_none hV
  obtain ⟨l0, hl0, hm0, hw0⟩ := open_rows (X := TermR) (termCells) (fun x => okT x) (k := 4) (fun _ => rfl) (by decide) Try.underlying29 (by kernel_rfl) (fun n cs y h => elem_term h) (hval 0 29 v0 rfl rfl) t0
  obtain ⟨a1, rfl, _, _, w1⟩ := open_int Try.underlying3 (hval 1 3 v1 rfl rfl) t1
  obtain ⟨a2, rfl, _, _, w2⟩ := open_int Try.underlying3 (hval 2 3 v2 rfl rfl) t2
  obtain ⟨a3, rfl, _, _, w3⟩ := open_int Try.underlying3 (hval 3 3 v3 rfl rfl) t3
  refine (law W v0 l0 hl0 hm0 hw0 a1 w1 a2 w2 a3 w3 W [] (st_refl W)).mono fun e W' h => ?_
  cases e with
  | panicked c => exact h.elim
  | outgrown => exact h.elim
  | returned v =>
    obtain ⟨_, _, rfl, hs⟩ := h
    exact ⟨_, rfl, post_true hW' rfl laidOut (by kernel_rfl) Try.underlying4 rfl rfl hs.1⟩

set_option maxRecDepth 100000 in
theorem lifted (os : Os) (started : os.Started) (H : Type) (enc : TypeId × Value → H) :
    ReturnsInHanded {} Try.checked os 4 .any (Rows.chainKeysSpec.pre6 enc Try.prog Try.f4 Rows.chainKeysRow.domain false) (Rows.chainKeysSpec.post enc Try.prog Try.f4 false true false false) := by
  refine returnsInHanded_of_change (C := Try.checked) own started (by kernel_rfl) Try.func4
    (ChangeSpec.witness6 (enc := enc) (C := Try.checked) false ⟨#[], #[.slice none 0 0, .int .i64 0, .int .i64 0, .int .i64 0], []⟩ 8 (by kernel_rfl) (by kernel_rfl) (by kernel_rfl) (by kernel_rfl)) ?_
  intro W base args ds gs before hval hW _ _
  exact contract H enc W base args ds gs before hval hW

theorem over : Rows.chainKeysRow.holds Try.pinned (OpenSpec.ofChange Rows.chainKeysSpec) :=
  OpenClaim.holds_of_wide 4 Try.f4 rfl rfl rfl rfl rfl rfl rfl ⟨rfl, rfl, rfl, rfl, rfl⟩ rfl rfl rfl rfl rfl (by kernel_rfl) Try.func4 (by kernel_rfl)
    (of_decide_eq_true (by kernel_rfl)) (by unfold Func.isWrapper; first | (rw [if_pos (by decide +kernel)]; kernel_rfl) | (rw [if_neg (by decide +kernel)]; exact ⟨rfl, rfl⟩))
    (fun os started H enc _ => lifted os started H enc)

theorem proved : Rows.ChainKeysSaid :=
  over
#print axioms proved
end Go.Proofs.Ytjjghmkjdgogiaa.chainKeys
