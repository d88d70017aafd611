/- 'AccountApart': for every input the law returns true, and the input reads behind the call as it did before. No condition. -/
import Derived.Test.YtkdjagmgmodfnaaRows
import Derived.Test.YtkdjagmgmodfnaaDdApart
import Derived.Test.YtkdjagmgmodfnaaSLO
namespace Go.Proofs.Ytkdjagmgmodfnaa.accountApart
open Go Go.SL Go.Dd Go.RowKit Go.ChangeShapes Go.WideShapes Go.ChangeAt
set_option linter.unusedVariables false
set_option maxRecDepth 20000

theorem own : ownKnob Try.prog.godebug = none := by kernel_rfl
theorem laidOut : laidOutB Try.prog = true := by kernel_rfl

structure CommitR where
  g : Int
  e : Int
  d : Int
  v : Value
  l : List Int
def comCells (x : CommitR) : List Value := [.int .i64 x.g, .int .i64 x.e, .int .i64 x.d, x.v]
def i64 (x : Int) : Prop := -9223372036854775808 ≤ x ∧ x ≤ 9223372036854775807
theorem i64_wf {x : Int} (h : (Lit.int .i64 x).wf = true) : i64 x := by
  unfold i64
  simpa [Lit.wf, IntKind.min, IntKind.max, IntKind.signed, IntKind.bits] using h
def ComOk (W : World) (x : CommitR) : Prop := i64 x.g ∧ i64 x.e ∧ i64 x.d ∧ Rd W x.v x.l.length (x.l.flatMap int1) ∧ ∀ z ∈ x.l, i64 z
section
variable {H : Type} {enc : TypeId × Value → H}
theorem elem_com {W : World} {base : Nat} {sp : Nat → Bool} {n : Nat} {cs : List Value} {y : DataW H × List MemPlace} (h : DataW.trod enc Try.prog W base sp true n 24 cs = some y) : ∃ x : CommitR, ComOk W x ∧ cs = comCells x := by
  obtain ⟨a, b, c, v, l, w1, w2, w3, hr, hw, rfl⟩ := elem_int3_ints Try.underlying24 (by kernel_rfl) (by kernel_rfl) Try.underlying3 Try.underlying3 Try.underlying3 Try.underlying22 Try.underlying3 (by kernel_rfl) h
  exact ⟨⟨a, b, c, v, l⟩, ⟨i64_wf w1, i64_wf w2, i64_wf w3, hr, fun z hz => i64_wf (hw z hz)⟩, rfl⟩
end

theorem law (W : World) (n : Int) (hn : (Lit.int .i64 n).wf = true) (a : CommitR) (ha : ComOk W a) (b : CommitR) (hb : ComOk W b) :
    Con Try.prog W 3 #[.int .i64 n, .agg #[.int .i64 a.g, .int .i64 a.e, .int .i64 a.d, a.v], .agg #[.int .i64 b.g, .int .i64 b.e, .int .i64 b.d, b.v]] [] (X := Unit) (fun _ => True) (fun _ => .bool true) (fun _ => []) := by
  exact apart_law W n (i64_wf hn) a.g a.e a.d b.g b.e b.d ha.1 ha.2.1 ha.2.2.1 hb.1 hb.2.1 hb.2.2.1 a.v b.v a.l b.l ha.2.2.2.1 hb.2.2.2.1 ha.2.2.2.2 hb.2.2.2.2

theorem contract (H : Type) (enc : TypeId × Value → H) (W : World) (base : Nat) (args : Array Value) (ds gs : List (DataW H)) (before : List MemPlace)
    (hval : ∀ (j : Nat) t v, Try.f3.params[j]? = some t → args[j]? = some v → Value.okWide Try.prog W .any base t v)
    (hW : DataW.Whole enc Try.prog Try.f3.params.toList Rows.accountApartSpec.vars false W args.toList ds gs before) :
    Calls Try.prog 3 args W fun e W' => ∃ v, e = .returned v ∧ Rows.accountApartSpec.post enc Try.prog Try.f3 false true false false W args v W' := by
  have hW' := hW
  obtain ⟨p, q, hA0, hV, rfl, hfz, hnd⟩ := hW
  have hA : DataW.TrodAll enc Try.prog W 0 (fun _ => true) true Try.f3.params.toList args.toList ds p := hA0
  rw [Try.params3] at hA hval
  obtain ⟨v0, vs0, d0, ds0, p0, q0, hargs, rfl, rfl, t0, r0⟩ := trodAll_cons hA
  obtain ⟨v1, vs1, d1, ds1, p1, q1, rfl, rfl, rfl, t1, r1⟩ := trodAll_cons r0
  obtain ⟨v2, vs2, d2, ds2, p2, q2, rfl, rfl, rfl, t2, r2⟩ := trodAll_cons r1
  obtain ⟨rfl, rfl, rfl⟩ := trodAll_nil r2
  obtain rfl : args = #[v0, v1, v2] := by cases args; simp_all
  obtain ⟨rfl, rfl⟩ := trodVars_none hV
  obtain ⟨a0, rfl, _, _, w0⟩ := open_int Try.underlying2 (hval 0 2 v0 rfl rfl) t0
  obtain ⟨cs1, rfl, _⟩ := okWide_struct Try.underlying24 (hval 1 24 v1 rfl rfl)
  obtain ⟨fu1, hf1⟩ := t1
  obtain ⟨o1, ho1, eo1⟩ := elem_com hf1
  obtain rfl : cs1 = (comCells o1).toArray := Array.ext' (by simpa [Value.cells] using eo1)
  obtain ⟨cs2, rfl, _⟩ := okWide_struct Try.underlying24 (hval 2 24 v2 rfl rfl)
  obtain ⟨fu2, hf2⟩ := t2
  obtain ⟨o2, ho2, eo2⟩ := elem_com hf2
  obtain rfl : cs2 = (comCells o2).toArray := Array.ext' (by simpa [Value.cells] using eo2)
  refine (law W a0 w0 o1 ho1 o2 ho2 W [] (st_refl W)).mono fun e W' h => ?_
  cases e with
  | panicked c => exact h.elim
  | outgrown => exact h.elim
  | returned v =>
    obtain ⟨_, _, rfl, hs⟩ := h
    exact ⟨_, rfl, post_true hW' rfl laidOut (by kernel_rfl) Try.underlying4 rfl rfl hs.1⟩

set_option maxRecDepth 100000 in
theorem lifted (os : Os) (started : os.Started) (H : Type) (enc : TypeId × Value → H) :
    ReturnsInHanded {} Try.checked os 3 .any (Rows.accountApartSpec.pre6 enc Try.prog Try.f3 Rows.accountApartRow.domain false) (Rows.accountApartSpec.post enc Try.prog Try.f3 false true false false) := by
  refine returnsInHanded_of_change (C := Try.checked) own started (by kernel_rfl) Try.func3
    (ChangeSpec.witness6 (enc := enc) (C := Try.checked) false ⟨#[], #[.int .i64 0, .agg #[.int .i64 0, .int .i64 0, .int .i64 0, .slice none 0 0], .agg #[.int .i64 0, .int .i64 0, .int .i64 0, .slice none 0 0]], []⟩ 8 (by kernel_rfl) (by kernel_rfl) (by kernel_rfl) (by kernel_rfl)) ?_
  intro W base args ds gs before hval hW _ _
  exact contract H enc W base args ds gs before hval hW

theorem over : Rows.accountApartRow.holds Try.pinned (OpenSpec.ofChange Rows.accountApartSpec) :=
  OpenClaim.holds_of_wide 3 Try.f3 rfl rfl rfl rfl rfl rfl rfl ⟨rfl, rfl, rfl, rfl, rfl⟩ rfl rfl rfl rfl rfl (by kernel_rfl) Try.func3 (by kernel_rfl)
    (of_decide_eq_true (by kernel_rfl)) (by unfold Func.isWrapper; first | (rw [if_pos (by decide +kernel)]; kernel_rfl) | (rw [if_neg (by decide +kernel)]; exact ⟨rfl, rfl⟩))
    (fun os started H enc _ => lifted os started H enc)

theorem proved : Rows.AccountApartSaid :=
  over
#print axioms proved
end Go.Proofs.Ytkdjagmgmodfnaa.accountApart
