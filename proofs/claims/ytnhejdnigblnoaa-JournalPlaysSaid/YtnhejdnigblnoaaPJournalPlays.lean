/- 'JournalPlays': for every input the law returns true, and the input reads behind the call as it did before. No condition. -/
import Derived.Test.YtnhejdnigblnoaaRows
import Derived.Test.YtnhejdnigblnoaaJnPlays
import Derived.Test.YtnhejdnigblnoaaSLU
import Derived.Test.YtnhejdnigblnoaaSLT
namespace Go.Proofs.Ytnhejdnigblnoaa.journalPlays
open Go Go.SL Go.Dk Go.RowKit Go.ChangeShapes Go.WideShapes Go.ChangeAt
set_option linter.unusedVariables false
set_option maxRecDepth 20000

theorem own : ownKnob Try.prog.godebug = none := by kernel_rfl
theorem laidOut : laidOutB Try.prog = true := by kernel_rfl

theorem elem_opJ {H : Type} {enc : TypeId × Value → H} {W : World} {base : Nat} {sp : Nat → Bool} {n : Nat} {cs : List Value} {y : DataW H × List MemPlace} (h : DataW.trod enc Try.prog W base sp true n 61 cs = some y) : ∃ x : Go.Jn.OpJ, (x.b < 256 ∧ x.n ≤ 9223372036854775807) ∧ cs = Go.Jn.opJC x := by
 obtain ⟨a, b, c, d, _, wb, wc, _, e⟩ := elem_int4 Try.underlying61 (by kernel_rfl) (by kernel_rfl) Try.underlying3 Try.underlying3 Try.underlying5 Try.underlying2 h
 have hc : 0 ≤ c ∧ c ≤ 255 := by simpa [Lit.wf, IntKind.min, IntKind.max, IntKind.signed, IntKind.bits] using wc
 have hb : -9223372036854775808 ≤ b ∧ b ≤ 9223372036854775807 := by simpa [Lit.wf, IntKind.min, IntKind.max, IntKind.signed, IntKind.bits] using wb
 exact ⟨⟨a, b, c.toNat, d⟩, by simp only; omega, by rw [e]; simp only [Go.Jn.opJC]; rw [Int.toNat_of_nonneg hc.1]⟩

theorem law (W : World) (n : Int) (hn : (Lit.int .i64 n).wf = true) (v : Value) (l : List Go.Jn.OpJ) (hl : Rd W v l.length (l.flatMap Go.Jn.opJC)) (hlm : l.length ≤ maxLen) (hlw : ∀ x ∈ l, x.b < 256 ∧ x.n ≤ 9223372036854775807) :
  Con Try.prog W 7 #[.int .i64 n, v] [] (X := Unit) (fun _ => True) (fun _ => .bool true) (fun _ => []) := by
 exact plays_law W n v l hl hlw hlm

theorem contract (H : Type) (enc : TypeId × Value → H) (W : World) (base : Nat) (args : Array Value) (ds gs : List (DataW H)) (before : List MemPlace)
  (hval : ∀ (j : Nat) t v, Try.f7.params[j]? = some t → args[j]? = some v → Value.okWide Try.prog W .any base t v)
  (hW : DataW.Whole enc Try.prog Try.f7.params.toList Rows.journalPlaysSpec.vars false W args.toList ds gs before) :
  Calls Try.prog 7 args W fun e W' => ∃ v, e = .returned v ∧ Rows.journalPlaysSpec.post enc Try.prog Try.f7 false true false false W args v W' := by
 have hW' := hW
 obtain ⟨p, q, hA0, hV, rfl, hfz, hnd⟩ := hW
 have hA : DataW.TrodAll enc Try.prog W 0 (fun _ => true) true Try.f7.params.toList args.toList ds p := hA0
 rw [Try.params7] at hA hval
 obtain ⟨v0, vs0, d0, ds0, p0, q0, hargs, rfl, rfl, t0, r0⟩ := trodAll_cons hA
 obtain ⟨v1, vs1, d1, ds1, p1, q1, rfl, rfl, rfl, t1, r1⟩ := trodAll_cons r0
 obtain ⟨rfl, rfl, rfl⟩ := trodAll_nil r1
 obtain rfl : args = #[v0, v1] := by cases args; simp_all
 obtain ⟨rfl, rfl⟩ := trodVars_none hV
 obtain ⟨a0, rfl, _, _, w0⟩ := open_int Try.underlying3 (hval 0 3 v0 rfl rfl) t0
 obtain ⟨l1, hl1, hm1, hw1⟩ := open_rows (X := Go.Jn.OpJ) (Go.Jn.opJC) (fun x => x.b < 256 ∧ x.n ≤ 9223372036854775807) (k := 4) (fun _ => rfl) (by decide) Try.underlying51 (by kernel_rfl) (fun n cs y h => elem_opJ h) (hval 1 51 v1 rfl rfl) t1
 refine (law W a0 w0 v1 l1 hl1 hm1 hw1 W [] (st_refl W)).mono fun e W' h => ?_
 cases e with
 | panicked c => exact h.elim
 | outgrown => exact h.elim
 | returned v =>
  obtain ⟨_, _, rfl, hs⟩ := h
  exact ⟨_, rfl, post_true hW' rfl laidOut (by kernel_rfl) Try.underlying4 rfl rfl hs.1⟩

set_option maxRecDepth 100000 in
theorem lifted (os : Os) (started : os.Started) (H : Type) (enc : TypeId × Value → H) :
  ReturnsInHanded {} Try.checked os 7 .any (Rows.journalPlaysSpec.pre6 enc Try.prog Try.f7 Rows.journalPlaysRow.domain false) (Rows.journalPlaysSpec.post enc Try.prog Try.f7 false true false false) := by
 refine returnsInHanded_of_change (C := Try.checked) own started (by kernel_rfl) Try.func7
  (ChangeSpec.witness6 (enc := enc) (C := Try.checked) false ⟨#[], #[.int .i64 0, .slice none 0 0], []⟩ 8 (by kernel_rfl) (by kernel_rfl) (by kernel_rfl) (by kernel_rfl)) ?_
 intro W base args ds gs before hval hW _ _
 exact contract H enc W base args ds gs before hval hW

theorem over : Rows.journalPlaysRow.holds Try.pinned (OpenSpec.ofChange Rows.journalPlaysSpec) :=
 OpenClaim.holds_of_wide 7 Try.f7 rfl rfl rfl rfl rfl rfl rfl ⟨rfl, rfl, rfl, rfl, rfl⟩ rfl rfl rfl rfl rfl (by kernel_rfl) Try.func7 (by kernel_rfl)
  (of_decide_eq_true (by kernel_rfl)) (by unfold Func.isWrapper; first | (rw [if_pos (by decide +kernel)]; kernel_rfl) | (rw [if_neg (by decide +kernel)]; exact ⟨rfl, rfl⟩))
  (fun os started H enc _ => lifted os started H enc)

theorem proved : Rows.JournalPlaysSaid :=
 over
#print axioms proved
end Go.Proofs.Ytnhejdnigblnoaa.journalPlays
