import Derived.Test.YtkndmgfahghcjaaGreatRows
import Derived.Test.YtkndmgfahghcjaaGreatStWb
import Derived.Test.YtkndmgfahghcjaaGreatSLP
/- 'StoreWhole': for every input the law returns true, and the input reads behind the call as it did before. No condition. -/
namespace Go.Proofs.YtkndmgfahghcjaaGreat.storeWhole
open Go Go.SL Go.St Go.RowKit Go.ChangeShapes Go.WideShapes Go.ChangeAt
set_option linter.unusedVariables false
set_option maxRecDepth 20000

theorem own : ownKnob Tryz.prog.godebug = none := by kernel_rfl
theorem laidOut : laidOutB Tryz.prog = true := by kernel_rfl

theorem elem_pair {H : Type} {enc : TypeId × Value → H} {W : World} {base : Nat} {sp : Nat → Bool} {n : Nat} {cs : List Value} {y : DataW H × List MemPlace} (h : DataW.trod enc Tryz.prog W base sp true n 44 cs = some y) : ∃ x : PairR, (x.n.size ≤ maxLen ∧ x.t.size ≤ maxLen) ∧ cs = pairCells x := by
 obtain ⟨a, b, g, wa, wb, e⟩ := elem_str2_bool Tryz.underlying44 (by kernel_rfl) (by kernel_rfl) Tryz.underlying9 Tryz.underlying9 Tryz.underlying4 h
 exact ⟨⟨a, b, g⟩, ⟨wa, wb⟩, e⟩

theorem law (W : World) (vo : Value) (lo : List PairR) (ho : Rd W vo lo.length (lo.flatMap pairCells)) (hom : lo.length ≤ maxLen) (how : ∀ x ∈ lo, x.n.size ≤ maxLen ∧ x.t.size ≤ maxLen) (vl : Value) (l : List PairR) (hl : Rd W vl l.length (l.flatMap pairCells)) (hlm : l.length ≤ maxLen) (hlw : ∀ x ∈ l, x.n.size ≤ maxLen ∧ x.t.size ≤ maxLen) (n : Int) (hn : (Lit.int .i64 n).wf = true) (bits : Int) (hbits : (Lit.int .i64 bits).wf = true) :
  Con Tryz.prog W 9 #[vo, vl, .int .i64 n, .int .i64 bits] [] (X := Unit) (fun _ => True) (fun _ => .bool true) (fun _ => []) := by
 have rn : -9223372036854775808 ≤ n ∧ n ≤ 9223372036854775807 := by simpa [Lit.wf, IntKind.min, IntKind.max, IntKind.signed, IntKind.bits] using hn
 exact whole_law W vo lo ho hom how vl l hl hlm hlw n bits rn.2

theorem contract (H : Type) (enc : TypeId × Value → H) (W : World) (base : Nat) (args : Array Value) (ds gs : List (DataW H)) (before : List MemPlace)
  (hval : ∀ (j : Nat) t v, Tryz.f9.params[j]? = some t → args[j]? = some v → Value.okWide Tryz.prog W .any base t v)
  (hW : DataW.Whole enc Tryz.prog Tryz.f9.params.toList Rows.storeWholeSpec.vars false W args.toList ds gs before) :
  Calls Tryz.prog 9 args W fun e W' => ∃ v, e = .returned v ∧ Rows.storeWholeSpec.post enc Tryz.prog Tryz.f9 false true false false W args v W' := by
 have hW' := hW
 obtain ⟨p, q, hA0, hV, rfl, hfz, hnd⟩ := hW
 have hA : DataW.TrodAll enc Tryz.prog W 0 (fun _ => true) true Tryz.f9.params.toList args.toList ds p := hA0
 rw [Tryz.params9] at hA hval
 obtain ⟨v0, vs0, d0, ds0, p0, q0, hargs, rfl, rfl, t0, r0⟩ := trodAll_cons hA
 obtain ⟨v1, vs1, d1, ds1, p1, q1, rfl, rfl, rfl, t1, r1⟩ := trodAll_cons r0
 obtain ⟨v2, vs2, d2, ds2, p2, q2, rfl, rfl, rfl, t2, r2⟩ := trodAll_cons r1
 obtain ⟨v3, vs3, d3, ds3, p3, q3, rfl, rfl, rfl, t3, r3⟩ := trodAll_cons r2
 obtain ⟨rfl, rfl, rfl⟩ := trodAll_nil r3
 obtain rfl : args = #[v0, v1, v2, v3] := by cases args; simp_all
 obtain ⟨rfl, rfl⟩ := trodVars_none hV
 obtain ⟨l0, hl0, hm0, hw0⟩ := open_rows (X := PairR) (pairCells) (fun x => x.n.size ≤ maxLen ∧ x.t.size ≤ maxLen) (k := 3) (fun _ => rfl) (by decide) Tryz.underlying22 (by kernel_rfl) (fun n cs y h => elem_pair h) (hval 0 22 v0 rfl rfl) t0
 obtain ⟨l1, hl1, hm1, hw1⟩ := open_rows (X := PairR) (pairCells) (fun x => x.n.size ≤ maxLen ∧ x.t.size ≤ maxLen) (k := 3) (fun _ => rfl) (by decide) Tryz.underlying22 (by kernel_rfl) (fun n cs y h => elem_pair h) (hval 1 22 v1 rfl rfl) t1
 obtain ⟨a2, rfl, _, _, w2⟩ := open_int Tryz.underlying3 (hval 2 3 v2 rfl rfl) t2
 obtain ⟨a3, rfl, _, _, w3⟩ := open_int Tryz.underlying2 (hval 3 2 v3 rfl rfl) t3
 refine (law W v0 l0 hl0 hm0 hw0 v1 l1 hl1 hm1 hw1 a2 w2 a3 w3 W [] (st_refl W)).mono fun e W' h => ?_
 cases e with
 | panicked c => exact h.elim
 | outgrown => exact h.elim
 | returned v =>
  obtain ⟨_, _, rfl, hs⟩ := h
  exact ⟨_, rfl, post_true hW' rfl laidOut (by kernel_rfl) Tryz.underlying4 rfl rfl hs.1⟩

set_option maxRecDepth 100000 in
theorem lifted (os : Os) (started : os.Started) (H : Type) (enc : TypeId × Value → H) :
  ReturnsInHanded {} Tryz.checked os 9 .any (Rows.storeWholeSpec.pre6 enc Tryz.prog Tryz.f9 Rows.storeWholeRow.domain false) (Rows.storeWholeSpec.post enc Tryz.prog Tryz.f9 false true false false) := by
 refine returnsInHanded_of_change (C := Tryz.checked) own started (by kernel_rfl) Tryz.func9
  (ChangeSpec.witness6 (enc := enc) (C := Tryz.checked) false ⟨#[], #[.slice none 0 0, .slice none 0 0, .int .i64 0, .int .i64 0], []⟩ 8 (by kernel_rfl) (by kernel_rfl) (by kernel_rfl) (by kernel_rfl)) ?_
 intro W base args ds gs before hval hW _ _
 exact contract H enc W base args ds gs before hval hW

theorem over : Rows.storeWholeRow.holds Tryz.pinned (OpenSpec.ofChange Rows.storeWholeSpec) :=
 OpenClaim.holds_of_wide 9 Tryz.f9 rfl rfl rfl rfl rfl rfl rfl ⟨rfl, rfl, rfl, rfl, rfl⟩ rfl rfl rfl rfl rfl (by kernel_rfl) Tryz.func9 (by kernel_rfl)
  (of_decide_eq_true (by kernel_rfl)) (by unfold Func.isWrapper; first | (rw [if_pos (by decide +kernel)]; kernel_rfl) | (rw [if_neg (by decide +kernel)]; exact ⟨rfl, rfl⟩))
  (fun os started H enc _ => lifted os started H enc)

theorem proved : Rows.StoreWholeSaid :=
 over
#print axioms proved
end Go.Proofs.YtkndmgfahghcjaaGreat.storeWhole

