/- 'ChainPlays': for every input the law returns true, and the input reads behind the call as it did before. No condition. -/
import Derived.Test.YtjjghmkjdgogiaaGreatDoorRows
import Derived.Test.YtjjghmkjdgogiaaGreatDoorCards
import Derived.Test.YtjjghmkjdgogiaaGreatDoorTie
import Derived.SevenTiedAt
import Derived.LaidMore
import Derived.OpenShut
import Derived.Stop.Joined
import Derived.Test.YtjjghmkjdgogiaaGreatDoorDdPl
import Derived.Test.YtjjghmkjdgogiaaGreatDoorSLU
import Derived.Test.YtjjghmkjdgogiaaGreatDoorSLT
namespace Go.Proofs.YtjjghmkjdgogiaaGreatDoor.chainPlays
open Go Go.SL Go.Dd Go.RowKit Go.ChangeShapes Go.WideShapes Go.ChangeAt
set_option linter.unusedVariables false
set_option maxRecDepth 20000

theorem own : ownKnob Tryz.prog.godebug = none := by kernel_rfl
theorem laidOut : laidOutB Tryz.prog = true := by kernel_rfl

theorem elem_term {H : Type} {enc : TypeId × Value → H} {W : World} {base : Nat} {sp : Nat → Bool} {n : Nat} {cs : List Value} {y : DataW H × List MemPlace} (h : DataW.trod enc Tryz.prog W base sp true n 89 cs = some y) : ∃ x : TermR, okT x ∧ cs = termCells x := by
 obtain ⟨a, b, c, d, wa, wb, wc, wd, e⟩ := elem_int4 Tryz.underlying89 (by kernel_rfl) (by kernel_rfl) Tryz.underlying87 Tryz.underlying2 Tryz.underlying3 Tryz.underlying3 h
 have hr : ∀ z : Int, (Lit.int .i64 z).wf = true → -9223372036854775808 ≤ z ∧ z ≤ 9223372036854775807 := fun z hz => by simpa [Lit.wf, IntKind.min, IntKind.max, IntKind.signed, IntKind.bits] using hz
 have ha : 0 ≤ a ∧ a ≤ 255 := by simpa [Lit.wf, IntKind.min, IntKind.max, IntKind.signed, IntKind.bits] using wa
 obtain ⟨m, rfl⟩ := Int.eq_ofNat_of_zero_le ha.1
 exact ⟨⟨m, b, c, d⟩, ⟨(by show m < 256; omega), hr b wb, hr c wc, hr d wd⟩, e⟩
theorem elem_i64 {H : Type} {enc : TypeId × Value → H} {W : World} {base : Nat} {sp : Nat → Bool} {n : Nat} {cs : List Value} {y : DataW H × List MemPlace} (h : DataW.trod enc Tryz.prog W base sp true n 3 cs = some y) : ∃ x : Int, i64R x ∧ cs = int1 x := by
 obtain ⟨z, e, _, w⟩ := DataW.trod_int Tryz.underlying3 h
 exact ⟨z, i64R_wf w, e⟩

theorem law (W : World) (vl : Value) (l : List TermR) (hl : Rd W vl l.length (l.flatMap termCells)) (hlm : l.length ≤ maxLen) (hlw : ∀ x ∈ l, okT x) (app : Int) (happ : (Lit.int .i64 app).wf = true) (sd : Int) (hsd : (Lit.int .i64 sd).wf = true) (vt : Value) (tk : List Int) (ht : Rd W vt tk.length (tk.flatMap int1)) (htm : tk.length ≤ maxLen) (htw : ∀ x ∈ tk, i64R x) :
  Con Tryz.prog W 3 #[vl, .int .i64 app, .int .i64 sd, vt] [] (X := Unit) (fun _ => True) (fun _ => .bool true) (fun _ => []) := by
 exact plays_law W vl l hl hlw app sd vt tk ht htw (i64R_wf hsd)

theorem contract (H : Type) (enc : TypeId × Value → H) (W : World) (base : Nat) (args : Array Value) (ds gs : List (DataW H)) (before : List MemPlace)
  (hval : ∀ (j : Nat) t v, Tryz.f3.params[j]? = some t → args[j]? = some v → Value.okWide Tryz.prog W .any base t v)
  (hW : DataW.Whole enc Tryz.prog Tryz.f3.params.toList Rows.chainPlaysSpec.vars false W args.toList ds gs before) :
  Calls Tryz.prog 3 args W fun e W' => ∃ v, e = .returned v ∧ Rows.chainPlaysSpec.post enc Tryz.prog Tryz.f3 false true false false W args v W' := by
 have hW' := hW
 obtain ⟨p, q, hA0, hV, rfl, hfz, hnd⟩ := hW
 have hA : DataW.TrodAll enc Tryz.prog W 0 (fun _ => true) true Tryz.f3.params.toList args.toList ds p := hA0
 rw [Tryz.params3] at hA hval
 obtain ⟨v0, vs0, d0, ds0, p0, q0, hargs, rfl, rfl, t0, r0⟩ := trodAll_cons hA
 obtain ⟨v1, vs1, d1, ds1, p1, q1, rfl, rfl, rfl, t1, r1⟩ := trodAll_cons r0
 obtain ⟨v2, vs2, d2, ds2, p2, q2, rfl, rfl, rfl, t2, r2⟩ := trodAll_cons r1
 obtain ⟨v3, vs3, d3, ds3, p3, q3, rfl, rfl, rfl, t3, r3⟩ := trodAll_cons r2
 obtain ⟨rfl, rfl, rfl⟩ := trodAll_nil r3
 obtain rfl : args = #[v0, v1, v2, v3] := by cases args; simp_all
 obtain ⟨rfl, rfl⟩ := trodVars_none hV
 obtain ⟨l0, hl0, hm0, hw0⟩ := open_rows (X := TermR) (termCells) (fun x => okT x) (k := 4) (fun _ => rfl) (by decide) Tryz.underlying22 (by kernel_rfl) (fun n cs y h => elem_term h) (hval 0 22 v0 rfl rfl) t0
 obtain ⟨a1, rfl, _, _, w1⟩ := open_int Tryz.underlying3 (hval 1 3 v1 rfl rfl) t1
 obtain ⟨a2, rfl, _, _, w2⟩ := open_int Tryz.underlying3 (hval 2 3 v2 rfl rfl) t2
 obtain ⟨l3, hl3, hm3, hw3⟩ := open_rows (X := Int) (int1) (fun x => i64R x) (k := 1) (fun _ => rfl) (by decide) Tryz.underlying23 (by kernel_rfl) (fun n cs y h => elem_i64 h) (hval 3 23 v3 rfl rfl) t3
 refine (law W v0 l0 hl0 hm0 hw0 a1 w1 a2 w2 v3 l3 hl3 hm3 hw3 W [] (st_refl W)).mono fun e W' h => ?_
 cases e with
 | panicked c => exact h.elim
 | outgrown => exact h.elim
 | returned v =>
  obtain ⟨_, _, rfl, hs⟩ := h
  exact ⟨_, rfl, post_true hW' rfl laidOut (by kernel_rfl) Tryz.underlying4 rfl rfl hs.1⟩

theorem laid_met (os : Os) (args : Array Value) : laidMetH Tryz.prog [("math/bits.deBruijn32tab", Rows.laid_math_bits_deBruijn32tab), ("math/bits.deBruijn64tab", Rows.laid_math_bits_deBruijn64tab), ("internal/strconv.uint64pow10", Rows.laid_internal_strconv_uint64pow10)] ((World.doorLaid Tryz.prog 400 os).forCall (fun _ _ => 0) ⟨#[], args, []⟩).memory :=
 laidMetH_of_parts3 (fuel := 8) (laidMet_of_run' 8 (by kernel_rfl) (by kernel_rfl)) (by kernel_rfl) (by kernel_rfl)
set_option maxRecDepth 100000 in
theorem lifted (os : Os) (started : os.Started) (H : Type) (enc : TypeId × Value → H) :
  ReturnsInHanded {} Tryz.checked os 3 .any (fun w args => (Rows.chainPlaysSpec.pre enc Tryz.prog Tryz.f3 [] false w args ∧ laidMetH Tryz.prog [("math/bits.deBruijn32tab", Rows.laid_math_bits_deBruijn32tab), ("math/bits.deBruijn64tab", Rows.laid_math_bits_deBruijn64tab), ("internal/strconv.uint64pow10", Rows.laid_internal_strconv_uint64pow10)] w) ∧ sizedMet enc Tryz.prog Tryz.f3 (OpenSpec.ofChange Rows.chainPlaysSpec) false w args) (Rows.chainPlaysSpec.post enc Tryz.prog Tryz.f3 false true false false) := by
 refine returnsInHanded_of_change_and (C := Tryz.checked) (X := fun w _ => laidMetH Tryz.prog [("math/bits.deBruijn32tab", Rows.laid_math_bits_deBruijn32tab), ("math/bits.deBruijn64tab", Rows.laid_math_bits_deBruijn64tab), ("internal/strconv.uint64pow10", Rows.laid_internal_strconv_uint64pow10)] w) (fun _ _ _ hh h => h.of_heap hh) own started (by kernel_rfl) Tryz.func3
  (ChangeSpec.witness_shaped (enc := enc) (C := Tryz.checked) (os := os) (X := fun w _ => laidMetH Tryz.prog [("math/bits.deBruijn32tab", Rows.laid_math_bits_deBruijn32tab), ("math/bits.deBruijn64tab", Rows.laid_math_bits_deBruijn64tab), ("internal/strconv.uint64pow10", Rows.laid_internal_strconv_uint64pow10)] w) false (World.doorLaid Tryz.prog 400 os) #[.slice none 0 0, .int .i64 0, .int .i64 0, .slice none 0 0] 8 rfl (World.shaped_of_RefB (by kernel_rfl) (by kernel_rfl)) (by kernel_rfl) (by kernel_rfl) (by kernel_rfl) (laid_met os _)) ?_
 intro W base args ds gs before hval hW _ _ _ _
 exact contract H enc W base args ds gs before hval hW

theorem over : Rows.chainPlaysRow.holds Tryz.pinned (OpenSpec.ofChange Rows.chainPlaysSpec) :=
 OpenClaim.holds_of_wide 3 Tryz.f3 rfl rfl rfl rfl rfl rfl rfl ⟨rfl, rfl, rfl, rfl, rfl⟩ rfl rfl rfl rfl rfl (by kernel_rfl) Tryz.func3 (by kernel_rfl)
  (of_decide_eq_true (by kernel_rfl)) (by unfold Func.isWrapper; first | (rw [if_pos (by decide +kernel)]; kernel_rfl) | (rw [if_neg (by decide +kernel)]; exact ⟨rfl, rfl⟩))
  (fun os started H enc _ => lifted os started H enc)

theorem proved : Rows.ChainPlaysCardSaid :=
 Claim7.holds_tied_plain_at .later [] [.data, .data, .data] true (true, "f31930e8e69b53438a6124b6b0885f2d12993bd12be805c5dd692dd561737fec") false over (fun _ h => by cases h) (by kernel_rfl) (fun _ h => by cases h) chainPlays_row_tie rfl ⟨rfl, rfl⟩ (by kernel_rfl) rfl
  (fun f fn hf hfn => by
   obtain rfl : f = 3 := Option.some.inj ((show Tryz.prog.funcNamed "phratry/phratrylaw11.ChainPlays" = some 3 by kernel_rfl).symm.trans hf) |>.symm
   obtain rfl : fn = Tryz.f3 := (Option.some.inj (Tryz.func3.symm.trans hfn)).symm
   exact ⟨by kernel_rfl, fun j t ht => by
    rw [Tryz.params3] at ht
    have hm : t ∈ [22, 3, 3, 23] := by simpa using Array.mem_of_getElem? ht
    have hall : ([22, 3, 3, 23].all fun u => !Tryz.prog.wantsStandIn u) = true := by kernel_rfl
    exact (show Tryz.prog.wantsStandIn t = false by simpa using List.all_eq_true.1 hall t hm)⟩)
  (by kernel_rfl)
#print axioms proved
end Go.Proofs.YtjjghmkjdgogiaaGreatDoor.chainPlays
