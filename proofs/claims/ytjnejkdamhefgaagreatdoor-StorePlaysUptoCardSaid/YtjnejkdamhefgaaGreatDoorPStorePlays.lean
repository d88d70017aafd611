/- 'StorePlays', where what is read is of bulk at most 1048576: for every such input the law returns true, and the input reads behind the call as it did before. No condition beyond that. -/
import Derived.Test.YtjnejkdamhefgaaGreatDoorCards
import Derived.Test.YtjnejkdamhefgaaGreatDoorTie
import Derived.Deep.DeepHandedRow
import Derived.Deep.DeepWitnessRowRef
import Derived.Test.YtjnejkdamhefgaaGreatDoorPFacts
import Derived.Test.YtjnejkdamhefgaaGreatDoorStPlays
namespace Go.Proofs.YtjnejkdamhefgaaGreatDoor.storePlays
open Go Go.SL Go.St Go.RowKit Go.ChangeShapes Go.WideShapes Go.ChangeAt
set_option linter.unusedVariables false
set_option maxRecDepth 20000
theorem own : ownKnob Tryz.prog.godebug = none := by kernel_rfl
theorem one_le {H : Type} (d : DataW H) : 1 ≤ Rows.uptoBulk d := by
 cases d with
 | lit l => cases l <;> simp [Rows.uptoBulk]
 | _ => simp [Rows.uptoBulk]
theorem part_le {H : Type} {d : DataW H} : ∀ {l : List (DataW H)}, d ∈ l → Rows.uptoBulk d ≤ Rows.uptoBulkAll l
 | x :: r, h => by
  simp only [Rows.uptoBulkAll]
  rcases List.mem_cons.1 h with rfl | h
  · omega
  · have := part_le h; omega
theorem four_le {H : Type} : ∀ {l : List (DataW H)}, (∀ d ∈ l, 4 ≤ Rows.uptoBulk d) → l.length * 4 ≤ Rows.uptoBulkAll l
 | [], _ => Nat.zero_le _
 | x :: r, h => by
  have h1 := h x (List.mem_cons_self ..)
  have h2 := four_le fun d hd => h d (List.mem_cons_of_mem _ hd)
  simp only [Rows.uptoBulkAll, List.length_cons]; omega
def pairD {H : Type} (x : PairR) (d : DataW H) : Prop := okP x ∧ ∃ a b c, d = .agg [a, b, c]
def opD {H : Type} (W : World) (o : OpS) (d : DataW H) : Prop := Rd W o.v o.l.length (o.l.flatMap pairCells) ∧ o.l.length * 4 ≤ Rows.uptoBulk d ∧ (∀ x ∈ o.l, okP x) ∧ o.n ≤ 9223372036854775807
theorem pairs_in {H : Type} {l : List PairR} {d : DataW H} (h : l = [] ∨ ∃ ds ss, d = .slice ds ss ∧ ds.length = l.length ∧ ∀ (i : Nat) x, l[i]? = some x → ∃ e, ds[i]? = some e ∧ pairD x e) : l.length * 4 ≤ Rows.uptoBulk d ∧ ∀ x ∈ l, okP x := by
  rcases h with rfl | ⟨ds, ss, rfl, hl, h⟩
  · exact ⟨by simp, fun x hx => by cases hx⟩
  refine ⟨?_, fun x hx => ?_⟩
  · have := four_le (l := ds) fun d hd => by
      obtain ⟨i, hi⟩ := List.mem_iff_getElem?.1 hd
      have hlt := (List.getElem?_eq_some_iff.1 hi).1
      obtain ⟨e, he, _, a, b, c, rfl⟩ := h i _ (List.getElem?_eq_getElem (by omega))
      rw [he] at hi
      cases hi
      have := one_le a; have := one_le b; have := one_le c
      simp only [Rows.uptoBulk, Rows.uptoBulkAll]; omega
    simp only [Rows.uptoBulk]; omega
  · obtain ⟨i, hi⟩ := List.mem_iff_getElem?.1 hx
    obtain ⟨e, _, hp, _⟩ := h i x hi
    exact hp
theorem elem_pairD {H : Type} {enc : TypeId × Value → H} {W : World} {base : Nat} {sp : Nat → Bool} {n : Nat} {cs : List Value} {y : DataW H × List MemPlace} (h : DataW.trod enc Tryz.prog W base sp true n 53 cs = some y) : ∃ x : PairR, pairD x y.1 ∧ cs = pairCells x := by
 obtain ⟨a, b, g, d0, d1, d2, wa, wb, e, e'⟩ := elem_str2_bool' Tryz.underlying53 (by kernel_rfl) (by kernel_rfl) Tryz.underlying9 Tryz.underlying9 Tryz.underlying4 h
 exact ⟨⟨a, b, g⟩, ⟨⟨Nat.le_trans wa (by decide), Nat.le_trans wb (by decide)⟩, _, _, _, e'⟩, e⟩
theorem elem_opD {H : Type} {enc : TypeId × Value → H} {W : World} {base : Nat} {sp : Nat → Bool} {n : Nat} {cs : List Value} {y : DataW H × List MemPlace} (h : DataW.trod enc Tryz.prog W base sp true n 41 cs = some y) : ∃ o : OpS, opD W o y.1 ∧ cs = opSC o := by
 obtain ⟨a, b, c, v, l, d0, d1, d2, d3, wa, wb, wc, hrd, _, hd, e, e'⟩ := elem_int_rows_int2 pairCells pairD (k := 3) (fun _ => rfl) (by decide) Tryz.underlying41 (by kernel_rfl) (by kernel_rfl) Tryz.underlying3 Tryz.underlying39 Tryz.underlying3 Tryz.underlying2 (by kernel_rfl) (fun _ _ _ h => elem_pairD h) h
 obtain ⟨h4, hp⟩ := pairs_in hd
 have rb : -9223372036854775808 ≤ b ∧ b ≤ 9223372036854775807 := by simpa [Lit.wf, IntKind.min, IntKind.max, IntKind.signed, IntKind.bits] using wb
 refine ⟨⟨a, v, l, b, c⟩, ⟨hrd, ?_, hp, rb.2⟩, e⟩
 rw [e']
 simp only [Rows.uptoBulk, Rows.uptoBulkAll]
 exact Nat.le_trans h4 (by omega)
theorem contract (H : Type) (enc : TypeId × Value → H) (W : World) (base : Nat) (args : Array Value) (ds gs : List (DataW H)) (before : List MemPlace)
  (hval : ∀ (j : Nat) t v, Tryz.f3.params[j]? = some t → args[j]? = some v → Value.okWide Tryz.prog W .any base t v)
  (hW : DataW.Whole enc Tryz.prog Tryz.f3.params.toList Rows.storePlaysSpec.vars false W args.toList ds gs before) (hk : Rows.uptoSmall H (ds ++ gs) = true) :
  Calls Tryz.prog 3 args W fun e W' => ∃ v, e = .returned v ∧ Rows.storePlaysSpec.post enc Tryz.prog Tryz.f3 false true false false W args v W' := by
 have hW' := hW
 obtain ⟨p, q, hA0, hV, rfl, hfz, hnd⟩ := hW
 have hA : DataW.TrodAll enc Tryz.prog W 0 (fun _ => true) true Tryz.f3.params.toList args.toList ds p := hA0
 rw [Tryz.params3] at hA hval
 obtain ⟨v0, vs0, d0, ds0, p0, q0, hargs, rfl, rfl, t0, r0⟩ := trodAll_cons hA
 obtain ⟨v1, vs1, d1, ds1, p1, q1, rfl, rfl, rfl, t1, r1⟩ := trodAll_cons r0
 obtain ⟨rfl, rfl, rfl⟩ := trodAll_nil r1
 obtain rfl : args = #[v0, v1] := by cases args; simp_all
 obtain ⟨rfl, rfl⟩ := trodVars_none hV
 have hb : Rows.uptoBulkAll [d0, d1] ≤ 1048576 := of_decide_eq_true hk
 obtain ⟨a0, rfl, _, _, w0⟩ := open_int Tryz.underlying3 (hval 0 3 v0 rfl rfl) t0
 obtain ⟨a', n', c', rfl⟩ := okWide_slice Tryz.underlying22 (hval 1 22 v1 rfl rfl)
 obtain ⟨fuel, hf⟩ := t1
 obtain ⟨v, l, ev, hrd, hlm, hd⟩ := rows_in opSC (opD W) (k := 4) (fun _ => rfl) (by decide) Tryz.underlying22 (by kernel_rfl) (fun _ _ _ h => elem_opD h) hf
 obtain rfl : v = .slice a' n' c' := by simpa [Value.cells] using ev.symm
 have hlb : ∀ o ∈ l, opB W o := fun o ho => by
  rcases hd with rfl | ⟨es, ss, hes, hl, h⟩
  · cases ho
  obtain ⟨i, hi⟩ := List.mem_iff_getElem?.1 ho
  obtain ⟨e, he, h1, h2, h3, h4⟩ := h i o hi
  have h5 := part_le (List.mem_of_getElem? he)
  have hes : d1 = .slice es ss := hes
  rw [hes] at hb
  simp only [Rows.uptoBulk, Rows.uptoBulkAll] at hb
  exact ⟨h1, by omega, h3, h4⟩
 refine (plays_law W a0 _ l hrd hlb (Nat.le_trans hlm (by decide)) W [] (st_refl W)).mono fun e W' h => ?_
 cases e with
 | panicked c => exact h.elim
 | outgrown => exact h.elim
 | returned v =>
  obtain ⟨_, _, rfl, hs⟩ := h
  exact ⟨_, rfl, post_true hW' rfl laidOut (by kernel_rfl) Tryz.underlying4 rfl rfl hs.1⟩
theorem laid_met (os : Os) (args : Array Value) : laidMetH Tryz.prog Rows.storePlaysUptoRow.laid ((World.doorLaid Tryz.prog 400 os).forCall (fun _ _ => 0) ⟨#[], args, []⟩).memory :=
 laidMetH_of_parts3 (fuel := 8) (laidMet_of_run' 8 (by kernel_rfl) (by kernel_rfl)) (by kernel_rfl) (by kernel_rfl)
theorem reads (os : Os) {H : Type} (enc : TypeId × Value → H) : ∃ places, DataW.whole enc Tryz.prog ((World.doorLaid Tryz.prog 400 os).forCall (fun _ _ => 0) ⟨#[], #[.int .i64 0, .slice none 0 0], []⟩).memory Tryz.f3.params.toList Rows.storePlaysSpec.vars false #[Value.int .i64 0, .slice none 0 0].toList 8 = some ([.lit (.int .i64 0), .nil], [], places) :=
 ⟨[], by kernel_rfl⟩
set_option maxRecDepth 100000 in
theorem lifted (os : Os) (started : os.Started) (H : Type) (enc : TypeId × Value → H) (F : Stop.Interp) :
  ReturnsInHanded {} Tryz.checked os 3 .any ((Rows.OpenSpec.upto Rows.storePlaysSpec).preRow enc Tryz.prog Tryz.f3 Rows.storePlaysUptoRow.domain false Rows.storePlaysUptoRow.laid) (((Rows.OpenSpec.upto Rows.storePlaysSpec).at F).post enc Tryz.prog Tryz.f3 false true false false) := by
 obtain ⟨places, hx⟩ := reads os enc
 refine returnsInHanded_of_row (C := Tryz.checked) (s := Rows.OpenSpec.upto Rows.storePlaysSpec) own started (by kernel_rfl) Tryz.func3
  (witness_row_atRef (enc := enc) (C := Tryz.checked) false (World.doorLaid Tryz.prog 400 os) #[.int .i64 0, .slice none 0 0] rfl (by kernel_rfl) (by kernel_rfl) (by kernel_rfl)
   (OpenSpec.preRow_of_cond 8 hx (by kernel_rfl) (fun k hk => by cases hk; kernel_rfl) (by kernel_rfl) (laid_met os _))) ?_
 intro W base args ds gs before hval hW _ hcond _ _ _ _
 exact contract H enc W base args ds gs before hval hW (hcond _ rfl)
theorem over : Rows.StorePlaysUptoSaid :=
 OpenClaim.holds_of_cond 3 Tryz.f3 rfl rfl rfl rfl rfl rfl rfl ⟨rfl, rfl, rfl, rfl, rfl⟩ rfl rfl rfl rfl rfl (by kernel_rfl) Tryz.func3 closed
  (of_decide_eq_true (by kernel_rfl)) (by unfold Func.isWrapper; first | (rw [if_pos (by decide +kernel)]; kernel_rfl) | (rw [if_neg (by decide +kernel)]; exact ⟨rfl, rfl⟩))
  (fun os started H enc _ F => by rw [OpenClaim.pre_eq_preRow]; exact lifted os started H enc F)
theorem plain (f : FuncId) (fn : Func) (hf : Tryz.pinned.checked.prog.funcNamed "phratry/phratrylaw07.StorePlays" = some f) (hfn : Tryz.pinned.checked.prog.funcs[f]? = some fn) :
  true = Tryz.pinned.checked.prog.looks [] ∧ ∀ (j : Nat) t, fn.params[j]? = some t → Tryz.pinned.checked.prog.wantsStandIn t = false := by
 obtain rfl : f = 3 := Option.some.inj ((show Tryz.prog.funcNamed "phratry/phratrylaw07.StorePlays" = some 3 by kernel_rfl).symm.trans hf) |>.symm
 obtain rfl : fn = Tryz.f3 := (Option.some.inj (Tryz.func3.symm.trans hfn)).symm
 refine ⟨(by kernel_rfl), fun j t ht => ?_⟩
 rw [Tryz.params3] at ht
 have hm : t ∈ [3, 22] := by simpa using Array.mem_of_getElem? ht
 have hall : ([3, 22].all fun u => !Tryz.prog.wantsStandIn u) = true := by kernel_rfl
 exact (show Tryz.prog.wantsStandIn t = false by simpa using List.all_eq_true.1 hall t hm)
theorem proved : Rows.StorePlaysUptoCardSaid :=
 Claim7.holds_tied_plain_at .later [] _ _ _ _ over (fun _ h => by cases h) (by kernel_rfl) (fun _ h => by cases h) storePlaysUpto_row_tie rfl ⟨rfl, rfl⟩ (by kernel_rfl) rfl plain (by kernel_rfl)
#print axioms proved
end Go.Proofs.YtjnejkdamhefgaaGreatDoor.storePlays
