/- What follows: contracts of the calls. -/
import Derived.Test.YtjjghmkjdgogiaaGreatDoorDdG
import Derived.Test.YtjjghmkjdgogiaaGreatDoorSLM
import Derived.Test.YtjjghmkjdgogiaaGreatDoorProg
namespace Go.Proofs.YtjjghmkjdgogiaaGreatDoor
open Go Go.SL Go.Dd Go.RowKit
set_option linter.unusedVariables false
set_option maxRecDepth 8000
theorem fo_116_1 : fieldOff Tryz.prog 116 1 = some 1 := by kernel_rfl
theorem sc_114 : scalar Tryz.prog 114 = true := by kernel_rfl
theorem fo_116_0 : fieldOff Tryz.prog 116 0 = some 0 := by kernel_rfl
theorem sc_22 : scalar Tryz.prog 22 = true := by kernel_rfl
theorem fo_89_2 : fieldOff Tryz.prog 89 2 = some 2 := by kernel_rfl
theorem sc_3 : scalar Tryz.prog 3 = true := by kernel_rfl
theorem fo_89_3 : fieldOff Tryz.prog 89 3 = some 3 := by kernel_rfl
theorem fo_89_0 : fieldOff Tryz.prog 89 0 = some 0 := by kernel_rfl
theorem sc_87 : scalar Tryz.prog 87 = true := by kernel_rfl
theorem fo_89_1 : fieldOff Tryz.prog 89 1 = some 1 := by kernel_rfl
theorem sc_2 : scalar Tryz.prog 2 = true := by kernel_rfl
theorem ag_89 : aggSize Tryz.prog 89 = some 4 := by kernel_rfl
theorem zo_3 : zeroOf Tryz.prog 3 = some (Value.int .i64 0) := by kernel_rfl
theorem se_22 : sliceElem Tryz.prog 22 = some (89, 4) := by kernel_rfl
theorem zo_89 : zeroOf Tryz.prog 89 = some (Value.agg #[Value.int .u8 0, Value.int .i64 0, Value.int .i64 0, Value.int .i64 0]) := by kernel_rfl
theorem sz_89 : sizeIs Tryz.prog 89 = some 4 := by kernel_rfl
theorem by_89 : (Tryz.prog.info? 89).map (·.bytes) = some 32 := by kernel_rfl
theorem sz_22 : sizeIs Tryz.prog 22 = some 1 := by kernel_rfl
theorem laidOut0 : laidOutB Tryz.prog = true := by kernel_rfl
theorem rowT : (89 : TypeId) < Tryz.prog.types.size := of_decide_eq_true (by kernel_rfl)
theorem wideT : (match Tryz.prog.underlying 89 with | some (.array _ _) | some (.struct _) => true | _ => false) = true := by rw [Tryz.underlying89]
theorem keyTyT : Tryz.prog.keyTypeAt 2 89 = true := by kernel_rfl
theorem tiledT : Tryz.prog.tiled 2 89 = true := tiled_of_laidOut laidOut0 2 89 (by kernel_rfl) keyTyT
set_option maxRecDepth 100000 in
theorem lawT : Maps.Keyed Tryz.prog 89 := Maps.Keyed.of_law (deep_law_laid laidOut0 (m := 2) (by omega) rowT keyTyT wideT)
/-- A term whose numbers are the machine's. -/
def okT (t : TermR) : Prop := t.kind < 256 ∧ (-9223372036854775808 ≤ t.n ∧ t.n ≤ 9223372036854775807) ∧ (-9223372036854775808 ≤ t.a ∧ t.a ≤ 9223372036854775807) ∧ (-9223372036854775808 ≤ t.b ∧ t.b ≤ 9223372036854775807)
theorem depthT : ∃ d, Tryz.prog.types.size + 1 = d + 1 + 1 := ⟨Tryz.prog.types.size - 1, by have h : 0 < Tryz.prog.types.size := Nat.lt_of_le_of_lt (Nat.zero_le _) rowT; omega⟩
set_option maxRecDepth 100000 in
theorem keyT {t : TermR} (h : okT t) : ∃ l, keyOf Tryz.prog 89 (termV t) = some l := by
 obtain ⟨h1, h2, h3, h4⟩ := h
 obtain ⟨d, hd⟩ := depthT
 have w1 : (Lit.int .u8 ((t.kind : Nat) : Int)).wf = true := by simp only [Lit.wf, IntKind.min, IntKind.max, IntKind.signed, IntKind.bits, Bool.and_eq_true, decide_eq_true_eq, Bool.false_eq_true, if_false]; omega
 have w2 : ∀ x : Int, -9223372036854775808 ≤ x ∧ x ≤ 9223372036854775807 → (Lit.int .i64 x).wf = true := fun x hx => by simp only [Lit.wf, IntKind.min, IntKind.max, IntKind.signed, IntKind.bits, Bool.and_eq_true, decide_eq_true_eq, if_true]; omega
 have hkt : Tryz.prog.keyType 89 = true := by kernel_rfl
 have hf : (termV t).formed Tryz.prog 89 = true := by
  have hc : Tryz.prog.cellsOf 89 = 4 := by kernel_rfl
  simp [Value.formed, termV, termCells, Tryz.underlying89, hc]
 have hl : ∃ ls, Tryz.prog.keyLits (Tryz.prog.types.size + 1) 89 (termV t).cells.toList = some ls := by
  have hc : Tryz.prog.cellsOf 89 = 4 := by kernel_rfl
  have c1 : Tryz.prog.cellsOf 87 = 1 := by kernel_rfl
  have c2 : Tryz.prog.cellsOf 2 = 1 := by kernel_rfl
  have c3 : Tryz.prog.cellsOf 3 = 1 := by kernel_rfl
  rw [hd]
  simp [Program.keyLits, termV, termCells, Value.cells, Tryz.underlying89, Tryz.underlying87, Tryz.underlying2, Tryz.underlying3, hc, c1, c2, c3, w1, w2 _ h2, w2 _ h3, w2 _ h4]
 obtain ⟨ls, hls⟩ := hl
 exact ⟨.string (keyBytes ls), by unfold keyOf; rw [Tryz.underlying89]; simp only [hkt, hf, Bool.and_self, if_true, hls, Option.map_some]⟩
set_option maxRecDepth 100000 in
theorem eqT {t u : TermR} (ht : okT t) (hu : okT u) (w : World) : (Op.equal 89 (termV t) (termV u)).run Tryz.prog w = .ok (decide (t = u)) w := by
  obtain ⟨lt, hlt⟩ := keyT ht
  obtain ⟨lu, hlu⟩ := keyT hu
  obtain ⟨r, hr, hiff⟩ := run_equal_deep w (m := 2) (by omega) keyTyT wideT hlt hlu
  rw [hr]
  congr 1
  by_cases e : t = u
  · subst e
    rw [hlt] at hlu
    rw [decide_eq_true rfl]; exact hiff.2 (Option.some.inj hlu)
  · rw [decide_eq_false e]
    cases r with
    | false => rfl
    | true => exact absurd (termV_inj (keyOf_inj_deep tiledT wideT hlt ((hiff.1 rfl) ▸ hlu))) e
theorem eqT_true {t u : TermR} (ht : okT t) (hu : okT u) (h : t = u) (w : World) : (Op.equal 89 (termV t) (termV u)).run Tryz.prog w = .ok true w := by rw [eqT ht hu, decide_eq_true h]
theorem eqT_false {t u : TermR} (ht : okT t) (hu : okT u) (h : ¬ t = u) (w : World) : (Op.equal 89 (termV t) (termV u)).run Tryz.prog w = .ok false w := by rw [eqT ht hu, decide_eq_false h]
theorem wfOk {ts : List TermR} (h : Wf ts) (hl : ts.length ≤ 1048576) {i : Nat} {t : TermR} (hi : ts[i]? = some t) : okT t := by
 have hp := h.parts (n := i + 1) (t := t) (by unfold atN; rw [if_neg (by omega)]; exact hi)
 have h2 := h.2 i t hi
 exact ⟨h2.2.1, h2.2.2, by omega, by omega⟩
/-- A store's map: of each term its number. -/
def ents (ts : List TermR) : List (Value × Value) := ts.zipIdx.map fun p => (termV p.1, natV (p.2 + 1))
theorem ents_mem {ts : List TermR} {k v : Value} : (k, v) ∈ ents ts ↔ ∃ i t, ts[i]? = some t ∧ k = termV t ∧ v = natV (i + 1) := by
  unfold ents
  rw [List.mem_map]
  constructor
  · rintro ⟨⟨t, i⟩, h, e⟩
    rw [List.mem_zipIdx_iff_getElem?] at h
    simp only [Prod.mk.injEq] at e
    exact ⟨i, t, h, e.1.symm, e.2.symm⟩
  · rintro ⟨i, t, h, rfl, rfl⟩
    exact ⟨(t, i), by rw [List.mem_zipIdx_iff_getElem?]; exact h, rfl⟩
theorem ents_snoc (ts : List TermR) (t : TermR) : ents (ts ++ [t]) = ents ts ++ [(termV t, natV (ts.length + 1))] := by
 unfold ents
 rw [List.zipIdx_append, List.map_append]
 simp
theorem ents_keys {ts : List TermR} (h : Wf ts) (hl : ts.length ≤ 1048576) : ∀ p ∈ ents ts, ∃ l, keyOf Tryz.prog 89 p.1 = some l := fun p hp => by
 obtain ⟨i, t, h1, h2, _⟩ := ents_mem.1 (show (p.1, p.2) ∈ ents ts from hp)
 rw [h2]; exact keyT (wfOk h hl h1)
theorem ents_old {ts : List TermR} (h : Wf ts) {t : TermR} (ht : t ∈ ts) : (termV t, natV (ts.idxOf t + 1)) ∈ ents ts ∧ ∀ v', (termV t, v') ∈ ents ts → v' = natV (ts.idxOf t + 1) := by
 have hg : ts[ts.idxOf t]? = some t := by rw [List.getElem?_eq_getElem (List.idxOf_lt_length_of_mem ht), List.getElem_idxOf]
 refine ⟨ents_mem.2 ⟨_, t, hg, rfl, rfl⟩, fun v' hv => ?_⟩
 obtain ⟨i, u, h1, h2, h3⟩ := ents_mem.1 hv
 have := termV_inj h2
 subst this
 have hi := (List.getElem?_eq_some_iff.1 h1).1
 have : i = ts.idxOf t := by
  obtain ⟨h4, h5⟩ := List.getElem?_eq_some_iff.1 h1
  obtain ⟨h6, h7⟩ := List.getElem?_eq_some_iff.1 hg
  exact (List.getElem_inj h.1).1 (h5.trans h7.symm)
 rw [h3, this]
theorem ents_new {ts : List TermR} {t : TermR} (ht : ¬ t ∈ ts) : ∀ p ∈ ents ts, p.1 ≠ termV t := fun p hp e => by
 obtain ⟨i, u, h1, h2, _⟩ := ents_mem.1 (show (p.1, p.2) ∈ ents ts from hp)
 have := termV_inj (h2.symm.trans e)
 subst this
 exact ht (List.mem_of_getElem? h1)
def storeI (s : Nat) (ts : List TermR) : HP := ex fun v => ex fun mb => grp [pt s 116 [v, .map (some mb)], sl 89 4 v ts.length (ts.flatMap termCells), mp mb (ents ts)]
theorem storeI_mk {W0 w : World} {L : List HP} {s mb : Nat} {v : Value} {ts : List TermR} (h : st W0 w (pt s 116 [v, .map (some mb)] :: sl 89 4 v ts.length (ts.flatMap termCells) :: mp mb (ents ts) :: L)) : st W0 w (storeI s ts :: L) :=
 st_ex.2 ⟨v, st_ex.2 ⟨mb, st_grp.2 h⟩⟩
theorem Con.store {P : Program} {W0 : World} {f : FuncId} {args : Array Value} {s : Nat} {ts : List TermR} {pre : List HP} {X : Type} {φ : X → Prop} {val : X → Value} {post : X → List HP}
  (h : ∀ v mb, Con P W0 f args (pt s 116 [v, .map (some mb)] :: sl 89 4 v ts.length (ts.flatMap termCells) :: mp mb (ents ts) :: pre) φ val post) : Con P W0 f args (storeI s ts :: pre) φ val post := fun w F hs => by
 obtain ⟨v, hs⟩ := st_ex.1 hs
 obtain ⟨mb, hs⟩ := st_ex.1 hs
 have hs := st_grp.1 hs
 exact h v mb w F hs
def refI (r : Nat) (ts : List TermR) : HP := ex fun v => grp [pt r 118 [v], sl 89 4 v ts.length (ts.flatMap termCells)]
theorem refI_mk {W0 w : World} {L : List HP} {r : Nat} {v : Value} {ts : List TermR} (h : st W0 w (pt r 118 [v] :: sl 89 4 v ts.length (ts.flatMap termCells) :: L)) : st W0 w (refI r ts :: L) :=
 st_ex.2 ⟨v, st_grp.2 h⟩
theorem Con.ref {P : Program} {W0 : World} {f : FuncId} {args : Array Value} {r : Nat} {ts : List TermR} {pre : List HP} {X : Type} {φ : X → Prop} {val : X → Value} {post : X → List HP}
  (h : ∀ v, Con P W0 f args (pt r 118 [v] :: sl 89 4 v ts.length (ts.flatMap termCells) :: pre) φ val post) : Con P W0 f args (refI r ts :: pre) φ val post := fun w F hs => by
 obtain ⟨v, hs⟩ := st_ex.1 hs
 have hs := st_grp.1 hs
 exact h v w F hs
theorem flat4 {l : List TermR} : ∀ {k : Nat} {o : TermR}, l[k]? = some o → ∀ j u, (termCells o)[j]? = some u → (l.flatMap termCells)[k * 4 + j]? = some u := by
 induction l with
 | nil => intro k o h; simp at h
 | cons q l ih =>
  intro k o h j u hj
  have hl : j < 4 := (List.getElem?_eq_some_iff.1 hj).1
  cases k with
  | zero =>
   simp at h; subst h
   rw [List.flatMap_cons, List.getElem?_append_left (by simp only [termCells, List.length_cons, List.length_nil]; omega), Nat.zero_mul, Nat.zero_add]; exact hj
  | succ k =>
   have := ih (k := k) (by simpa using h) j u hj
   rw [List.flatMap_cons, List.getElem?_append_right (by simp only [termCells, List.length_cons, List.length_nil]; omega)]
   rw [show (k + 1) * 4 + j - (termCells q).length = k * 4 + j from by simp only [termCells, List.length_cons, List.length_nil]; omega]
   exact this
theorem flat_len4 {T : List TermR} : (T.flatMap termCells).length = T.length * 4 := by
 induction T with
 | nil => rfl
 | cons x T ih => rw [List.flatMap_cons, List.length_append, ih]; simp only [termCells, List.length_cons, List.length_nil]; omega

theorem made_c (W0 : World) (s : Nat) (v : Value) (mb : Nat) :
  Con Tryz.prog W0 132 #[Value.pointer (some ⟨s, 0, none⟩)] [pt s 116 [v, Value.map (some mb)]] (X := Unit) (fun _ => True) (fun _ => .bool true) (fun _ => [pt s 116 [v, Value.map (some mb)]]) := by
 refine Con.of (args := [Value.pointer (some ⟨s, 0, none⟩)]) Tryz.func132 rfl Tryz.ntmps132 rfl (fun F => ?_)
 show Wc _ W0 _ _ _ _ _ ((pt s 116 [v, Value.map (some mb)]) :: F)
 refine Wc.seq ?_
 refine Wc.region ?_
 refine Wl.q (v := Value.bool false) (q_assign rfl) ?_
 refine Wl.done ?_
 refine Wx.go ?_
 refine Wc.seq ?_
 refine Wc.region ?_
 refine Wl.q (v := Value.pointer (some ⟨s, 0, none⟩)) (q_move rfl) ?_
 refine Wl.q (v := Value.bool true) (q_neq_nil (r := false) rfl rfl Tryz.underlying24 rfl) ?_
 refine Wl.q (v := Value.bool true) (q_move rfl) ?_
 refine Wl.q (v := Value.pointer (some ⟨s, 0, none⟩)) (q_move rfl) ?_
 refine Wl.q (v := Value.pointer (some ⟨s, 0, none⟩)) (q_nil_ptr rfl) ?_
 refine Wl.q (v := Value.pointer (some ⟨s, 1, none⟩)) (q_field (m := 1) fo_116_1 rfl rfl) ?_
 refine Wl.q (v := Value.map (some mb)) (q_load sc_114 rfl (.cel (i := 0) rfl rfl)) ?_
 refine Wl.q (v := Value.bool true) (q_neq_nilmap (r := false) rfl rfl Tryz.underlying114 rfl) ?_
 refine Wl.q (v := Value.bool true) (q_pick (t := true) rfl rfl) ?_
 refine Wl.q (v := Value.bool true) (q_assign rfl) ?_
 refine Wl.done ?_
 refine Wx.go ?_
 refine Wc.ret ?_
 refine Wx.fin1 rfl (.inl rfl) (fun w hs => ?_)
 exact ⟨(), trivial, rfl, hs⟩

theorem there_yes (W0 : World) (s : Nat) (v : Value) (mb m : Nat) (xs : List Value) (x : Int) (h : 1 ≤ x ∧ x ≤ (m : Int)) :
  Con Tryz.prog W0 143 #[Value.pointer (some ⟨s, 0, none⟩), Value.int .i64 x] [pt s 116 [v, Value.map (some mb)], sl 89 4 v m xs] (X := Unit) (fun _ => True) (fun _ => .bool true) (fun _ => [pt s 116 [v, Value.map (some mb)], sl 89 4 v m xs]) := by
 refine Con.of (args := [Value.pointer (some ⟨s, 0, none⟩), Value.int .i64 x]) Tryz.func143 rfl Tryz.ntmps143 rfl (fun F => ?_)
 show Wc _ W0 _ _ _ _ _ ((pt s 116 [v, Value.map (some mb)]) :: (sl 89 4 v m xs) :: F)
 refine Wc.seq ?_
 refine Wc.region ?_
 refine Wl.q (v := Value.bool false) (q_assign rfl) ?_
 refine Wl.done ?_
 refine Wx.go ?_
 refine Wc.seq ?_
 refine Wc.region ?_
 refine Wl.q (v := Value.int .i64 x) (q_move rfl) ?_
 refine Wl.q (v := Value.bool true) (q_geq (r := true) rfl rfl (decide_eq_true (by omega))) ?_
 refine Wl.q (v := Value.bool true) (q_move rfl) ?_
 refine Wl.q (v := Value.int .i64 x) (q_move rfl) ?_
 refine Wl.q (v := Value.pointer (some ⟨s, 0, none⟩)) (q_move rfl) ?_
 refine Wl.q (v := Value.pointer (some ⟨s, 0, none⟩)) (q_nil_ptr rfl) ?_
 refine Wl.q (v := Value.pointer (some ⟨s, 0, none⟩)) (q_field (m := 0) fo_116_0 rfl rfl) ?_
 refine Wl.q (v := v) (q_load sc_22 rfl (.cel (i := 0) rfl rfl)) ?_
 refine Wl.q (v := Value.int .i64 ((m : Nat) : Int)) (q_len_sl (i := 1) Tryz.underlying22 rfl rfl) ?_
 refine Wl.q (v := Value.bool true) (q_leq (r := true) rfl rfl (decide_eq_true (by omega))) ?_
 refine Wl.q (v := Value.bool true) (q_pick (t := true) rfl rfl) ?_
 refine Wl.q (v := Value.bool true) (q_assign rfl) ?_
 refine Wl.done ?_
 refine Wx.go ?_
 refine Wc.ret ?_
 refine Wx.fin1 rfl (.inl rfl) (fun w hs => ?_)
 exact ⟨(), trivial, rfl, hs⟩

theorem there_no0 (W0 : World) (s : Nat) (v : Value) (mb m : Nat) (xs : List Value) (x : Int) (h : ¬ 1 ≤ x) :
  Con Tryz.prog W0 143 #[Value.pointer (some ⟨s, 0, none⟩), Value.int .i64 x] [pt s 116 [v, Value.map (some mb)], sl 89 4 v m xs] (X := Unit) (fun _ => True) (fun _ => .bool false) (fun _ => [pt s 116 [v, Value.map (some mb)], sl 89 4 v m xs]) := by
 refine Con.of (args := [Value.pointer (some ⟨s, 0, none⟩), Value.int .i64 x]) Tryz.func143 rfl Tryz.ntmps143 rfl (fun F => ?_)
 show Wc _ W0 _ _ _ _ _ ((pt s 116 [v, Value.map (some mb)]) :: (sl 89 4 v m xs) :: F)
 refine Wc.seq ?_
 refine Wc.region ?_
 refine Wl.q (v := Value.bool false) (q_assign rfl) ?_
 refine Wl.done ?_
 refine Wx.go ?_
 refine Wc.seq ?_
 refine Wc.region ?_
 refine Wl.q (v := Value.int .i64 x) (q_move rfl) ?_
 refine Wl.q (v := Value.bool false) (q_geq (r := false) rfl rfl (decide_eq_false (by omega))) ?_
 refine Wl.q (v := Value.bool false) (q_move rfl) ?_
 refine Wl.no ?_
 refine Wl.no ?_
 refine Wl.no ?_
 refine Wl.no ?_
 refine Wl.no ?_
 refine Wl.no ?_
 refine Wl.no ?_
 refine Wl.q (v := Value.bool false) (q_pick (t := false) rfl rfl) ?_
 refine Wl.q (v := Value.bool false) (q_assign rfl) ?_
 refine Wl.done ?_
 refine Wx.go ?_
 refine Wc.ret ?_
 refine Wx.fin1 rfl (.inl rfl) (fun w hs => ?_)
 exact ⟨(), trivial, rfl, hs⟩

theorem there_no1 (W0 : World) (s : Nat) (v : Value) (mb m : Nat) (xs : List Value) (x : Int) (h1 : 1 ≤ x) (h : ¬ x ≤ (m : Int)) :
  Con Tryz.prog W0 143 #[Value.pointer (some ⟨s, 0, none⟩), Value.int .i64 x] [pt s 116 [v, Value.map (some mb)], sl 89 4 v m xs] (X := Unit) (fun _ => True) (fun _ => .bool false) (fun _ => [pt s 116 [v, Value.map (some mb)], sl 89 4 v m xs]) := by
 refine Con.of (args := [Value.pointer (some ⟨s, 0, none⟩), Value.int .i64 x]) Tryz.func143 rfl Tryz.ntmps143 rfl (fun F => ?_)
 show Wc _ W0 _ _ _ _ _ ((pt s 116 [v, Value.map (some mb)]) :: (sl 89 4 v m xs) :: F)
 refine Wc.seq ?_
 refine Wc.region ?_
 refine Wl.q (v := Value.bool false) (q_assign rfl) ?_
 refine Wl.done ?_
 refine Wx.go ?_
 refine Wc.seq ?_
 refine Wc.region ?_
 refine Wl.q (v := Value.int .i64 x) (q_move rfl) ?_
 refine Wl.q (v := Value.bool true) (q_geq (r := true) rfl rfl (decide_eq_true (by omega))) ?_
 refine Wl.q (v := Value.bool true) (q_move rfl) ?_
 refine Wl.q (v := Value.int .i64 x) (q_move rfl) ?_
 refine Wl.q (v := Value.pointer (some ⟨s, 0, none⟩)) (q_move rfl) ?_
 refine Wl.q (v := Value.pointer (some ⟨s, 0, none⟩)) (q_nil_ptr rfl) ?_
 refine Wl.q (v := Value.pointer (some ⟨s, 0, none⟩)) (q_field (m := 0) fo_116_0 rfl rfl) ?_
 refine Wl.q (v := v) (q_load sc_22 rfl (.cel (i := 0) rfl rfl)) ?_
 refine Wl.q (v := Value.int .i64 ((m : Nat) : Int)) (q_len_sl (i := 1) Tryz.underlying22 rfl rfl) ?_
 refine Wl.q (v := Value.bool false) (q_leq (r := false) rfl rfl (decide_eq_false (by omega))) ?_
 refine Wl.q (v := Value.bool false) (q_pick (t := true) rfl rfl) ?_
 refine Wl.q (v := Value.bool false) (q_assign rfl) ?_
 refine Wl.done ?_
 refine Wx.go ?_
 refine Wc.ret ?_
 refine Wx.fin1 rfl (.inl rfl) (fun w hs => ?_)
 exact ⟨(), trivial, rfl, hs⟩

theorem there_no (W0 : World) (s : Nat) (v : Value) (mb m : Nat) (xs : List Value) (x : Int) (h : ¬ (1 ≤ x ∧ x ≤ (m : Int))) : Con Tryz.prog W0 143 #[Value.pointer (some ⟨s, 0, none⟩), Value.int .i64 x] [pt s 116 [v, Value.map (some mb)], sl 89 4 v m xs] (X := Unit) (fun _ => True) (fun _ => .bool false) (fun _ => [pt s 116 [v, Value.map (some mb)], sl 89 4 v m xs]) := by
 by_cases h1 : 1 ≤ x
 · exact there_no1 W0 s v mb m xs x h1 (by omega)
 · exact there_no0 W0 s v mb m xs x h1

set_option maxRecDepth 4000 in
theorem may_11 (W0 : World) (s : Nat) (v : Value) (mb m : Nat) (xs : List Value) (t : TermR) (ha : (1 ≤ t.a ∧ t.a ≤ (m : Int))) (hb : (1 ≤ t.b ∧ t.b ≤ (m : Int))) :
  Con Tryz.prog W0 133 #[Value.pointer (some ⟨s, 0, none⟩), Value.agg #[Value.int .u8 ((t.kind : Nat) : Int), Value.int .i64 t.n, Value.int .i64 t.a, Value.int .i64 t.b]] [pt s 116 [v, Value.map (some mb)], sl 89 4 v m xs] (X := Unit) (fun _ => True) (fun _ => .bool (may m t)) (fun _ => [pt s 116 [v, Value.map (some mb)], sl 89 4 v m xs]) := by
 refine Con.of (args := [Value.pointer (some ⟨s, 0, none⟩), Value.agg #[Value.int .u8 ((t.kind : Nat) : Int), Value.int .i64 t.n, Value.int .i64 t.a, Value.int .i64 t.b]]) Tryz.func133 rfl Tryz.ntmps133 rfl (fun F => ?_)
 show Wc _ W0 _ _ _ _ _ ((pt s 116 [v, Value.map (some mb)]) :: (sl 89 4 v m xs) :: F)
 refine Wc.seq ?_
 refine Wc.region ?_
 refine Wl.e (e_box (x := .tmp 1) (vs := [Value.int .u8 ((t.kind : Nat) : Int), Value.int .i64 t.n, Value.int .i64 t.a, Value.int .i64 t.b]) rfl) (fun b1 _ => ?_)
 refine Wl.imp (L' := (pt b1 89 [Value.int .u8 ((t.kind : Nat) : Int), Value.int .i64 t.n, Value.int .i64 t.a, Value.int .i64 t.b]) :: (pt s 116 [v, Value.map (some mb)]) :: (sl 89 4 v m xs) :: F) (fun _ h => h) ?_
 refine Wl.q (v := Value.bool false) (q_assign rfl) ?_
 refine Wl.done ?_
 refine Wx.go ?_
 refine Wc.seq ?_
 refine Wc.drawsS [] ((pt b1 89 [Value.int .u8 ((t.kind : Nat) : Int), Value.int .i64 t.n, Value.int .i64 t.a, Value.int .i64 t.b]) :: (pt s 116 [v, Value.map (some mb)]) :: (sl 89 4 v m xs) :: []) (by kernel_rfl) ?_
 refine Wr.pure (v := Value.pointer (some ⟨s, 0, none⟩)) 0 rfl (by kernel_rfl) (.inr (fun _ h => st_take [0, 0, 0] h)) (.inl ⟨rfl, fun _ => q_move rfl⟩) ?_
 refine Wr.pure (v := Value.pointer (some ⟨b1, 2, none⟩)) 1 rfl (by kernel_rfl) (.inr (fun _ h => st_take [0, 0, 0] h)) (.inl ⟨rfl, fun _ => q_field (m := 2) fo_89_2 rfl rfl⟩) ?_
 refine Wr.take (v := Value.int .i64 t.a) 2 rfl (by kernel_rfl) (fun _ h => st_take [0, 0, 0] h) (.inl ⟨rfl, q_load sc_3 rfl (.cel (i := 0) rfl rfl)⟩) ?_
 refine Wr.pure (v := Value.pointer (some ⟨s, 0, none⟩)) 4 rfl (by kernel_rfl) (.inr (fun _ h => st_take [0, 0, 0] h)) (.inl ⟨rfl, fun _ => q_move rfl⟩) ?_
 refine Wr.pure (v := Value.pointer (some ⟨b1, 3, none⟩)) 5 rfl (by kernel_rfl) (.inr (fun _ h => st_take [0, 0, 0] h)) (.inl ⟨rfl, fun _ => q_field (m := 3) fo_89_3 rfl rfl⟩) ?_
 refine Wr.take (v := Value.int .i64 t.b) 6 rfl (by kernel_rfl) (fun _ h => st_take [0, 0, 0] h) (.inl ⟨rfl, q_load sc_3 rfl (.cel (i := 0) rfl rfl)⟩) ?_
 refine Wr.imp (L' := (pt s 116 [v, Value.map (some mb)]) :: (sl 89 4 v m xs) :: (pt b1 89 [Value.int .u8 ((t.kind : Nat) : Int), Value.int .i64 t.n, Value.int .i64 t.a, Value.int .i64 t.b]) :: F) (fun _ h => st_pull [1, 1] h) ?_
 refine Wr.e 3 (by kernel_rfl) rfl (e_call (F := (pt b1 89 [Value.int .u8 ((t.kind : Nat) : Int), Value.int .i64 t.n, Value.int .i64 t.a, Value.int .i64 t.b]) :: F) (args := [Value.pointer (some ⟨s, 0, none⟩), Value.int .i64 t.a]) Tryz.call143 rfl (there_yes W0 s (v) mb m xs t.a ha)) (.inr fun _ _ _ h => st_take [2, 0, 0] h) (fun _ _ => ?_)
 refine Wr.imp (L' := (pt s 116 [v, Value.map (some mb)]) :: (sl 89 4 v m xs) :: (pt b1 89 [Value.int .u8 ((t.kind : Nat) : Int), Value.int .i64 t.n, Value.int .i64 t.a, Value.int .i64 t.b]) :: F) (fun _ h => h) ?_
 refine Wr.e 7 (by kernel_rfl) rfl (e_call (F := (pt b1 89 [Value.int .u8 ((t.kind : Nat) : Int), Value.int .i64 t.n, Value.int .i64 t.a, Value.int .i64 t.b]) :: F) (args := [Value.pointer (some ⟨s, 0, none⟩), Value.int .i64 t.b]) Tryz.call143 rfl (there_yes W0 s (v) mb m xs t.b hb)) (.inr fun _ _ _ h => st_take [2, 0, 0] h) (fun _ _ => ?_)
 refine Wr.imp (L' := (pt s 116 [v, Value.map (some mb)]) :: (sl 89 4 v m xs) :: (pt b1 89 [Value.int .u8 ((t.kind : Nat) : Int), Value.int .i64 t.n, Value.int .i64 t.a, Value.int .i64 t.b]) :: F) (fun _ h => h) ?_
 refine Wr.pure (v := Value.bool true) 8 rfl (by kernel_rfl) (.inr (fun _ h => st_take [2, 0, 0] h)) (.inl ⟨rfl, fun _ => q_assign rfl⟩) ?_
 refine Wr.pure (v := Value.bool true) 9 rfl (by kernel_rfl) (.inr (fun _ h => st_take [2, 0, 0] h)) (.inl ⟨rfl, fun _ => q_assign rfl⟩) ?_
 refine Wr.done (by kernel_rfl) ?_
 refine Wx.go ?_
 refine Wc.seq ?_
 refine Wc.seq ?_
 refine Wc.region ?_
 refine Wl.q (v := Value.pointer (some ⟨b1, 0, none⟩)) (q_field (m := 0) fo_89_0 rfl rfl) ?_
 refine Wl.q (v := Value.int .u8 ((t.kind : Nat) : Int)) (q_load sc_87 rfl (.cel (i := 2) rfl rfl)) ?_
 refine Wl.done ?_
 refine Wx.go ?_
 refine Wc.block ?_
 refine Wc.seq ?_
 refine Wc.region ?_
 by_cases h2 : ((t.kind : Nat) : Int) = 1
 ·
  refine Wl.q (v := Value.bool true) (q_eql (r := true) rfl rfl (decide_eq_true h2)) ?_
  refine Wl.q (v := Value.bool true) (q_assign rfl) ?_
  refine Wl.done ?_
  refine Wx.go ?_
  refine Wc.yes rfl ?_
  refine Wc.seq ?_
  refine Wc.region ?_
  refine Wl.q (v := Value.pointer (some ⟨b1, 1, none⟩)) (q_field (m := 1) fo_89_1 rfl rfl) ?_
  refine Wl.q (v := Value.int .i64 t.n) (q_load sc_2 rfl (.cel (i := 2) rfl rfl)) ?_
  by_cases h3 : t.n ≥ 0
  ·
   refine Wl.q (v := Value.bool true) (q_geq (r := true) rfl rfl (decide_eq_true h3)) ?_
   refine Wl.q (v := Value.bool true) (q_move rfl) ?_
   refine Wl.q (v := Value.pointer (some ⟨b1, 2, none⟩)) (q_field (m := 2) fo_89_2 rfl rfl) ?_
   refine Wl.q (v := Value.int .i64 t.a) (q_load sc_3 rfl (.cel (i := 2) rfl rfl)) ?_
   by_cases h4 : t.a = 0
   ·
    refine Wl.q (v := Value.bool true) (q_eql (r := true) rfl rfl (decide_eq_true h4)) ?_
    refine Wl.q (v := Value.bool true) (q_pick (t := true) rfl rfl) ?_
    refine Wl.q (v := Value.bool true) (q_move rfl) ?_
    refine Wl.q (v := Value.pointer (some ⟨b1, 3, none⟩)) (q_field (m := 3) fo_89_3 rfl rfl) ?_
    refine Wl.q (v := Value.int .i64 t.b) (q_load sc_3 rfl (.cel (i := 2) rfl rfl)) ?_
    by_cases h5 : t.b = 0
    ·
     refine Wl.q (v := Value.bool true) (q_eql (r := true) rfl rfl (decide_eq_true h5)) ?_
     refine Wl.q (v := Value.bool true) (q_pick (t := true) rfl rfl) ?_
     refine Wl.q (v := Value.bool true) (q_assign rfl) ?_
     refine Wl.done ?_
     refine Wx.go ?_
     refine Wc.ret ?_
     refine Wx.blockRet ?_
     refine Wx.thenRet ?_
     refine Wx.fin1 rfl (.inl rfl) (fun w hs => ?_)
     exact ⟨(), trivial, congrArg Value.bool (Eq.symm (decide_eq_true (by unfold MayP; omega))), (st_drop (st_pull [2] hs))⟩
    ·
     refine Wl.q (v := Value.bool false) (q_eql (r := false) rfl rfl (decide_eq_false h5)) ?_
     refine Wl.q (v := Value.bool false) (q_pick (t := true) rfl rfl) ?_
     refine Wl.q (v := Value.bool false) (q_assign rfl) ?_
     refine Wl.done ?_
     refine Wx.go ?_
     refine Wc.ret ?_
     refine Wx.blockRet ?_
     refine Wx.thenRet ?_
     refine Wx.fin1 rfl (.inl rfl) (fun w hs => ?_)
     exact ⟨(), trivial, congrArg Value.bool (Eq.symm (decide_eq_false (by unfold MayP; omega))), (st_drop (st_pull [2] hs))⟩
   ·
    refine Wl.q (v := Value.bool false) (q_eql (r := false) rfl rfl (decide_eq_false h4)) ?_
    refine Wl.q (v := Value.bool false) (q_pick (t := true) rfl rfl) ?_
    refine Wl.q (v := Value.bool false) (q_move rfl) ?_
    refine Wl.no ?_
    refine Wl.no ?_
    refine Wl.no ?_
    refine Wl.q (v := Value.bool false) (q_pick (t := false) rfl rfl) ?_
    refine Wl.q (v := Value.bool false) (q_assign rfl) ?_
    refine Wl.done ?_
    refine Wx.go ?_
    refine Wc.ret ?_
    refine Wx.blockRet ?_
    refine Wx.thenRet ?_
    refine Wx.fin1 rfl (.inl rfl) (fun w hs => ?_)
    exact ⟨(), trivial, congrArg Value.bool (Eq.symm (decide_eq_false (by unfold MayP; omega))), (st_drop (st_pull [2] hs))⟩
  ·
   refine Wl.q (v := Value.bool false) (q_geq (r := false) rfl rfl (decide_eq_false h3)) ?_
   refine Wl.q (v := Value.bool false) (q_move rfl) ?_
   refine Wl.no ?_
   refine Wl.no ?_
   refine Wl.no ?_
   refine Wl.q (v := Value.bool false) (q_pick (t := false) rfl rfl) ?_
   refine Wl.q (v := Value.bool false) (q_move rfl) ?_
   refine Wl.no ?_
   refine Wl.no ?_
   refine Wl.no ?_
   refine Wl.q (v := Value.bool false) (q_pick (t := false) rfl rfl) ?_
   refine Wl.q (v := Value.bool false) (q_assign rfl) ?_
   refine Wl.done ?_
   refine Wx.go ?_
   refine Wc.ret ?_
   refine Wx.blockRet ?_
   refine Wx.thenRet ?_
   refine Wx.fin1 rfl (.inl rfl) (fun w hs => ?_)
   exact ⟨(), trivial, congrArg Value.bool (Eq.symm (decide_eq_false (by unfold MayP; omega))), (st_drop (st_pull [2] hs))⟩
 ·
  refine Wl.q (v := Value.bool false) (q_eql (r := false) rfl rfl (decide_eq_false h2)) ?_
  refine Wl.q (v := Value.bool false) (q_assign rfl) ?_
  refine Wl.done ?_
  refine Wx.go ?_
  refine Wc.no rfl ?_
  refine Wc.seq ?_
  refine Wc.region ?_
  by_cases h6 : ((t.kind : Nat) : Int) = 2
  ·
   refine Wl.q (v := Value.bool true) (q_eql (r := true) rfl rfl (decide_eq_true h6)) ?_
   refine Wl.q (v := Value.bool true) (q_assign rfl) ?_
   refine Wl.done ?_
   refine Wx.go ?_
   refine Wc.yes rfl ?_
   refine Wc.seq ?_
   refine Wc.region ?_
   refine Wl.q (v := Value.pointer (some ⟨b1, 2, none⟩)) (q_field (m := 2) fo_89_2 rfl rfl) ?_
   refine Wl.q (v := Value.int .i64 t.a) (q_load sc_3 rfl (.cel (i := 2) rfl rfl)) ?_
   by_cases h7 : t.a = 0
   ·
    refine Wl.q (v := Value.bool true) (q_eql (r := true) rfl rfl (decide_eq_true h7)) ?_
    refine Wl.q (v := Value.bool true) (q_move rfl) ?_
    refine Wl.q (v := Value.pointer (some ⟨b1, 3, none⟩)) (q_field (m := 3) fo_89_3 rfl rfl) ?_
    refine Wl.q (v := Value.int .i64 t.b) (q_load sc_3 rfl (.cel (i := 2) rfl rfl)) ?_
    by_cases h8 : t.b = 0
    ·
     refine Wl.q (v := Value.bool true) (q_eql (r := true) rfl rfl (decide_eq_true h8)) ?_
     refine Wl.q (v := Value.bool true) (q_pick (t := true) rfl rfl) ?_
     refine Wl.q (v := Value.bool true) (q_assign rfl) ?_
     refine Wl.done ?_
     refine Wx.go ?_
     refine Wc.ret ?_
     refine Wx.blockRet ?_
     refine Wx.thenRet ?_
     refine Wx.fin1 rfl (.inl rfl) (fun w hs => ?_)
     exact ⟨(), trivial, congrArg Value.bool (Eq.symm (decide_eq_true (by unfold MayP; omega))), (st_drop (st_pull [2] hs))⟩
    ·
     refine Wl.q (v := Value.bool false) (q_eql (r := false) rfl rfl (decide_eq_false h8)) ?_
     refine Wl.q (v := Value.bool false) (q_pick (t := true) rfl rfl) ?_
     refine Wl.q (v := Value.bool false) (q_assign rfl) ?_
     refine Wl.done ?_
     refine Wx.go ?_
     refine Wc.ret ?_
     refine Wx.blockRet ?_
     refine Wx.thenRet ?_
     refine Wx.fin1 rfl (.inl rfl) (fun w hs => ?_)
     exact ⟨(), trivial, congrArg Value.bool (Eq.symm (decide_eq_false (by unfold MayP; omega))), (st_drop (st_pull [2] hs))⟩
   ·
    refine Wl.q (v := Value.bool false) (q_eql (r := false) rfl rfl (decide_eq_false h7)) ?_
    refine Wl.q (v := Value.bool false) (q_move rfl) ?_
    refine Wl.no ?_
    refine Wl.no ?_
    refine Wl.no ?_
    refine Wl.q (v := Value.bool false) (q_pick (t := false) rfl rfl) ?_
    refine Wl.q (v := Value.bool false) (q_assign rfl) ?_
    refine Wl.done ?_
    refine Wx.go ?_
    refine Wc.ret ?_
    refine Wx.blockRet ?_
    refine Wx.thenRet ?_
    refine Wx.fin1 rfl (.inl rfl) (fun w hs => ?_)
    exact ⟨(), trivial, congrArg Value.bool (Eq.symm (decide_eq_false (by unfold MayP; omega))), (st_drop (st_pull [2] hs))⟩
  ·
   refine Wl.q (v := Value.bool false) (q_eql (r := false) rfl rfl (decide_eq_false h6)) ?_
   refine Wl.q (v := Value.bool false) (q_assign rfl) ?_
   refine Wl.done ?_
   refine Wx.go ?_
   refine Wc.no rfl ?_
   refine Wc.seq ?_
   refine Wc.seq ?_
   refine Wc.region ?_
   by_cases h9 : ((t.kind : Nat) : Int) = 3
   ·
    refine Wl.q (v := Value.bool true) (q_eql (r := true) rfl rfl (decide_eq_true h9)) ?_
    refine Wl.q (v := Value.bool true) (q_assign rfl) ?_
    refine Wl.done ?_
    refine Wx.go ?_
    refine Wc.yes rfl ?_
    refine Wc.skip ?_
    refine Wx.go ?_
    refine Wc.yes rfl ?_
    refine Wc.seq ?_
    refine Wc.region ?_
    refine Wl.q (v := Value.pointer (some ⟨b1, 1, none⟩)) (q_field (m := 1) fo_89_1 rfl rfl) ?_
    refine Wl.q (v := Value.int .i64 t.n) (q_load sc_2 rfl (.cel (i := 2) rfl rfl)) ?_
    by_cases h10 : t.n = 0
    ·
     refine Wl.q (v := Value.bool true) (q_eql (r := true) rfl rfl (decide_eq_true h10)) ?_
     refine Wl.q (v := Value.bool true) (q_move rfl) ?_
     refine Wl.q (v := Value.bool true) (q_move rfl) ?_
     refine Wl.q (v := Value.bool true) (q_pick (t := true) rfl rfl) ?_
     refine Wl.q (v := Value.bool true) (q_move rfl) ?_
     refine Wl.q (v := Value.bool true) (q_move rfl) ?_
     refine Wl.q (v := Value.bool true) (q_pick (t := true) rfl rfl) ?_
     refine Wl.q (v := Value.bool true) (q_assign rfl) ?_
     refine Wl.done ?_
     refine Wx.go ?_
     refine Wc.ret ?_
     refine Wx.blockRet ?_
     refine Wx.thenRet ?_
     refine Wx.fin1 rfl (.inl rfl) (fun w hs => ?_)
     exact ⟨(), trivial, congrArg Value.bool (Eq.symm (decide_eq_true (by unfold MayP; omega))), (st_drop (st_pull [2] hs))⟩
    ·
     refine Wl.q (v := Value.bool false) (q_eql (r := false) rfl rfl (decide_eq_false h10)) ?_
     refine Wl.q (v := Value.bool false) (q_move rfl) ?_
     refine Wl.no ?_
     refine Wl.q (v := Value.bool false) (q_pick (t := false) rfl rfl) ?_
     refine Wl.q (v := Value.bool false) (q_move rfl) ?_
     refine Wl.no ?_
     refine Wl.q (v := Value.bool false) (q_pick (t := false) rfl rfl) ?_
     refine Wl.q (v := Value.bool false) (q_assign rfl) ?_
     refine Wl.done ?_
     refine Wx.go ?_
     refine Wc.ret ?_
     refine Wx.blockRet ?_
     refine Wx.thenRet ?_
     refine Wx.fin1 rfl (.inl rfl) (fun w hs => ?_)
     exact ⟨(), trivial, congrArg Value.bool (Eq.symm (decide_eq_false (by unfold MayP; omega))), (st_drop (st_pull [2] hs))⟩
   ·
    refine Wl.q (v := Value.bool false) (q_eql (r := false) rfl rfl (decide_eq_false h9)) ?_
    refine Wl.q (v := Value.bool false) (q_assign rfl) ?_
    refine Wl.done ?_
    refine Wx.go ?_
    refine Wc.no rfl ?_
    refine Wc.region ?_
    by_cases h11 : ((t.kind : Nat) : Int) = 6
    ·
     refine Wl.q (v := Value.bool true) (q_eql (r := true) rfl rfl (decide_eq_true h11)) ?_
     refine Wl.q (v := Value.bool true) (q_assign rfl) ?_
     refine Wl.done ?_
     refine Wx.go ?_
     refine Wc.yes rfl ?_
     refine Wc.seq ?_
     refine Wc.region ?_
     refine Wl.q (v := Value.pointer (some ⟨b1, 1, none⟩)) (q_field (m := 1) fo_89_1 rfl rfl) ?_
     refine Wl.q (v := Value.int .i64 t.n) (q_load sc_2 rfl (.cel (i := 2) rfl rfl)) ?_
     by_cases h12 : t.n = 0
     ·
      refine Wl.q (v := Value.bool true) (q_eql (r := true) rfl rfl (decide_eq_true h12)) ?_
      refine Wl.q (v := Value.bool true) (q_move rfl) ?_
      refine Wl.q (v := Value.bool true) (q_move rfl) ?_
      refine Wl.q (v := Value.bool true) (q_pick (t := true) rfl rfl) ?_
      refine Wl.q (v := Value.bool true) (q_move rfl) ?_
      refine Wl.q (v := Value.bool true) (q_move rfl) ?_
      refine Wl.q (v := Value.bool true) (q_pick (t := true) rfl rfl) ?_
      refine Wl.q (v := Value.bool true) (q_assign rfl) ?_
      refine Wl.done ?_
      refine Wx.go ?_
      refine Wc.ret ?_
      refine Wx.blockRet ?_
      refine Wx.thenRet ?_
      refine Wx.fin1 rfl (.inl rfl) (fun w hs => ?_)
      exact ⟨(), trivial, congrArg Value.bool (Eq.symm (decide_eq_true (by unfold MayP; omega))), (st_drop (st_pull [2] hs))⟩
     ·
      refine Wl.q (v := Value.bool false) (q_eql (r := false) rfl rfl (decide_eq_false h12)) ?_
      refine Wl.q (v := Value.bool false) (q_move rfl) ?_
      refine Wl.no ?_
      refine Wl.q (v := Value.bool false) (q_pick (t := false) rfl rfl) ?_
      refine Wl.q (v := Value.bool false) (q_move rfl) ?_
      refine Wl.no ?_
      refine Wl.q (v := Value.bool false) (q_pick (t := false) rfl rfl) ?_
      refine Wl.q (v := Value.bool false) (q_assign rfl) ?_
      refine Wl.done ?_
      refine Wx.go ?_
      refine Wc.ret ?_
      refine Wx.blockRet ?_
      refine Wx.thenRet ?_
      refine Wx.fin1 rfl (.inl rfl) (fun w hs => ?_)
      exact ⟨(), trivial, congrArg Value.bool (Eq.symm (decide_eq_false (by unfold MayP; omega))), (st_drop (st_pull [2] hs))⟩
    ·
     refine Wl.q (v := Value.bool false) (q_eql (r := false) rfl rfl (decide_eq_false h11)) ?_
     refine Wl.q (v := Value.bool false) (q_assign rfl) ?_
     refine Wl.done ?_
     refine Wx.go ?_
     refine Wc.no rfl ?_
     refine Wc.seq ?_
     refine Wc.region ?_
     by_cases h13 : ((t.kind : Nat) : Int) = 4
     ·
      refine Wl.q (v := Value.bool true) (q_eql (r := true) rfl rfl (decide_eq_true h13)) ?_
      refine Wl.q (v := Value.bool true) (q_assign rfl) ?_
      refine Wl.done ?_
      refine Wx.go ?_
      refine Wc.yes rfl ?_
      refine Wc.seq ?_
      refine Wc.region ?_
      refine Wl.q (v := Value.pointer (some ⟨b1, 1, none⟩)) (q_field (m := 1) fo_89_1 rfl rfl) ?_
      refine Wl.q (v := Value.int .i64 t.n) (q_load sc_2 rfl (.cel (i := 2) rfl rfl)) ?_
      by_cases h14 : t.n ≥ 0
      ·
       refine Wl.q (v := Value.bool true) (q_geq (r := true) rfl rfl (decide_eq_true h14)) ?_
       refine Wl.q (v := Value.bool true) (q_move rfl) ?_
       refine Wl.q (v := Value.bool true) (q_move rfl) ?_
       refine Wl.q (v := Value.bool true) (q_pick (t := true) rfl rfl) ?_
       refine Wl.q (v := Value.bool true) (q_move rfl) ?_
       refine Wl.q (v := Value.bool true) (q_move rfl) ?_
       refine Wl.q (v := Value.bool true) (q_move rfl) ?_
       refine Wl.no ?_
       refine Wl.no ?_
       refine Wl.no ?_
       refine Wl.q (v := Value.bool true) (q_pick (t := true) rfl rfl) ?_
       refine Wl.q (v := Value.bool true) (q_pick (t := true) rfl rfl) ?_
       refine Wl.q (v := Value.bool true) (q_assign rfl) ?_
       refine Wl.done ?_
       refine Wx.go ?_
       refine Wc.ret ?_
       refine Wx.blockRet ?_
       refine Wx.thenRet ?_
       refine Wx.fin1 rfl (.inl rfl) (fun w hs => ?_)
       exact ⟨(), trivial, congrArg Value.bool (Eq.symm (decide_eq_true (by unfold MayP; omega))), (st_drop (st_pull [2] hs))⟩
      ·
       refine Wl.q (v := Value.bool false) (q_geq (r := false) rfl rfl (decide_eq_false h14)) ?_
       refine Wl.q (v := Value.bool false) (q_move rfl) ?_
       refine Wl.no ?_
       refine Wl.q (v := Value.bool false) (q_pick (t := false) rfl rfl) ?_
       refine Wl.q (v := Value.bool false) (q_move rfl) ?_
       refine Wl.no ?_
       refine Wl.no ?_
       refine Wl.no ?_
       refine Wl.no ?_
       refine Wl.no ?_
       refine Wl.no ?_
       refine Wl.q (v := Value.bool false) (q_pick (t := false) rfl rfl) ?_
       refine Wl.q (v := Value.bool false) (q_assign rfl) ?_
       refine Wl.done ?_
       refine Wx.go ?_
       refine Wc.ret ?_
       refine Wx.blockRet ?_
       refine Wx.thenRet ?_
       refine Wx.fin1 rfl (.inl rfl) (fun w hs => ?_)
       exact ⟨(), trivial, congrArg Value.bool (Eq.symm (decide_eq_false (by unfold MayP; omega))), (st_drop (st_pull [2] hs))⟩
     ·
      refine Wl.q (v := Value.bool false) (q_eql (r := false) rfl rfl (decide_eq_false h13)) ?_
      refine Wl.q (v := Value.bool false) (q_assign rfl) ?_
      refine Wl.done ?_
      refine Wx.go ?_
      refine Wc.no rfl ?_
      refine Wc.seq ?_
      refine Wc.seq ?_
      refine Wc.region ?_
      by_cases h15 : ((t.kind : Nat) : Int) = 5
      ·
       refine Wl.q (v := Value.bool true) (q_eql (r := true) rfl rfl (decide_eq_true h15)) ?_
       refine Wl.q (v := Value.bool true) (q_assign rfl) ?_
       refine Wl.done ?_
       refine Wx.go ?_
       refine Wc.yes rfl ?_
       refine Wc.skip ?_
       refine Wx.go ?_
       refine Wc.yes rfl ?_
       refine Wc.seq ?_
       refine Wc.region ?_
       refine Wl.q (v := Value.pointer (some ⟨b1, 1, none⟩)) (q_field (m := 1) fo_89_1 rfl rfl) ?_
       refine Wl.q (v := Value.int .i64 t.n) (q_load sc_2 rfl (.cel (i := 2) rfl rfl)) ?_
       by_cases h16 : t.n = 0
       ·
        refine Wl.q (v := Value.bool true) (q_eql (r := true) rfl rfl (decide_eq_true h16)) ?_
        refine Wl.q (v := Value.bool true) (q_move rfl) ?_
        refine Wl.q (v := Value.bool true) (q_move rfl) ?_
        refine Wl.q (v := Value.bool true) (q_pick (t := true) rfl rfl) ?_
        refine Wl.q (v := Value.bool true) (q_move rfl) ?_
        refine Wl.q (v := Value.pointer (some ⟨b1, 3, none⟩)) (q_field (m := 3) fo_89_3 rfl rfl) ?_
        refine Wl.q (v := Value.int .i64 t.b) (q_load sc_3 rfl (.cel (i := 2) rfl rfl)) ?_
        by_cases h17 : t.b = 0
        ·
         refine Wl.q (v := Value.bool true) (q_eql (r := true) rfl rfl (decide_eq_true h17)) ?_
         refine Wl.q (v := Value.bool true) (q_pick (t := true) rfl rfl) ?_
         refine Wl.q (v := Value.bool true) (q_assign rfl) ?_
         refine Wl.done ?_
         refine Wx.go ?_
         refine Wc.ret ?_
         refine Wx.blockRet ?_
         refine Wx.thenRet ?_
         refine Wx.fin1 rfl (.inl rfl) (fun w hs => ?_)
         exact ⟨(), trivial, congrArg Value.bool (Eq.symm (decide_eq_true (by unfold MayP; omega))), (st_drop (st_pull [2] hs))⟩
        ·
         refine Wl.q (v := Value.bool false) (q_eql (r := false) rfl rfl (decide_eq_false h17)) ?_
         refine Wl.q (v := Value.bool false) (q_pick (t := true) rfl rfl) ?_
         refine Wl.q (v := Value.bool false) (q_assign rfl) ?_
         refine Wl.done ?_
         refine Wx.go ?_
         refine Wc.ret ?_
         refine Wx.blockRet ?_
         refine Wx.thenRet ?_
         refine Wx.fin1 rfl (.inl rfl) (fun w hs => ?_)
         exact ⟨(), trivial, congrArg Value.bool (Eq.symm (decide_eq_false (by unfold MayP; omega))), (st_drop (st_pull [2] hs))⟩
       ·
        refine Wl.q (v := Value.bool false) (q_eql (r := false) rfl rfl (decide_eq_false h16)) ?_
        refine Wl.q (v := Value.bool false) (q_move rfl) ?_
        refine Wl.no ?_
        refine Wl.q (v := Value.bool false) (q_pick (t := false) rfl rfl) ?_
        refine Wl.q (v := Value.bool false) (q_move rfl) ?_
        refine Wl.no ?_
        refine Wl.no ?_
        refine Wl.no ?_
        refine Wl.q (v := Value.bool false) (q_pick (t := false) rfl rfl) ?_
        refine Wl.q (v := Value.bool false) (q_assign rfl) ?_
        refine Wl.done ?_
        refine Wx.go ?_
        refine Wc.ret ?_
        refine Wx.blockRet ?_
        refine Wx.thenRet ?_
        refine Wx.fin1 rfl (.inl rfl) (fun w hs => ?_)
        exact ⟨(), trivial, congrArg Value.bool (Eq.symm (decide_eq_false (by unfold MayP; omega))), (st_drop (st_pull [2] hs))⟩
      ·
       refine Wl.q (v := Value.bool false) (q_eql (r := false) rfl rfl (decide_eq_false h15)) ?_
       refine Wl.q (v := Value.bool false) (q_assign rfl) ?_
       refine Wl.done ?_
       refine Wx.go ?_
       refine Wc.no rfl ?_
       refine Wc.region ?_
       by_cases h18 : ((t.kind : Nat) : Int) = 7
       ·
        refine Wl.q (v := Value.bool true) (q_eql (r := true) rfl rfl (decide_eq_true h18)) ?_
        refine Wl.q (v := Value.bool true) (q_assign rfl) ?_
        refine Wl.done ?_
        refine Wx.go ?_
        refine Wc.yes rfl ?_
        refine Wc.seq ?_
        refine Wc.region ?_
        refine Wl.q (v := Value.pointer (some ⟨b1, 1, none⟩)) (q_field (m := 1) fo_89_1 rfl rfl) ?_
        refine Wl.q (v := Value.int .i64 t.n) (q_load sc_2 rfl (.cel (i := 2) rfl rfl)) ?_
        by_cases h19 : t.n = 0
        ·
         refine Wl.q (v := Value.bool true) (q_eql (r := true) rfl rfl (decide_eq_true h19)) ?_
         refine Wl.q (v := Value.bool true) (q_move rfl) ?_
         refine Wl.q (v := Value.bool true) (q_move rfl) ?_
         refine Wl.q (v := Value.bool true) (q_pick (t := true) rfl rfl) ?_
         refine Wl.q (v := Value.bool true) (q_move rfl) ?_
         refine Wl.q (v := Value.pointer (some ⟨b1, 3, none⟩)) (q_field (m := 3) fo_89_3 rfl rfl) ?_
         refine Wl.q (v := Value.int .i64 t.b) (q_load sc_3 rfl (.cel (i := 2) rfl rfl)) ?_
         by_cases h20 : t.b = 0
         ·
          refine Wl.q (v := Value.bool true) (q_eql (r := true) rfl rfl (decide_eq_true h20)) ?_
          refine Wl.q (v := Value.bool true) (q_pick (t := true) rfl rfl) ?_
          refine Wl.q (v := Value.bool true) (q_assign rfl) ?_
          refine Wl.done ?_
          refine Wx.go ?_
          refine Wc.ret ?_
          refine Wx.blockRet ?_
          refine Wx.thenRet ?_
          refine Wx.fin1 rfl (.inl rfl) (fun w hs => ?_)
          exact ⟨(), trivial, congrArg Value.bool (Eq.symm (decide_eq_true (by unfold MayP; omega))), (st_drop (st_pull [2] hs))⟩
         ·
          refine Wl.q (v := Value.bool false) (q_eql (r := false) rfl rfl (decide_eq_false h20)) ?_
          refine Wl.q (v := Value.bool false) (q_pick (t := true) rfl rfl) ?_
          refine Wl.q (v := Value.bool false) (q_assign rfl) ?_
          refine Wl.done ?_
          refine Wx.go ?_
          refine Wc.ret ?_
          refine Wx.blockRet ?_
          refine Wx.thenRet ?_
          refine Wx.fin1 rfl (.inl rfl) (fun w hs => ?_)
          exact ⟨(), trivial, congrArg Value.bool (Eq.symm (decide_eq_false (by unfold MayP; omega))), (st_drop (st_pull [2] hs))⟩
        ·
         refine Wl.q (v := Value.bool false) (q_eql (r := false) rfl rfl (decide_eq_false h19)) ?_
         refine Wl.q (v := Value.bool false) (q_move rfl) ?_
         refine Wl.no ?_
         refine Wl.q (v := Value.bool false) (q_pick (t := false) rfl rfl) ?_
         refine Wl.q (v := Value.bool false) (q_move rfl) ?_
         refine Wl.no ?_
         refine Wl.no ?_
         refine Wl.no ?_
         refine Wl.q (v := Value.bool false) (q_pick (t := false) rfl rfl) ?_
         refine Wl.q (v := Value.bool false) (q_assign rfl) ?_
         refine Wl.done ?_
         refine Wx.go ?_
         refine Wc.ret ?_
         refine Wx.blockRet ?_
         refine Wx.thenRet ?_
         refine Wx.fin1 rfl (.inl rfl) (fun w hs => ?_)
         exact ⟨(), trivial, congrArg Value.bool (Eq.symm (decide_eq_false (by unfold MayP; omega))), (st_drop (st_pull [2] hs))⟩
       ·
        refine Wl.q (v := Value.bool false) (q_eql (r := false) rfl rfl (decide_eq_false h18)) ?_
        refine Wl.q (v := Value.bool false) (q_assign rfl) ?_
        refine Wl.done ?_
        refine Wx.go ?_
        refine Wc.no rfl ?_
        refine Wc.skip ?_
        refine Wx.blockEnd ?_
        refine Wx.go ?_
        refine Wc.seq ?_
        refine Wc.region ?_
        refine Wl.q (v := Value.bool false) (q_assign rfl) ?_
        refine Wl.done ?_
        refine Wx.go ?_
        refine Wc.ret ?_
        refine Wx.fin1 rfl (.inl rfl) (fun w hs => ?_)
        exact ⟨(), trivial, congrArg Value.bool (Eq.symm (decide_eq_false (by unfold MayP; omega))), (st_drop (st_pull [2] hs))⟩

set_option maxRecDepth 4000 in
theorem may_10 (W0 : World) (s : Nat) (v : Value) (mb m : Nat) (xs : List Value) (t : TermR) (ha : (1 ≤ t.a ∧ t.a ≤ (m : Int))) (hb : ¬ (1 ≤ t.b ∧ t.b ≤ (m : Int))) :
  Con Tryz.prog W0 133 #[Value.pointer (some ⟨s, 0, none⟩), Value.agg #[Value.int .u8 ((t.kind : Nat) : Int), Value.int .i64 t.n, Value.int .i64 t.a, Value.int .i64 t.b]] [pt s 116 [v, Value.map (some mb)], sl 89 4 v m xs] (X := Unit) (fun _ => True) (fun _ => .bool (may m t)) (fun _ => [pt s 116 [v, Value.map (some mb)], sl 89 4 v m xs]) := by
 refine Con.of (args := [Value.pointer (some ⟨s, 0, none⟩), Value.agg #[Value.int .u8 ((t.kind : Nat) : Int), Value.int .i64 t.n, Value.int .i64 t.a, Value.int .i64 t.b]]) Tryz.func133 rfl Tryz.ntmps133 rfl (fun F => ?_)
 show Wc _ W0 _ _ _ _ _ ((pt s 116 [v, Value.map (some mb)]) :: (sl 89 4 v m xs) :: F)
 refine Wc.seq ?_
 refine Wc.region ?_
 refine Wl.e (e_box (x := .tmp 1) (vs := [Value.int .u8 ((t.kind : Nat) : Int), Value.int .i64 t.n, Value.int .i64 t.a, Value.int .i64 t.b]) rfl) (fun b1 _ => ?_)
 refine Wl.imp (L' := (pt b1 89 [Value.int .u8 ((t.kind : Nat) : Int), Value.int .i64 t.n, Value.int .i64 t.a, Value.int .i64 t.b]) :: (pt s 116 [v, Value.map (some mb)]) :: (sl 89 4 v m xs) :: F) (fun _ h => h) ?_
 refine Wl.q (v := Value.bool false) (q_assign rfl) ?_
 refine Wl.done ?_
 refine Wx.go ?_
 refine Wc.seq ?_
 refine Wc.drawsS [] ((pt b1 89 [Value.int .u8 ((t.kind : Nat) : Int), Value.int .i64 t.n, Value.int .i64 t.a, Value.int .i64 t.b]) :: (pt s 116 [v, Value.map (some mb)]) :: (sl 89 4 v m xs) :: []) (by kernel_rfl) ?_
 refine Wr.pure (v := Value.pointer (some ⟨s, 0, none⟩)) 0 rfl (by kernel_rfl) (.inr (fun _ h => st_take [0, 0, 0] h)) (.inl ⟨rfl, fun _ => q_move rfl⟩) ?_
 refine Wr.pure (v := Value.pointer (some ⟨b1, 2, none⟩)) 1 rfl (by kernel_rfl) (.inr (fun _ h => st_take [0, 0, 0] h)) (.inl ⟨rfl, fun _ => q_field (m := 2) fo_89_2 rfl rfl⟩) ?_
 refine Wr.take (v := Value.int .i64 t.a) 2 rfl (by kernel_rfl) (fun _ h => st_take [0, 0, 0] h) (.inl ⟨rfl, q_load sc_3 rfl (.cel (i := 0) rfl rfl)⟩) ?_
 refine Wr.pure (v := Value.pointer (some ⟨s, 0, none⟩)) 4 rfl (by kernel_rfl) (.inr (fun _ h => st_take [0, 0, 0] h)) (.inl ⟨rfl, fun _ => q_move rfl⟩) ?_
 refine Wr.pure (v := Value.pointer (some ⟨b1, 3, none⟩)) 5 rfl (by kernel_rfl) (.inr (fun _ h => st_take [0, 0, 0] h)) (.inl ⟨rfl, fun _ => q_field (m := 3) fo_89_3 rfl rfl⟩) ?_
 refine Wr.take (v := Value.int .i64 t.b) 6 rfl (by kernel_rfl) (fun _ h => st_take [0, 0, 0] h) (.inl ⟨rfl, q_load sc_3 rfl (.cel (i := 0) rfl rfl)⟩) ?_
 refine Wr.imp (L' := (pt s 116 [v, Value.map (some mb)]) :: (sl 89 4 v m xs) :: (pt b1 89 [Value.int .u8 ((t.kind : Nat) : Int), Value.int .i64 t.n, Value.int .i64 t.a, Value.int .i64 t.b]) :: F) (fun _ h => st_pull [1, 1] h) ?_
 refine Wr.e 3 (by kernel_rfl) rfl (e_call (F := (pt b1 89 [Value.int .u8 ((t.kind : Nat) : Int), Value.int .i64 t.n, Value.int .i64 t.a, Value.int .i64 t.b]) :: F) (args := [Value.pointer (some ⟨s, 0, none⟩), Value.int .i64 t.a]) Tryz.call143 rfl (there_yes W0 s (v) mb m xs t.a ha)) (.inr fun _ _ _ h => st_take [2, 0, 0] h) (fun _ _ => ?_)
 refine Wr.imp (L' := (pt s 116 [v, Value.map (some mb)]) :: (sl 89 4 v m xs) :: (pt b1 89 [Value.int .u8 ((t.kind : Nat) : Int), Value.int .i64 t.n, Value.int .i64 t.a, Value.int .i64 t.b]) :: F) (fun _ h => h) ?_
 refine Wr.e 7 (by kernel_rfl) rfl (e_call (F := (pt b1 89 [Value.int .u8 ((t.kind : Nat) : Int), Value.int .i64 t.n, Value.int .i64 t.a, Value.int .i64 t.b]) :: F) (args := [Value.pointer (some ⟨s, 0, none⟩), Value.int .i64 t.b]) Tryz.call143 rfl (there_no W0 s (v) mb m xs t.b hb)) (.inr fun _ _ _ h => st_take [2, 0, 0] h) (fun _ _ => ?_)
 refine Wr.imp (L' := (pt s 116 [v, Value.map (some mb)]) :: (sl 89 4 v m xs) :: (pt b1 89 [Value.int .u8 ((t.kind : Nat) : Int), Value.int .i64 t.n, Value.int .i64 t.a, Value.int .i64 t.b]) :: F) (fun _ h => h) ?_
 refine Wr.pure (v := Value.bool true) 8 rfl (by kernel_rfl) (.inr (fun _ h => st_take [2, 0, 0] h)) (.inl ⟨rfl, fun _ => q_assign rfl⟩) ?_
 refine Wr.pure (v := Value.bool false) 9 rfl (by kernel_rfl) (.inr (fun _ h => st_take [2, 0, 0] h)) (.inl ⟨rfl, fun _ => q_assign rfl⟩) ?_
 refine Wr.done (by kernel_rfl) ?_
 refine Wx.go ?_
 refine Wc.seq ?_
 refine Wc.seq ?_
 refine Wc.region ?_
 refine Wl.q (v := Value.pointer (some ⟨b1, 0, none⟩)) (q_field (m := 0) fo_89_0 rfl rfl) ?_
 refine Wl.q (v := Value.int .u8 ((t.kind : Nat) : Int)) (q_load sc_87 rfl (.cel (i := 2) rfl rfl)) ?_
 refine Wl.done ?_
 refine Wx.go ?_
 refine Wc.block ?_
 refine Wc.seq ?_
 refine Wc.region ?_
 by_cases h2 : ((t.kind : Nat) : Int) = 1
 ·
  refine Wl.q (v := Value.bool true) (q_eql (r := true) rfl rfl (decide_eq_true h2)) ?_
  refine Wl.q (v := Value.bool true) (q_assign rfl) ?_
  refine Wl.done ?_
  refine Wx.go ?_
  refine Wc.yes rfl ?_
  refine Wc.seq ?_
  refine Wc.region ?_
  refine Wl.q (v := Value.pointer (some ⟨b1, 1, none⟩)) (q_field (m := 1) fo_89_1 rfl rfl) ?_
  refine Wl.q (v := Value.int .i64 t.n) (q_load sc_2 rfl (.cel (i := 2) rfl rfl)) ?_
  by_cases h3 : t.n ≥ 0
  ·
   refine Wl.q (v := Value.bool true) (q_geq (r := true) rfl rfl (decide_eq_true h3)) ?_
   refine Wl.q (v := Value.bool true) (q_move rfl) ?_
   refine Wl.q (v := Value.pointer (some ⟨b1, 2, none⟩)) (q_field (m := 2) fo_89_2 rfl rfl) ?_
   refine Wl.q (v := Value.int .i64 t.a) (q_load sc_3 rfl (.cel (i := 2) rfl rfl)) ?_
   by_cases h4 : t.a = 0
   ·
    refine Wl.q (v := Value.bool true) (q_eql (r := true) rfl rfl (decide_eq_true h4)) ?_
    refine Wl.q (v := Value.bool true) (q_pick (t := true) rfl rfl) ?_
    refine Wl.q (v := Value.bool true) (q_move rfl) ?_
    refine Wl.q (v := Value.pointer (some ⟨b1, 3, none⟩)) (q_field (m := 3) fo_89_3 rfl rfl) ?_
    refine Wl.q (v := Value.int .i64 t.b) (q_load sc_3 rfl (.cel (i := 2) rfl rfl)) ?_
    by_cases h5 : t.b = 0
    ·
     refine Wl.q (v := Value.bool true) (q_eql (r := true) rfl rfl (decide_eq_true h5)) ?_
     refine Wl.q (v := Value.bool true) (q_pick (t := true) rfl rfl) ?_
     refine Wl.q (v := Value.bool true) (q_assign rfl) ?_
     refine Wl.done ?_
     refine Wx.go ?_
     refine Wc.ret ?_
     refine Wx.blockRet ?_
     refine Wx.thenRet ?_
     refine Wx.fin1 rfl (.inl rfl) (fun w hs => ?_)
     exact ⟨(), trivial, congrArg Value.bool (Eq.symm (decide_eq_true (by unfold MayP; omega))), (st_drop (st_pull [2] hs))⟩
    ·
     refine Wl.q (v := Value.bool false) (q_eql (r := false) rfl rfl (decide_eq_false h5)) ?_
     refine Wl.q (v := Value.bool false) (q_pick (t := true) rfl rfl) ?_
     refine Wl.q (v := Value.bool false) (q_assign rfl) ?_
     refine Wl.done ?_
     refine Wx.go ?_
     refine Wc.ret ?_
     refine Wx.blockRet ?_
     refine Wx.thenRet ?_
     refine Wx.fin1 rfl (.inl rfl) (fun w hs => ?_)
     exact ⟨(), trivial, congrArg Value.bool (Eq.symm (decide_eq_false (by unfold MayP; omega))), (st_drop (st_pull [2] hs))⟩
   ·
    refine Wl.q (v := Value.bool false) (q_eql (r := false) rfl rfl (decide_eq_false h4)) ?_
    refine Wl.q (v := Value.bool false) (q_pick (t := true) rfl rfl) ?_
    refine Wl.q (v := Value.bool false) (q_move rfl) ?_
    refine Wl.no ?_
    refine Wl.no ?_
    refine Wl.no ?_
    refine Wl.q (v := Value.bool false) (q_pick (t := false) rfl rfl) ?_
    refine Wl.q (v := Value.bool false) (q_assign rfl) ?_
    refine Wl.done ?_
    refine Wx.go ?_
    refine Wc.ret ?_
    refine Wx.blockRet ?_
    refine Wx.thenRet ?_
    refine Wx.fin1 rfl (.inl rfl) (fun w hs => ?_)
    exact ⟨(), trivial, congrArg Value.bool (Eq.symm (decide_eq_false (by unfold MayP; omega))), (st_drop (st_pull [2] hs))⟩
  ·
   refine Wl.q (v := Value.bool false) (q_geq (r := false) rfl rfl (decide_eq_false h3)) ?_
   refine Wl.q (v := Value.bool false) (q_move rfl) ?_
   refine Wl.no ?_
   refine Wl.no ?_
   refine Wl.no ?_
   refine Wl.q (v := Value.bool false) (q_pick (t := false) rfl rfl) ?_
   refine Wl.q (v := Value.bool false) (q_move rfl) ?_
   refine Wl.no ?_
   refine Wl.no ?_
   refine Wl.no ?_
   refine Wl.q (v := Value.bool false) (q_pick (t := false) rfl rfl) ?_
   refine Wl.q (v := Value.bool false) (q_assign rfl) ?_
   refine Wl.done ?_
   refine Wx.go ?_
   refine Wc.ret ?_
   refine Wx.blockRet ?_
   refine Wx.thenRet ?_
   refine Wx.fin1 rfl (.inl rfl) (fun w hs => ?_)
   exact ⟨(), trivial, congrArg Value.bool (Eq.symm (decide_eq_false (by unfold MayP; omega))), (st_drop (st_pull [2] hs))⟩
 ·
  refine Wl.q (v := Value.bool false) (q_eql (r := false) rfl rfl (decide_eq_false h2)) ?_
  refine Wl.q (v := Value.bool false) (q_assign rfl) ?_
  refine Wl.done ?_
  refine Wx.go ?_
  refine Wc.no rfl ?_
  refine Wc.seq ?_
  refine Wc.region ?_
  by_cases h6 : ((t.kind : Nat) : Int) = 2
  ·
   refine Wl.q (v := Value.bool true) (q_eql (r := true) rfl rfl (decide_eq_true h6)) ?_
   refine Wl.q (v := Value.bool true) (q_assign rfl) ?_
   refine Wl.done ?_
   refine Wx.go ?_
   refine Wc.yes rfl ?_
   refine Wc.seq ?_
   refine Wc.region ?_
   refine Wl.q (v := Value.pointer (some ⟨b1, 2, none⟩)) (q_field (m := 2) fo_89_2 rfl rfl) ?_
   refine Wl.q (v := Value.int .i64 t.a) (q_load sc_3 rfl (.cel (i := 2) rfl rfl)) ?_
   by_cases h7 : t.a = 0
   ·
    refine Wl.q (v := Value.bool true) (q_eql (r := true) rfl rfl (decide_eq_true h7)) ?_
    refine Wl.q (v := Value.bool true) (q_move rfl) ?_
    refine Wl.q (v := Value.pointer (some ⟨b1, 3, none⟩)) (q_field (m := 3) fo_89_3 rfl rfl) ?_
    refine Wl.q (v := Value.int .i64 t.b) (q_load sc_3 rfl (.cel (i := 2) rfl rfl)) ?_
    by_cases h8 : t.b = 0
    ·
     refine Wl.q (v := Value.bool true) (q_eql (r := true) rfl rfl (decide_eq_true h8)) ?_
     refine Wl.q (v := Value.bool true) (q_pick (t := true) rfl rfl) ?_
     refine Wl.q (v := Value.bool true) (q_assign rfl) ?_
     refine Wl.done ?_
     refine Wx.go ?_
     refine Wc.ret ?_
     refine Wx.blockRet ?_
     refine Wx.thenRet ?_
     refine Wx.fin1 rfl (.inl rfl) (fun w hs => ?_)
     exact ⟨(), trivial, congrArg Value.bool (Eq.symm (decide_eq_true (by unfold MayP; omega))), (st_drop (st_pull [2] hs))⟩
    ·
     refine Wl.q (v := Value.bool false) (q_eql (r := false) rfl rfl (decide_eq_false h8)) ?_
     refine Wl.q (v := Value.bool false) (q_pick (t := true) rfl rfl) ?_
     refine Wl.q (v := Value.bool false) (q_assign rfl) ?_
     refine Wl.done ?_
     refine Wx.go ?_
     refine Wc.ret ?_
     refine Wx.blockRet ?_
     refine Wx.thenRet ?_
     refine Wx.fin1 rfl (.inl rfl) (fun w hs => ?_)
     exact ⟨(), trivial, congrArg Value.bool (Eq.symm (decide_eq_false (by unfold MayP; omega))), (st_drop (st_pull [2] hs))⟩
   ·
    refine Wl.q (v := Value.bool false) (q_eql (r := false) rfl rfl (decide_eq_false h7)) ?_
    refine Wl.q (v := Value.bool false) (q_move rfl) ?_
    refine Wl.no ?_
    refine Wl.no ?_
    refine Wl.no ?_
    refine Wl.q (v := Value.bool false) (q_pick (t := false) rfl rfl) ?_
    refine Wl.q (v := Value.bool false) (q_assign rfl) ?_
    refine Wl.done ?_
    refine Wx.go ?_
    refine Wc.ret ?_
    refine Wx.blockRet ?_
    refine Wx.thenRet ?_
    refine Wx.fin1 rfl (.inl rfl) (fun w hs => ?_)
    exact ⟨(), trivial, congrArg Value.bool (Eq.symm (decide_eq_false (by unfold MayP; omega))), (st_drop (st_pull [2] hs))⟩
  ·
   refine Wl.q (v := Value.bool false) (q_eql (r := false) rfl rfl (decide_eq_false h6)) ?_
   refine Wl.q (v := Value.bool false) (q_assign rfl) ?_
   refine Wl.done ?_
   refine Wx.go ?_
   refine Wc.no rfl ?_
   refine Wc.seq ?_
   refine Wc.seq ?_
   refine Wc.region ?_
   by_cases h9 : ((t.kind : Nat) : Int) = 3
   ·
    refine Wl.q (v := Value.bool true) (q_eql (r := true) rfl rfl (decide_eq_true h9)) ?_
    refine Wl.q (v := Value.bool true) (q_assign rfl) ?_
    refine Wl.done ?_
    refine Wx.go ?_
    refine Wc.yes rfl ?_
    refine Wc.skip ?_
    refine Wx.go ?_
    refine Wc.yes rfl ?_
    refine Wc.seq ?_
    refine Wc.region ?_
    refine Wl.q (v := Value.pointer (some ⟨b1, 1, none⟩)) (q_field (m := 1) fo_89_1 rfl rfl) ?_
    refine Wl.q (v := Value.int .i64 t.n) (q_load sc_2 rfl (.cel (i := 2) rfl rfl)) ?_
    by_cases h10 : t.n = 0
    ·
     refine Wl.q (v := Value.bool true) (q_eql (r := true) rfl rfl (decide_eq_true h10)) ?_
     refine Wl.q (v := Value.bool true) (q_move rfl) ?_
     refine Wl.q (v := Value.bool true) (q_move rfl) ?_
     refine Wl.q (v := Value.bool true) (q_pick (t := true) rfl rfl) ?_
     refine Wl.q (v := Value.bool true) (q_move rfl) ?_
     refine Wl.q (v := Value.bool false) (q_move rfl) ?_
     refine Wl.q (v := Value.bool false) (q_pick (t := true) rfl rfl) ?_
     refine Wl.q (v := Value.bool false) (q_assign rfl) ?_
     refine Wl.done ?_
     refine Wx.go ?_
     refine Wc.ret ?_
     refine Wx.blockRet ?_
     refine Wx.thenRet ?_
     refine Wx.fin1 rfl (.inl rfl) (fun w hs => ?_)
     exact ⟨(), trivial, congrArg Value.bool (Eq.symm (decide_eq_false (by unfold MayP; omega))), (st_drop (st_pull [2] hs))⟩
    ·
     refine Wl.q (v := Value.bool false) (q_eql (r := false) rfl rfl (decide_eq_false h10)) ?_
     refine Wl.q (v := Value.bool false) (q_move rfl) ?_
     refine Wl.no ?_
     refine Wl.q (v := Value.bool false) (q_pick (t := false) rfl rfl) ?_
     refine Wl.q (v := Value.bool false) (q_move rfl) ?_
     refine Wl.no ?_
     refine Wl.q (v := Value.bool false) (q_pick (t := false) rfl rfl) ?_
     refine Wl.q (v := Value.bool false) (q_assign rfl) ?_
     refine Wl.done ?_
     refine Wx.go ?_
     refine Wc.ret ?_
     refine Wx.blockRet ?_
     refine Wx.thenRet ?_
     refine Wx.fin1 rfl (.inl rfl) (fun w hs => ?_)
     exact ⟨(), trivial, congrArg Value.bool (Eq.symm (decide_eq_false (by unfold MayP; omega))), (st_drop (st_pull [2] hs))⟩
   ·
    refine Wl.q (v := Value.bool false) (q_eql (r := false) rfl rfl (decide_eq_false h9)) ?_
    refine Wl.q (v := Value.bool false) (q_assign rfl) ?_
    refine Wl.done ?_
    refine Wx.go ?_
    refine Wc.no rfl ?_
    refine Wc.region ?_
    by_cases h11 : ((t.kind : Nat) : Int) = 6
    ·
     refine Wl.q (v := Value.bool true) (q_eql (r := true) rfl rfl (decide_eq_true h11)) ?_
     refine Wl.q (v := Value.bool true) (q_assign rfl) ?_
     refine Wl.done ?_
     refine Wx.go ?_
     refine Wc.yes rfl ?_
     refine Wc.seq ?_
     refine Wc.region ?_
     refine Wl.q (v := Value.pointer (some ⟨b1, 1, none⟩)) (q_field (m := 1) fo_89_1 rfl rfl) ?_
     refine Wl.q (v := Value.int .i64 t.n) (q_load sc_2 rfl (.cel (i := 2) rfl rfl)) ?_
     by_cases h12 : t.n = 0
     ·
      refine Wl.q (v := Value.bool true) (q_eql (r := true) rfl rfl (decide_eq_true h12)) ?_
      refine Wl.q (v := Value.bool true) (q_move rfl) ?_
      refine Wl.q (v := Value.bool true) (q_move rfl) ?_
      refine Wl.q (v := Value.bool true) (q_pick (t := true) rfl rfl) ?_
      refine Wl.q (v := Value.bool true) (q_move rfl) ?_
      refine Wl.q (v := Value.bool false) (q_move rfl) ?_
      refine Wl.q (v := Value.bool false) (q_pick (t := true) rfl rfl) ?_
      refine Wl.q (v := Value.bool false) (q_assign rfl) ?_
      refine Wl.done ?_
      refine Wx.go ?_
      refine Wc.ret ?_
      refine Wx.blockRet ?_
      refine Wx.thenRet ?_
      refine Wx.fin1 rfl (.inl rfl) (fun w hs => ?_)
      exact ⟨(), trivial, congrArg Value.bool (Eq.symm (decide_eq_false (by unfold MayP; omega))), (st_drop (st_pull [2] hs))⟩
     ·
      refine Wl.q (v := Value.bool false) (q_eql (r := false) rfl rfl (decide_eq_false h12)) ?_
      refine Wl.q (v := Value.bool false) (q_move rfl) ?_
      refine Wl.no ?_
      refine Wl.q (v := Value.bool false) (q_pick (t := false) rfl rfl) ?_
      refine Wl.q (v := Value.bool false) (q_move rfl) ?_
      refine Wl.no ?_
      refine Wl.q (v := Value.bool false) (q_pick (t := false) rfl rfl) ?_
      refine Wl.q (v := Value.bool false) (q_assign rfl) ?_
      refine Wl.done ?_
      refine Wx.go ?_
      refine Wc.ret ?_
      refine Wx.blockRet ?_
      refine Wx.thenRet ?_
      refine Wx.fin1 rfl (.inl rfl) (fun w hs => ?_)
      exact ⟨(), trivial, congrArg Value.bool (Eq.symm (decide_eq_false (by unfold MayP; omega))), (st_drop (st_pull [2] hs))⟩
    ·
     refine Wl.q (v := Value.bool false) (q_eql (r := false) rfl rfl (decide_eq_false h11)) ?_
     refine Wl.q (v := Value.bool false) (q_assign rfl) ?_
     refine Wl.done ?_
     refine Wx.go ?_
     refine Wc.no rfl ?_
     refine Wc.seq ?_
     refine Wc.region ?_
     by_cases h13 : ((t.kind : Nat) : Int) = 4
     ·
      refine Wl.q (v := Value.bool true) (q_eql (r := true) rfl rfl (decide_eq_true h13)) ?_
      refine Wl.q (v := Value.bool true) (q_assign rfl) ?_
      refine Wl.done ?_
      refine Wx.go ?_
      refine Wc.yes rfl ?_
      refine Wc.seq ?_
      refine Wc.region ?_
      refine Wl.q (v := Value.pointer (some ⟨b1, 1, none⟩)) (q_field (m := 1) fo_89_1 rfl rfl) ?_
      refine Wl.q (v := Value.int .i64 t.n) (q_load sc_2 rfl (.cel (i := 2) rfl rfl)) ?_
      by_cases h14 : t.n ≥ 0
      ·
       refine Wl.q (v := Value.bool true) (q_geq (r := true) rfl rfl (decide_eq_true h14)) ?_
       refine Wl.q (v := Value.bool true) (q_move rfl) ?_
       refine Wl.q (v := Value.bool true) (q_move rfl) ?_
       refine Wl.q (v := Value.bool true) (q_pick (t := true) rfl rfl) ?_
       refine Wl.q (v := Value.bool true) (q_move rfl) ?_
       refine Wl.q (v := Value.bool false) (q_move rfl) ?_
       refine Wl.q (v := Value.bool false) (q_move rfl) ?_
       refine Wl.q (v := Value.pointer (some ⟨b1, 3, none⟩)) (q_field (m := 3) fo_89_3 rfl rfl) ?_
       refine Wl.q (v := Value.int .i64 t.b) (q_load sc_3 rfl (.cel (i := 2) rfl rfl)) ?_
       by_cases h15 : t.b = 0
       ·
        refine Wl.q (v := Value.bool true) (q_eql (r := true) rfl rfl (decide_eq_true h15)) ?_
        refine Wl.q (v := Value.bool true) (q_pick (t := false) rfl rfl) ?_
        refine Wl.q (v := Value.bool true) (q_pick (t := true) rfl rfl) ?_
        refine Wl.q (v := Value.bool true) (q_assign rfl) ?_
        refine Wl.done ?_
        refine Wx.go ?_
        refine Wc.ret ?_
        refine Wx.blockRet ?_
        refine Wx.thenRet ?_
        refine Wx.fin1 rfl (.inl rfl) (fun w hs => ?_)
        exact ⟨(), trivial, congrArg Value.bool (Eq.symm (decide_eq_true (by unfold MayP; omega))), (st_drop (st_pull [2] hs))⟩
       ·
        refine Wl.q (v := Value.bool false) (q_eql (r := false) rfl rfl (decide_eq_false h15)) ?_
        refine Wl.q (v := Value.bool false) (q_pick (t := false) rfl rfl) ?_
        refine Wl.q (v := Value.bool false) (q_pick (t := true) rfl rfl) ?_
        refine Wl.q (v := Value.bool false) (q_assign rfl) ?_
        refine Wl.done ?_
        refine Wx.go ?_
        refine Wc.ret ?_
        refine Wx.blockRet ?_
        refine Wx.thenRet ?_
        refine Wx.fin1 rfl (.inl rfl) (fun w hs => ?_)
        exact ⟨(), trivial, congrArg Value.bool (Eq.symm (decide_eq_false (by unfold MayP; omega))), (st_drop (st_pull [2] hs))⟩
      ·
       refine Wl.q (v := Value.bool false) (q_geq (r := false) rfl rfl (decide_eq_false h14)) ?_
       refine Wl.q (v := Value.bool false) (q_move rfl) ?_
       refine Wl.no ?_
       refine Wl.q (v := Value.bool false) (q_pick (t := false) rfl rfl) ?_
       refine Wl.q (v := Value.bool false) (q_move rfl) ?_
       refine Wl.no ?_
       refine Wl.no ?_
       refine Wl.no ?_
       refine Wl.no ?_
       refine Wl.no ?_
       refine Wl.no ?_
       refine Wl.q (v := Value.bool false) (q_pick (t := false) rfl rfl) ?_
       refine Wl.q (v := Value.bool false) (q_assign rfl) ?_
       refine Wl.done ?_
       refine Wx.go ?_
       refine Wc.ret ?_
       refine Wx.blockRet ?_
       refine Wx.thenRet ?_
       refine Wx.fin1 rfl (.inl rfl) (fun w hs => ?_)
       exact ⟨(), trivial, congrArg Value.bool (Eq.symm (decide_eq_false (by unfold MayP; omega))), (st_drop (st_pull [2] hs))⟩
     ·
      refine Wl.q (v := Value.bool false) (q_eql (r := false) rfl rfl (decide_eq_false h13)) ?_
      refine Wl.q (v := Value.bool false) (q_assign rfl) ?_
      refine Wl.done ?_
      refine Wx.go ?_
      refine Wc.no rfl ?_
      refine Wc.seq ?_
      refine Wc.seq ?_
      refine Wc.region ?_
      by_cases h16 : ((t.kind : Nat) : Int) = 5
      ·
       refine Wl.q (v := Value.bool true) (q_eql (r := true) rfl rfl (decide_eq_true h16)) ?_
       refine Wl.q (v := Value.bool true) (q_assign rfl) ?_
       refine Wl.done ?_
       refine Wx.go ?_
       refine Wc.yes rfl ?_
       refine Wc.skip ?_
       refine Wx.go ?_
       refine Wc.yes rfl ?_
       refine Wc.seq ?_
       refine Wc.region ?_
       refine Wl.q (v := Value.pointer (some ⟨b1, 1, none⟩)) (q_field (m := 1) fo_89_1 rfl rfl) ?_
       refine Wl.q (v := Value.int .i64 t.n) (q_load sc_2 rfl (.cel (i := 2) rfl rfl)) ?_
       by_cases h17 : t.n = 0
       ·
        refine Wl.q (v := Value.bool true) (q_eql (r := true) rfl rfl (decide_eq_true h17)) ?_
        refine Wl.q (v := Value.bool true) (q_move rfl) ?_
        refine Wl.q (v := Value.bool true) (q_move rfl) ?_
        refine Wl.q (v := Value.bool true) (q_pick (t := true) rfl rfl) ?_
        refine Wl.q (v := Value.bool true) (q_move rfl) ?_
        refine Wl.q (v := Value.pointer (some ⟨b1, 3, none⟩)) (q_field (m := 3) fo_89_3 rfl rfl) ?_
        refine Wl.q (v := Value.int .i64 t.b) (q_load sc_3 rfl (.cel (i := 2) rfl rfl)) ?_
        by_cases h18 : t.b = 0
        ·
         refine Wl.q (v := Value.bool true) (q_eql (r := true) rfl rfl (decide_eq_true h18)) ?_
         refine Wl.q (v := Value.bool true) (q_pick (t := true) rfl rfl) ?_
         refine Wl.q (v := Value.bool true) (q_assign rfl) ?_
         refine Wl.done ?_
         refine Wx.go ?_
         refine Wc.ret ?_
         refine Wx.blockRet ?_
         refine Wx.thenRet ?_
         refine Wx.fin1 rfl (.inl rfl) (fun w hs => ?_)
         exact ⟨(), trivial, congrArg Value.bool (Eq.symm (decide_eq_true (by unfold MayP; omega))), (st_drop (st_pull [2] hs))⟩
        ·
         refine Wl.q (v := Value.bool false) (q_eql (r := false) rfl rfl (decide_eq_false h18)) ?_
         refine Wl.q (v := Value.bool false) (q_pick (t := true) rfl rfl) ?_
         refine Wl.q (v := Value.bool false) (q_assign rfl) ?_
         refine Wl.done ?_
         refine Wx.go ?_
         refine Wc.ret ?_
         refine Wx.blockRet ?_
         refine Wx.thenRet ?_
         refine Wx.fin1 rfl (.inl rfl) (fun w hs => ?_)
         exact ⟨(), trivial, congrArg Value.bool (Eq.symm (decide_eq_false (by unfold MayP; omega))), (st_drop (st_pull [2] hs))⟩
       ·
        refine Wl.q (v := Value.bool false) (q_eql (r := false) rfl rfl (decide_eq_false h17)) ?_
        refine Wl.q (v := Value.bool false) (q_move rfl) ?_
        refine Wl.no ?_
        refine Wl.q (v := Value.bool false) (q_pick (t := false) rfl rfl) ?_
        refine Wl.q (v := Value.bool false) (q_move rfl) ?_
        refine Wl.no ?_
        refine Wl.no ?_
        refine Wl.no ?_
        refine Wl.q (v := Value.bool false) (q_pick (t := false) rfl rfl) ?_
        refine Wl.q (v := Value.bool false) (q_assign rfl) ?_
        refine Wl.done ?_
        refine Wx.go ?_
        refine Wc.ret ?_
        refine Wx.blockRet ?_
        refine Wx.thenRet ?_
        refine Wx.fin1 rfl (.inl rfl) (fun w hs => ?_)
        exact ⟨(), trivial, congrArg Value.bool (Eq.symm (decide_eq_false (by unfold MayP; omega))), (st_drop (st_pull [2] hs))⟩
      ·
       refine Wl.q (v := Value.bool false) (q_eql (r := false) rfl rfl (decide_eq_false h16)) ?_
       refine Wl.q (v := Value.bool false) (q_assign rfl) ?_
       refine Wl.done ?_
       refine Wx.go ?_
       refine Wc.no rfl ?_
       refine Wc.region ?_
       by_cases h19 : ((t.kind : Nat) : Int) = 7
       ·
        refine Wl.q (v := Value.bool true) (q_eql (r := true) rfl rfl (decide_eq_true h19)) ?_
        refine Wl.q (v := Value.bool true) (q_assign rfl) ?_
        refine Wl.done ?_
        refine Wx.go ?_
        refine Wc.yes rfl ?_
        refine Wc.seq ?_
        refine Wc.region ?_
        refine Wl.q (v := Value.pointer (some ⟨b1, 1, none⟩)) (q_field (m := 1) fo_89_1 rfl rfl) ?_
        refine Wl.q (v := Value.int .i64 t.n) (q_load sc_2 rfl (.cel (i := 2) rfl rfl)) ?_
        by_cases h20 : t.n = 0
        ·
         refine Wl.q (v := Value.bool true) (q_eql (r := true) rfl rfl (decide_eq_true h20)) ?_
         refine Wl.q (v := Value.bool true) (q_move rfl) ?_
         refine Wl.q (v := Value.bool true) (q_move rfl) ?_
         refine Wl.q (v := Value.bool true) (q_pick (t := true) rfl rfl) ?_
         refine Wl.q (v := Value.bool true) (q_move rfl) ?_
         refine Wl.q (v := Value.pointer (some ⟨b1, 3, none⟩)) (q_field (m := 3) fo_89_3 rfl rfl) ?_
         refine Wl.q (v := Value.int .i64 t.b) (q_load sc_3 rfl (.cel (i := 2) rfl rfl)) ?_
         by_cases h21 : t.b = 0
         ·
          refine Wl.q (v := Value.bool true) (q_eql (r := true) rfl rfl (decide_eq_true h21)) ?_
          refine Wl.q (v := Value.bool true) (q_pick (t := true) rfl rfl) ?_
          refine Wl.q (v := Value.bool true) (q_assign rfl) ?_
          refine Wl.done ?_
          refine Wx.go ?_
          refine Wc.ret ?_
          refine Wx.blockRet ?_
          refine Wx.thenRet ?_
          refine Wx.fin1 rfl (.inl rfl) (fun w hs => ?_)
          exact ⟨(), trivial, congrArg Value.bool (Eq.symm (decide_eq_true (by unfold MayP; omega))), (st_drop (st_pull [2] hs))⟩
         ·
          refine Wl.q (v := Value.bool false) (q_eql (r := false) rfl rfl (decide_eq_false h21)) ?_
          refine Wl.q (v := Value.bool false) (q_pick (t := true) rfl rfl) ?_
          refine Wl.q (v := Value.bool false) (q_assign rfl) ?_
          refine Wl.done ?_
          refine Wx.go ?_
          refine Wc.ret ?_
          refine Wx.blockRet ?_
          refine Wx.thenRet ?_
          refine Wx.fin1 rfl (.inl rfl) (fun w hs => ?_)
          exact ⟨(), trivial, congrArg Value.bool (Eq.symm (decide_eq_false (by unfold MayP; omega))), (st_drop (st_pull [2] hs))⟩
        ·
         refine Wl.q (v := Value.bool false) (q_eql (r := false) rfl rfl (decide_eq_false h20)) ?_
         refine Wl.q (v := Value.bool false) (q_move rfl) ?_
         refine Wl.no ?_
         refine Wl.q (v := Value.bool false) (q_pick (t := false) rfl rfl) ?_
         refine Wl.q (v := Value.bool false) (q_move rfl) ?_
         refine Wl.no ?_
         refine Wl.no ?_
         refine Wl.no ?_
         refine Wl.q (v := Value.bool false) (q_pick (t := false) rfl rfl) ?_
         refine Wl.q (v := Value.bool false) (q_assign rfl) ?_
         refine Wl.done ?_
         refine Wx.go ?_
         refine Wc.ret ?_
         refine Wx.blockRet ?_
         refine Wx.thenRet ?_
         refine Wx.fin1 rfl (.inl rfl) (fun w hs => ?_)
         exact ⟨(), trivial, congrArg Value.bool (Eq.symm (decide_eq_false (by unfold MayP; omega))), (st_drop (st_pull [2] hs))⟩
       ·
        refine Wl.q (v := Value.bool false) (q_eql (r := false) rfl rfl (decide_eq_false h19)) ?_
        refine Wl.q (v := Value.bool false) (q_assign rfl) ?_
        refine Wl.done ?_
        refine Wx.go ?_
        refine Wc.no rfl ?_
        refine Wc.skip ?_
        refine Wx.blockEnd ?_
        refine Wx.go ?_
        refine Wc.seq ?_
        refine Wc.region ?_
        refine Wl.q (v := Value.bool false) (q_assign rfl) ?_
        refine Wl.done ?_
        refine Wx.go ?_
        refine Wc.ret ?_
        refine Wx.fin1 rfl (.inl rfl) (fun w hs => ?_)
        exact ⟨(), trivial, congrArg Value.bool (Eq.symm (decide_eq_false (by unfold MayP; omega))), (st_drop (st_pull [2] hs))⟩

set_option maxRecDepth 4000 in
theorem may_01 (W0 : World) (s : Nat) (v : Value) (mb m : Nat) (xs : List Value) (t : TermR) (ha : ¬ (1 ≤ t.a ∧ t.a ≤ (m : Int))) (hb : (1 ≤ t.b ∧ t.b ≤ (m : Int))) :
  Con Tryz.prog W0 133 #[Value.pointer (some ⟨s, 0, none⟩), Value.agg #[Value.int .u8 ((t.kind : Nat) : Int), Value.int .i64 t.n, Value.int .i64 t.a, Value.int .i64 t.b]] [pt s 116 [v, Value.map (some mb)], sl 89 4 v m xs] (X := Unit) (fun _ => True) (fun _ => .bool (may m t)) (fun _ => [pt s 116 [v, Value.map (some mb)], sl 89 4 v m xs]) := by
 refine Con.of (args := [Value.pointer (some ⟨s, 0, none⟩), Value.agg #[Value.int .u8 ((t.kind : Nat) : Int), Value.int .i64 t.n, Value.int .i64 t.a, Value.int .i64 t.b]]) Tryz.func133 rfl Tryz.ntmps133 rfl (fun F => ?_)
 show Wc _ W0 _ _ _ _ _ ((pt s 116 [v, Value.map (some mb)]) :: (sl 89 4 v m xs) :: F)
 refine Wc.seq ?_
 refine Wc.region ?_
 refine Wl.e (e_box (x := .tmp 1) (vs := [Value.int .u8 ((t.kind : Nat) : Int), Value.int .i64 t.n, Value.int .i64 t.a, Value.int .i64 t.b]) rfl) (fun b1 _ => ?_)
 refine Wl.imp (L' := (pt b1 89 [Value.int .u8 ((t.kind : Nat) : Int), Value.int .i64 t.n, Value.int .i64 t.a, Value.int .i64 t.b]) :: (pt s 116 [v, Value.map (some mb)]) :: (sl 89 4 v m xs) :: F) (fun _ h => h) ?_
 refine Wl.q (v := Value.bool false) (q_assign rfl) ?_
 refine Wl.done ?_
 refine Wx.go ?_
 refine Wc.seq ?_
 refine Wc.drawsS [] ((pt b1 89 [Value.int .u8 ((t.kind : Nat) : Int), Value.int .i64 t.n, Value.int .i64 t.a, Value.int .i64 t.b]) :: (pt s 116 [v, Value.map (some mb)]) :: (sl 89 4 v m xs) :: []) (by kernel_rfl) ?_
 refine Wr.pure (v := Value.pointer (some ⟨s, 0, none⟩)) 0 rfl (by kernel_rfl) (.inr (fun _ h => st_take [0, 0, 0] h)) (.inl ⟨rfl, fun _ => q_move rfl⟩) ?_
 refine Wr.pure (v := Value.pointer (some ⟨b1, 2, none⟩)) 1 rfl (by kernel_rfl) (.inr (fun _ h => st_take [0, 0, 0] h)) (.inl ⟨rfl, fun _ => q_field (m := 2) fo_89_2 rfl rfl⟩) ?_
 refine Wr.take (v := Value.int .i64 t.a) 2 rfl (by kernel_rfl) (fun _ h => st_take [0, 0, 0] h) (.inl ⟨rfl, q_load sc_3 rfl (.cel (i := 0) rfl rfl)⟩) ?_
 refine Wr.pure (v := Value.pointer (some ⟨s, 0, none⟩)) 4 rfl (by kernel_rfl) (.inr (fun _ h => st_take [0, 0, 0] h)) (.inl ⟨rfl, fun _ => q_move rfl⟩) ?_
 refine Wr.pure (v := Value.pointer (some ⟨b1, 3, none⟩)) 5 rfl (by kernel_rfl) (.inr (fun _ h => st_take [0, 0, 0] h)) (.inl ⟨rfl, fun _ => q_field (m := 3) fo_89_3 rfl rfl⟩) ?_
 refine Wr.take (v := Value.int .i64 t.b) 6 rfl (by kernel_rfl) (fun _ h => st_take [0, 0, 0] h) (.inl ⟨rfl, q_load sc_3 rfl (.cel (i := 0) rfl rfl)⟩) ?_
 refine Wr.imp (L' := (pt s 116 [v, Value.map (some mb)]) :: (sl 89 4 v m xs) :: (pt b1 89 [Value.int .u8 ((t.kind : Nat) : Int), Value.int .i64 t.n, Value.int .i64 t.a, Value.int .i64 t.b]) :: F) (fun _ h => st_pull [1, 1] h) ?_
 refine Wr.e 3 (by kernel_rfl) rfl (e_call (F := (pt b1 89 [Value.int .u8 ((t.kind : Nat) : Int), Value.int .i64 t.n, Value.int .i64 t.a, Value.int .i64 t.b]) :: F) (args := [Value.pointer (some ⟨s, 0, none⟩), Value.int .i64 t.a]) Tryz.call143 rfl (there_no W0 s (v) mb m xs t.a ha)) (.inr fun _ _ _ h => st_take [2, 0, 0] h) (fun _ _ => ?_)
 refine Wr.imp (L' := (pt s 116 [v, Value.map (some mb)]) :: (sl 89 4 v m xs) :: (pt b1 89 [Value.int .u8 ((t.kind : Nat) : Int), Value.int .i64 t.n, Value.int .i64 t.a, Value.int .i64 t.b]) :: F) (fun _ h => h) ?_
 refine Wr.e 7 (by kernel_rfl) rfl (e_call (F := (pt b1 89 [Value.int .u8 ((t.kind : Nat) : Int), Value.int .i64 t.n, Value.int .i64 t.a, Value.int .i64 t.b]) :: F) (args := [Value.pointer (some ⟨s, 0, none⟩), Value.int .i64 t.b]) Tryz.call143 rfl (there_yes W0 s (v) mb m xs t.b hb)) (.inr fun _ _ _ h => st_take [2, 0, 0] h) (fun _ _ => ?_)
 refine Wr.imp (L' := (pt s 116 [v, Value.map (some mb)]) :: (sl 89 4 v m xs) :: (pt b1 89 [Value.int .u8 ((t.kind : Nat) : Int), Value.int .i64 t.n, Value.int .i64 t.a, Value.int .i64 t.b]) :: F) (fun _ h => h) ?_
 refine Wr.pure (v := Value.bool false) 8 rfl (by kernel_rfl) (.inr (fun _ h => st_take [2, 0, 0] h)) (.inl ⟨rfl, fun _ => q_assign rfl⟩) ?_
 refine Wr.pure (v := Value.bool true) 9 rfl (by kernel_rfl) (.inr (fun _ h => st_take [2, 0, 0] h)) (.inl ⟨rfl, fun _ => q_assign rfl⟩) ?_
 refine Wr.done (by kernel_rfl) ?_
 refine Wx.go ?_
 refine Wc.seq ?_
 refine Wc.seq ?_
 refine Wc.region ?_
 refine Wl.q (v := Value.pointer (some ⟨b1, 0, none⟩)) (q_field (m := 0) fo_89_0 rfl rfl) ?_
 refine Wl.q (v := Value.int .u8 ((t.kind : Nat) : Int)) (q_load sc_87 rfl (.cel (i := 2) rfl rfl)) ?_
 refine Wl.done ?_
 refine Wx.go ?_
 refine Wc.block ?_
 refine Wc.seq ?_
 refine Wc.region ?_
 by_cases h2 : ((t.kind : Nat) : Int) = 1
 ·
  refine Wl.q (v := Value.bool true) (q_eql (r := true) rfl rfl (decide_eq_true h2)) ?_
  refine Wl.q (v := Value.bool true) (q_assign rfl) ?_
  refine Wl.done ?_
  refine Wx.go ?_
  refine Wc.yes rfl ?_
  refine Wc.seq ?_
  refine Wc.region ?_
  refine Wl.q (v := Value.pointer (some ⟨b1, 1, none⟩)) (q_field (m := 1) fo_89_1 rfl rfl) ?_
  refine Wl.q (v := Value.int .i64 t.n) (q_load sc_2 rfl (.cel (i := 2) rfl rfl)) ?_
  by_cases h3 : t.n ≥ 0
  ·
   refine Wl.q (v := Value.bool true) (q_geq (r := true) rfl rfl (decide_eq_true h3)) ?_
   refine Wl.q (v := Value.bool true) (q_move rfl) ?_
   refine Wl.q (v := Value.pointer (some ⟨b1, 2, none⟩)) (q_field (m := 2) fo_89_2 rfl rfl) ?_
   refine Wl.q (v := Value.int .i64 t.a) (q_load sc_3 rfl (.cel (i := 2) rfl rfl)) ?_
   by_cases h4 : t.a = 0
   ·
    refine Wl.q (v := Value.bool true) (q_eql (r := true) rfl rfl (decide_eq_true h4)) ?_
    refine Wl.q (v := Value.bool true) (q_pick (t := true) rfl rfl) ?_
    refine Wl.q (v := Value.bool true) (q_move rfl) ?_
    refine Wl.q (v := Value.pointer (some ⟨b1, 3, none⟩)) (q_field (m := 3) fo_89_3 rfl rfl) ?_
    refine Wl.q (v := Value.int .i64 t.b) (q_load sc_3 rfl (.cel (i := 2) rfl rfl)) ?_
    by_cases h5 : t.b = 0
    ·
     refine Wl.q (v := Value.bool true) (q_eql (r := true) rfl rfl (decide_eq_true h5)) ?_
     refine Wl.q (v := Value.bool true) (q_pick (t := true) rfl rfl) ?_
     refine Wl.q (v := Value.bool true) (q_assign rfl) ?_
     refine Wl.done ?_
     refine Wx.go ?_
     refine Wc.ret ?_
     refine Wx.blockRet ?_
     refine Wx.thenRet ?_
     refine Wx.fin1 rfl (.inl rfl) (fun w hs => ?_)
     exact ⟨(), trivial, congrArg Value.bool (Eq.symm (decide_eq_true (by unfold MayP; omega))), (st_drop (st_pull [2] hs))⟩
    ·
     refine Wl.q (v := Value.bool false) (q_eql (r := false) rfl rfl (decide_eq_false h5)) ?_
     refine Wl.q (v := Value.bool false) (q_pick (t := true) rfl rfl) ?_
     refine Wl.q (v := Value.bool false) (q_assign rfl) ?_
     refine Wl.done ?_
     refine Wx.go ?_
     refine Wc.ret ?_
     refine Wx.blockRet ?_
     refine Wx.thenRet ?_
     refine Wx.fin1 rfl (.inl rfl) (fun w hs => ?_)
     exact ⟨(), trivial, congrArg Value.bool (Eq.symm (decide_eq_false (by unfold MayP; omega))), (st_drop (st_pull [2] hs))⟩
   ·
    refine Wl.q (v := Value.bool false) (q_eql (r := false) rfl rfl (decide_eq_false h4)) ?_
    refine Wl.q (v := Value.bool false) (q_pick (t := true) rfl rfl) ?_
    refine Wl.q (v := Value.bool false) (q_move rfl) ?_
    refine Wl.no ?_
    refine Wl.no ?_
    refine Wl.no ?_
    refine Wl.q (v := Value.bool false) (q_pick (t := false) rfl rfl) ?_
    refine Wl.q (v := Value.bool false) (q_assign rfl) ?_
    refine Wl.done ?_
    refine Wx.go ?_
    refine Wc.ret ?_
    refine Wx.blockRet ?_
    refine Wx.thenRet ?_
    refine Wx.fin1 rfl (.inl rfl) (fun w hs => ?_)
    exact ⟨(), trivial, congrArg Value.bool (Eq.symm (decide_eq_false (by unfold MayP; omega))), (st_drop (st_pull [2] hs))⟩
  ·
   refine Wl.q (v := Value.bool false) (q_geq (r := false) rfl rfl (decide_eq_false h3)) ?_
   refine Wl.q (v := Value.bool false) (q_move rfl) ?_
   refine Wl.no ?_
   refine Wl.no ?_
   refine Wl.no ?_
   refine Wl.q (v := Value.bool false) (q_pick (t := false) rfl rfl) ?_
   refine Wl.q (v := Value.bool false) (q_move rfl) ?_
   refine Wl.no ?_
   refine Wl.no ?_
   refine Wl.no ?_
   refine Wl.q (v := Value.bool false) (q_pick (t := false) rfl rfl) ?_
   refine Wl.q (v := Value.bool false) (q_assign rfl) ?_
   refine Wl.done ?_
   refine Wx.go ?_
   refine Wc.ret ?_
   refine Wx.blockRet ?_
   refine Wx.thenRet ?_
   refine Wx.fin1 rfl (.inl rfl) (fun w hs => ?_)
   exact ⟨(), trivial, congrArg Value.bool (Eq.symm (decide_eq_false (by unfold MayP; omega))), (st_drop (st_pull [2] hs))⟩
 ·
  refine Wl.q (v := Value.bool false) (q_eql (r := false) rfl rfl (decide_eq_false h2)) ?_
  refine Wl.q (v := Value.bool false) (q_assign rfl) ?_
  refine Wl.done ?_
  refine Wx.go ?_
  refine Wc.no rfl ?_
  refine Wc.seq ?_
  refine Wc.region ?_
  by_cases h6 : ((t.kind : Nat) : Int) = 2
  ·
   refine Wl.q (v := Value.bool true) (q_eql (r := true) rfl rfl (decide_eq_true h6)) ?_
   refine Wl.q (v := Value.bool true) (q_assign rfl) ?_
   refine Wl.done ?_
   refine Wx.go ?_
   refine Wc.yes rfl ?_
   refine Wc.seq ?_
   refine Wc.region ?_
   refine Wl.q (v := Value.pointer (some ⟨b1, 2, none⟩)) (q_field (m := 2) fo_89_2 rfl rfl) ?_
   refine Wl.q (v := Value.int .i64 t.a) (q_load sc_3 rfl (.cel (i := 2) rfl rfl)) ?_
   by_cases h7 : t.a = 0
   ·
    refine Wl.q (v := Value.bool true) (q_eql (r := true) rfl rfl (decide_eq_true h7)) ?_
    refine Wl.q (v := Value.bool true) (q_move rfl) ?_
    refine Wl.q (v := Value.pointer (some ⟨b1, 3, none⟩)) (q_field (m := 3) fo_89_3 rfl rfl) ?_
    refine Wl.q (v := Value.int .i64 t.b) (q_load sc_3 rfl (.cel (i := 2) rfl rfl)) ?_
    by_cases h8 : t.b = 0
    ·
     refine Wl.q (v := Value.bool true) (q_eql (r := true) rfl rfl (decide_eq_true h8)) ?_
     refine Wl.q (v := Value.bool true) (q_pick (t := true) rfl rfl) ?_
     refine Wl.q (v := Value.bool true) (q_assign rfl) ?_
     refine Wl.done ?_
     refine Wx.go ?_
     refine Wc.ret ?_
     refine Wx.blockRet ?_
     refine Wx.thenRet ?_
     refine Wx.fin1 rfl (.inl rfl) (fun w hs => ?_)
     exact ⟨(), trivial, congrArg Value.bool (Eq.symm (decide_eq_true (by unfold MayP; omega))), (st_drop (st_pull [2] hs))⟩
    ·
     refine Wl.q (v := Value.bool false) (q_eql (r := false) rfl rfl (decide_eq_false h8)) ?_
     refine Wl.q (v := Value.bool false) (q_pick (t := true) rfl rfl) ?_
     refine Wl.q (v := Value.bool false) (q_assign rfl) ?_
     refine Wl.done ?_
     refine Wx.go ?_
     refine Wc.ret ?_
     refine Wx.blockRet ?_
     refine Wx.thenRet ?_
     refine Wx.fin1 rfl (.inl rfl) (fun w hs => ?_)
     exact ⟨(), trivial, congrArg Value.bool (Eq.symm (decide_eq_false (by unfold MayP; omega))), (st_drop (st_pull [2] hs))⟩
   ·
    refine Wl.q (v := Value.bool false) (q_eql (r := false) rfl rfl (decide_eq_false h7)) ?_
    refine Wl.q (v := Value.bool false) (q_move rfl) ?_
    refine Wl.no ?_
    refine Wl.no ?_
    refine Wl.no ?_
    refine Wl.q (v := Value.bool false) (q_pick (t := false) rfl rfl) ?_
    refine Wl.q (v := Value.bool false) (q_assign rfl) ?_
    refine Wl.done ?_
    refine Wx.go ?_
    refine Wc.ret ?_
    refine Wx.blockRet ?_
    refine Wx.thenRet ?_
    refine Wx.fin1 rfl (.inl rfl) (fun w hs => ?_)
    exact ⟨(), trivial, congrArg Value.bool (Eq.symm (decide_eq_false (by unfold MayP; omega))), (st_drop (st_pull [2] hs))⟩
  ·
   refine Wl.q (v := Value.bool false) (q_eql (r := false) rfl rfl (decide_eq_false h6)) ?_
   refine Wl.q (v := Value.bool false) (q_assign rfl) ?_
   refine Wl.done ?_
   refine Wx.go ?_
   refine Wc.no rfl ?_
   refine Wc.seq ?_
   refine Wc.seq ?_
   refine Wc.region ?_
   by_cases h9 : ((t.kind : Nat) : Int) = 3
   ·
    refine Wl.q (v := Value.bool true) (q_eql (r := true) rfl rfl (decide_eq_true h9)) ?_
    refine Wl.q (v := Value.bool true) (q_assign rfl) ?_
    refine Wl.done ?_
    refine Wx.go ?_
    refine Wc.yes rfl ?_
    refine Wc.skip ?_
    refine Wx.go ?_
    refine Wc.yes rfl ?_
    refine Wc.seq ?_
    refine Wc.region ?_
    refine Wl.q (v := Value.pointer (some ⟨b1, 1, none⟩)) (q_field (m := 1) fo_89_1 rfl rfl) ?_
    refine Wl.q (v := Value.int .i64 t.n) (q_load sc_2 rfl (.cel (i := 2) rfl rfl)) ?_
    by_cases h10 : t.n = 0
    ·
     refine Wl.q (v := Value.bool true) (q_eql (r := true) rfl rfl (decide_eq_true h10)) ?_
     refine Wl.q (v := Value.bool true) (q_move rfl) ?_
     refine Wl.q (v := Value.bool false) (q_move rfl) ?_
     refine Wl.q (v := Value.bool false) (q_pick (t := true) rfl rfl) ?_
     refine Wl.q (v := Value.bool false) (q_move rfl) ?_
     refine Wl.no ?_
     refine Wl.q (v := Value.bool false) (q_pick (t := false) rfl rfl) ?_
     refine Wl.q (v := Value.bool false) (q_assign rfl) ?_
     refine Wl.done ?_
     refine Wx.go ?_
     refine Wc.ret ?_
     refine Wx.blockRet ?_
     refine Wx.thenRet ?_
     refine Wx.fin1 rfl (.inl rfl) (fun w hs => ?_)
     exact ⟨(), trivial, congrArg Value.bool (Eq.symm (decide_eq_false (by unfold MayP; omega))), (st_drop (st_pull [2] hs))⟩
    ·
     refine Wl.q (v := Value.bool false) (q_eql (r := false) rfl rfl (decide_eq_false h10)) ?_
     refine Wl.q (v := Value.bool false) (q_move rfl) ?_
     refine Wl.no ?_
     refine Wl.q (v := Value.bool false) (q_pick (t := false) rfl rfl) ?_
     refine Wl.q (v := Value.bool false) (q_move rfl) ?_
     refine Wl.no ?_
     refine Wl.q (v := Value.bool false) (q_pick (t := false) rfl rfl) ?_
     refine Wl.q (v := Value.bool false) (q_assign rfl) ?_
     refine Wl.done ?_
     refine Wx.go ?_
     refine Wc.ret ?_
     refine Wx.blockRet ?_
     refine Wx.thenRet ?_
     refine Wx.fin1 rfl (.inl rfl) (fun w hs => ?_)
     exact ⟨(), trivial, congrArg Value.bool (Eq.symm (decide_eq_false (by unfold MayP; omega))), (st_drop (st_pull [2] hs))⟩
   ·
    refine Wl.q (v := Value.bool false) (q_eql (r := false) rfl rfl (decide_eq_false h9)) ?_
    refine Wl.q (v := Value.bool false) (q_assign rfl) ?_
    refine Wl.done ?_
    refine Wx.go ?_
    refine Wc.no rfl ?_
    refine Wc.region ?_
    by_cases h11 : ((t.kind : Nat) : Int) = 6
    ·
     refine Wl.q (v := Value.bool true) (q_eql (r := true) rfl rfl (decide_eq_true h11)) ?_
     refine Wl.q (v := Value.bool true) (q_assign rfl) ?_
     refine Wl.done ?_
     refine Wx.go ?_
     refine Wc.yes rfl ?_
     refine Wc.seq ?_
     refine Wc.region ?_
     refine Wl.q (v := Value.pointer (some ⟨b1, 1, none⟩)) (q_field (m := 1) fo_89_1 rfl rfl) ?_
     refine Wl.q (v := Value.int .i64 t.n) (q_load sc_2 rfl (.cel (i := 2) rfl rfl)) ?_
     by_cases h12 : t.n = 0
     ·
      refine Wl.q (v := Value.bool true) (q_eql (r := true) rfl rfl (decide_eq_true h12)) ?_
      refine Wl.q (v := Value.bool true) (q_move rfl) ?_
      refine Wl.q (v := Value.bool false) (q_move rfl) ?_
      refine Wl.q (v := Value.bool false) (q_pick (t := true) rfl rfl) ?_
      refine Wl.q (v := Value.bool false) (q_move rfl) ?_
      refine Wl.no ?_
      refine Wl.q (v := Value.bool false) (q_pick (t := false) rfl rfl) ?_
      refine Wl.q (v := Value.bool false) (q_assign rfl) ?_
      refine Wl.done ?_
      refine Wx.go ?_
      refine Wc.ret ?_
      refine Wx.blockRet ?_
      refine Wx.thenRet ?_
      refine Wx.fin1 rfl (.inl rfl) (fun w hs => ?_)
      exact ⟨(), trivial, congrArg Value.bool (Eq.symm (decide_eq_false (by unfold MayP; omega))), (st_drop (st_pull [2] hs))⟩
     ·
      refine Wl.q (v := Value.bool false) (q_eql (r := false) rfl rfl (decide_eq_false h12)) ?_
      refine Wl.q (v := Value.bool false) (q_move rfl) ?_
      refine Wl.no ?_
      refine Wl.q (v := Value.bool false) (q_pick (t := false) rfl rfl) ?_
      refine Wl.q (v := Value.bool false) (q_move rfl) ?_
      refine Wl.no ?_
      refine Wl.q (v := Value.bool false) (q_pick (t := false) rfl rfl) ?_
      refine Wl.q (v := Value.bool false) (q_assign rfl) ?_
      refine Wl.done ?_
      refine Wx.go ?_
      refine Wc.ret ?_
      refine Wx.blockRet ?_
      refine Wx.thenRet ?_
      refine Wx.fin1 rfl (.inl rfl) (fun w hs => ?_)
      exact ⟨(), trivial, congrArg Value.bool (Eq.symm (decide_eq_false (by unfold MayP; omega))), (st_drop (st_pull [2] hs))⟩
    ·
     refine Wl.q (v := Value.bool false) (q_eql (r := false) rfl rfl (decide_eq_false h11)) ?_
     refine Wl.q (v := Value.bool false) (q_assign rfl) ?_
     refine Wl.done ?_
     refine Wx.go ?_
     refine Wc.no rfl ?_
     refine Wc.seq ?_
     refine Wc.region ?_
     by_cases h13 : ((t.kind : Nat) : Int) = 4
     ·
      refine Wl.q (v := Value.bool true) (q_eql (r := true) rfl rfl (decide_eq_true h13)) ?_
      refine Wl.q (v := Value.bool true) (q_assign rfl) ?_
      refine Wl.done ?_
      refine Wx.go ?_
      refine Wc.yes rfl ?_
      refine Wc.seq ?_
      refine Wc.region ?_
      refine Wl.q (v := Value.pointer (some ⟨b1, 1, none⟩)) (q_field (m := 1) fo_89_1 rfl rfl) ?_
      refine Wl.q (v := Value.int .i64 t.n) (q_load sc_2 rfl (.cel (i := 2) rfl rfl)) ?_
      by_cases h14 : t.n ≥ 0
      ·
       refine Wl.q (v := Value.bool true) (q_geq (r := true) rfl rfl (decide_eq_true h14)) ?_
       refine Wl.q (v := Value.bool true) (q_move rfl) ?_
       refine Wl.q (v := Value.bool false) (q_move rfl) ?_
       refine Wl.q (v := Value.bool false) (q_pick (t := true) rfl rfl) ?_
       refine Wl.q (v := Value.bool false) (q_move rfl) ?_
       refine Wl.no ?_
       refine Wl.no ?_
       refine Wl.no ?_
       refine Wl.no ?_
       refine Wl.no ?_
       refine Wl.no ?_
       refine Wl.q (v := Value.bool false) (q_pick (t := false) rfl rfl) ?_
       refine Wl.q (v := Value.bool false) (q_assign rfl) ?_
       refine Wl.done ?_
       refine Wx.go ?_
       refine Wc.ret ?_
       refine Wx.blockRet ?_
       refine Wx.thenRet ?_
       refine Wx.fin1 rfl (.inl rfl) (fun w hs => ?_)
       exact ⟨(), trivial, congrArg Value.bool (Eq.symm (decide_eq_false (by unfold MayP; omega))), (st_drop (st_pull [2] hs))⟩
      ·
       refine Wl.q (v := Value.bool false) (q_geq (r := false) rfl rfl (decide_eq_false h14)) ?_
       refine Wl.q (v := Value.bool false) (q_move rfl) ?_
       refine Wl.no ?_
       refine Wl.q (v := Value.bool false) (q_pick (t := false) rfl rfl) ?_
       refine Wl.q (v := Value.bool false) (q_move rfl) ?_
       refine Wl.no ?_
       refine Wl.no ?_
       refine Wl.no ?_
       refine Wl.no ?_
       refine Wl.no ?_
       refine Wl.no ?_
       refine Wl.q (v := Value.bool false) (q_pick (t := false) rfl rfl) ?_
       refine Wl.q (v := Value.bool false) (q_assign rfl) ?_
       refine Wl.done ?_
       refine Wx.go ?_
       refine Wc.ret ?_
       refine Wx.blockRet ?_
       refine Wx.thenRet ?_
       refine Wx.fin1 rfl (.inl rfl) (fun w hs => ?_)
       exact ⟨(), trivial, congrArg Value.bool (Eq.symm (decide_eq_false (by unfold MayP; omega))), (st_drop (st_pull [2] hs))⟩
     ·
      refine Wl.q (v := Value.bool false) (q_eql (r := false) rfl rfl (decide_eq_false h13)) ?_
      refine Wl.q (v := Value.bool false) (q_assign rfl) ?_
      refine Wl.done ?_
      refine Wx.go ?_
      refine Wc.no rfl ?_
      refine Wc.seq ?_
      refine Wc.seq ?_
      refine Wc.region ?_
      by_cases h15 : ((t.kind : Nat) : Int) = 5
      ·
       refine Wl.q (v := Value.bool true) (q_eql (r := true) rfl rfl (decide_eq_true h15)) ?_
       refine Wl.q (v := Value.bool true) (q_assign rfl) ?_
       refine Wl.done ?_
       refine Wx.go ?_
       refine Wc.yes rfl ?_
       refine Wc.skip ?_
       refine Wx.go ?_
       refine Wc.yes rfl ?_
       refine Wc.seq ?_
       refine Wc.region ?_
       refine Wl.q (v := Value.pointer (some ⟨b1, 1, none⟩)) (q_field (m := 1) fo_89_1 rfl rfl) ?_
       refine Wl.q (v := Value.int .i64 t.n) (q_load sc_2 rfl (.cel (i := 2) rfl rfl)) ?_
       by_cases h16 : t.n = 0
       ·
        refine Wl.q (v := Value.bool true) (q_eql (r := true) rfl rfl (decide_eq_true h16)) ?_
        refine Wl.q (v := Value.bool true) (q_move rfl) ?_
        refine Wl.q (v := Value.bool false) (q_move rfl) ?_
        refine Wl.q (v := Value.bool false) (q_pick (t := true) rfl rfl) ?_
        refine Wl.q (v := Value.bool false) (q_move rfl) ?_
        refine Wl.no ?_
        refine Wl.no ?_
        refine Wl.no ?_
        refine Wl.q (v := Value.bool false) (q_pick (t := false) rfl rfl) ?_
        refine Wl.q (v := Value.bool false) (q_assign rfl) ?_
        refine Wl.done ?_
        refine Wx.go ?_
        refine Wc.ret ?_
        refine Wx.blockRet ?_
        refine Wx.thenRet ?_
        refine Wx.fin1 rfl (.inl rfl) (fun w hs => ?_)
        exact ⟨(), trivial, congrArg Value.bool (Eq.symm (decide_eq_false (by unfold MayP; omega))), (st_drop (st_pull [2] hs))⟩
       ·
        refine Wl.q (v := Value.bool false) (q_eql (r := false) rfl rfl (decide_eq_false h16)) ?_
        refine Wl.q (v := Value.bool false) (q_move rfl) ?_
        refine Wl.no ?_
        refine Wl.q (v := Value.bool false) (q_pick (t := false) rfl rfl) ?_
        refine Wl.q (v := Value.bool false) (q_move rfl) ?_
        refine Wl.no ?_
        refine Wl.no ?_
        refine Wl.no ?_
        refine Wl.q (v := Value.bool false) (q_pick (t := false) rfl rfl) ?_
        refine Wl.q (v := Value.bool false) (q_assign rfl) ?_
        refine Wl.done ?_
        refine Wx.go ?_
        refine Wc.ret ?_
        refine Wx.blockRet ?_
        refine Wx.thenRet ?_
        refine Wx.fin1 rfl (.inl rfl) (fun w hs => ?_)
        exact ⟨(), trivial, congrArg Value.bool (Eq.symm (decide_eq_false (by unfold MayP; omega))), (st_drop (st_pull [2] hs))⟩
      ·
       refine Wl.q (v := Value.bool false) (q_eql (r := false) rfl rfl (decide_eq_false h15)) ?_
       refine Wl.q (v := Value.bool false) (q_assign rfl) ?_
       refine Wl.done ?_
       refine Wx.go ?_
       refine Wc.no rfl ?_
       refine Wc.region ?_
       by_cases h17 : ((t.kind : Nat) : Int) = 7
       ·
        refine Wl.q (v := Value.bool true) (q_eql (r := true) rfl rfl (decide_eq_true h17)) ?_
        refine Wl.q (v := Value.bool true) (q_assign rfl) ?_
        refine Wl.done ?_
        refine Wx.go ?_
        refine Wc.yes rfl ?_
        refine Wc.seq ?_
        refine Wc.region ?_
        refine Wl.q (v := Value.pointer (some ⟨b1, 1, none⟩)) (q_field (m := 1) fo_89_1 rfl rfl) ?_
        refine Wl.q (v := Value.int .i64 t.n) (q_load sc_2 rfl (.cel (i := 2) rfl rfl)) ?_
        by_cases h18 : t.n = 0
        ·
         refine Wl.q (v := Value.bool true) (q_eql (r := true) rfl rfl (decide_eq_true h18)) ?_
         refine Wl.q (v := Value.bool true) (q_move rfl) ?_
         refine Wl.q (v := Value.bool false) (q_move rfl) ?_
         refine Wl.q (v := Value.bool false) (q_pick (t := true) rfl rfl) ?_
         refine Wl.q (v := Value.bool false) (q_move rfl) ?_
         refine Wl.no ?_
         refine Wl.no ?_
         refine Wl.no ?_
         refine Wl.q (v := Value.bool false) (q_pick (t := false) rfl rfl) ?_
         refine Wl.q (v := Value.bool false) (q_assign rfl) ?_
         refine Wl.done ?_
         refine Wx.go ?_
         refine Wc.ret ?_
         refine Wx.blockRet ?_
         refine Wx.thenRet ?_
         refine Wx.fin1 rfl (.inl rfl) (fun w hs => ?_)
         exact ⟨(), trivial, congrArg Value.bool (Eq.symm (decide_eq_false (by unfold MayP; omega))), (st_drop (st_pull [2] hs))⟩
        ·
         refine Wl.q (v := Value.bool false) (q_eql (r := false) rfl rfl (decide_eq_false h18)) ?_
         refine Wl.q (v := Value.bool false) (q_move rfl) ?_
         refine Wl.no ?_
         refine Wl.q (v := Value.bool false) (q_pick (t := false) rfl rfl) ?_
         refine Wl.q (v := Value.bool false) (q_move rfl) ?_
         refine Wl.no ?_
         refine Wl.no ?_
         refine Wl.no ?_
         refine Wl.q (v := Value.bool false) (q_pick (t := false) rfl rfl) ?_
         refine Wl.q (v := Value.bool false) (q_assign rfl) ?_
         refine Wl.done ?_
         refine Wx.go ?_
         refine Wc.ret ?_
         refine Wx.blockRet ?_
         refine Wx.thenRet ?_
         refine Wx.fin1 rfl (.inl rfl) (fun w hs => ?_)
         exact ⟨(), trivial, congrArg Value.bool (Eq.symm (decide_eq_false (by unfold MayP; omega))), (st_drop (st_pull [2] hs))⟩
       ·
        refine Wl.q (v := Value.bool false) (q_eql (r := false) rfl rfl (decide_eq_false h17)) ?_
        refine Wl.q (v := Value.bool false) (q_assign rfl) ?_
        refine Wl.done ?_
        refine Wx.go ?_
        refine Wc.no rfl ?_
        refine Wc.skip ?_
        refine Wx.blockEnd ?_
        refine Wx.go ?_
        refine Wc.seq ?_
        refine Wc.region ?_
        refine Wl.q (v := Value.bool false) (q_assign rfl) ?_
        refine Wl.done ?_
        refine Wx.go ?_
        refine Wc.ret ?_
        refine Wx.fin1 rfl (.inl rfl) (fun w hs => ?_)
        exact ⟨(), trivial, congrArg Value.bool (Eq.symm (decide_eq_false (by unfold MayP; omega))), (st_drop (st_pull [2] hs))⟩

set_option maxRecDepth 4000 in
theorem may_00 (W0 : World) (s : Nat) (v : Value) (mb m : Nat) (xs : List Value) (t : TermR) (ha : ¬ (1 ≤ t.a ∧ t.a ≤ (m : Int))) (hb : ¬ (1 ≤ t.b ∧ t.b ≤ (m : Int))) :
  Con Tryz.prog W0 133 #[Value.pointer (some ⟨s, 0, none⟩), Value.agg #[Value.int .u8 ((t.kind : Nat) : Int), Value.int .i64 t.n, Value.int .i64 t.a, Value.int .i64 t.b]] [pt s 116 [v, Value.map (some mb)], sl 89 4 v m xs] (X := Unit) (fun _ => True) (fun _ => .bool (may m t)) (fun _ => [pt s 116 [v, Value.map (some mb)], sl 89 4 v m xs]) := by
 refine Con.of (args := [Value.pointer (some ⟨s, 0, none⟩), Value.agg #[Value.int .u8 ((t.kind : Nat) : Int), Value.int .i64 t.n, Value.int .i64 t.a, Value.int .i64 t.b]]) Tryz.func133 rfl Tryz.ntmps133 rfl (fun F => ?_)
 show Wc _ W0 _ _ _ _ _ ((pt s 116 [v, Value.map (some mb)]) :: (sl 89 4 v m xs) :: F)
 refine Wc.seq ?_
 refine Wc.region ?_
 refine Wl.e (e_box (x := .tmp 1) (vs := [Value.int .u8 ((t.kind : Nat) : Int), Value.int .i64 t.n, Value.int .i64 t.a, Value.int .i64 t.b]) rfl) (fun b1 _ => ?_)
 refine Wl.imp (L' := (pt b1 89 [Value.int .u8 ((t.kind : Nat) : Int), Value.int .i64 t.n, Value.int .i64 t.a, Value.int .i64 t.b]) :: (pt s 116 [v, Value.map (some mb)]) :: (sl 89 4 v m xs) :: F) (fun _ h => h) ?_
 refine Wl.q (v := Value.bool false) (q_assign rfl) ?_
 refine Wl.done ?_
 refine Wx.go ?_
 refine Wc.seq ?_
 refine Wc.drawsS [] ((pt b1 89 [Value.int .u8 ((t.kind : Nat) : Int), Value.int .i64 t.n, Value.int .i64 t.a, Value.int .i64 t.b]) :: (pt s 116 [v, Value.map (some mb)]) :: (sl 89 4 v m xs) :: []) (by kernel_rfl) ?_
 refine Wr.pure (v := Value.pointer (some ⟨s, 0, none⟩)) 0 rfl (by kernel_rfl) (.inr (fun _ h => st_take [0, 0, 0] h)) (.inl ⟨rfl, fun _ => q_move rfl⟩) ?_
 refine Wr.pure (v := Value.pointer (some ⟨b1, 2, none⟩)) 1 rfl (by kernel_rfl) (.inr (fun _ h => st_take [0, 0, 0] h)) (.inl ⟨rfl, fun _ => q_field (m := 2) fo_89_2 rfl rfl⟩) ?_
 refine Wr.take (v := Value.int .i64 t.a) 2 rfl (by kernel_rfl) (fun _ h => st_take [0, 0, 0] h) (.inl ⟨rfl, q_load sc_3 rfl (.cel (i := 0) rfl rfl)⟩) ?_
 refine Wr.pure (v := Value.pointer (some ⟨s, 0, none⟩)) 4 rfl (by kernel_rfl) (.inr (fun _ h => st_take [0, 0, 0] h)) (.inl ⟨rfl, fun _ => q_move rfl⟩) ?_
 refine Wr.pure (v := Value.pointer (some ⟨b1, 3, none⟩)) 5 rfl (by kernel_rfl) (.inr (fun _ h => st_take [0, 0, 0] h)) (.inl ⟨rfl, fun _ => q_field (m := 3) fo_89_3 rfl rfl⟩) ?_
 refine Wr.take (v := Value.int .i64 t.b) 6 rfl (by kernel_rfl) (fun _ h => st_take [0, 0, 0] h) (.inl ⟨rfl, q_load sc_3 rfl (.cel (i := 0) rfl rfl)⟩) ?_
 refine Wr.imp (L' := (pt s 116 [v, Value.map (some mb)]) :: (sl 89 4 v m xs) :: (pt b1 89 [Value.int .u8 ((t.kind : Nat) : Int), Value.int .i64 t.n, Value.int .i64 t.a, Value.int .i64 t.b]) :: F) (fun _ h => st_pull [1, 1] h) ?_
 refine Wr.e 3 (by kernel_rfl) rfl (e_call (F := (pt b1 89 [Value.int .u8 ((t.kind : Nat) : Int), Value.int .i64 t.n, Value.int .i64 t.a, Value.int .i64 t.b]) :: F) (args := [Value.pointer (some ⟨s, 0, none⟩), Value.int .i64 t.a]) Tryz.call143 rfl (there_no W0 s (v) mb m xs t.a ha)) (.inr fun _ _ _ h => st_take [2, 0, 0] h) (fun _ _ => ?_)
 refine Wr.imp (L' := (pt s 116 [v, Value.map (some mb)]) :: (sl 89 4 v m xs) :: (pt b1 89 [Value.int .u8 ((t.kind : Nat) : Int), Value.int .i64 t.n, Value.int .i64 t.a, Value.int .i64 t.b]) :: F) (fun _ h => h) ?_
 refine Wr.e 7 (by kernel_rfl) rfl (e_call (F := (pt b1 89 [Value.int .u8 ((t.kind : Nat) : Int), Value.int .i64 t.n, Value.int .i64 t.a, Value.int .i64 t.b]) :: F) (args := [Value.pointer (some ⟨s, 0, none⟩), Value.int .i64 t.b]) Tryz.call143 rfl (there_no W0 s (v) mb m xs t.b hb)) (.inr fun _ _ _ h => st_take [2, 0, 0] h) (fun _ _ => ?_)
 refine Wr.imp (L' := (pt s 116 [v, Value.map (some mb)]) :: (sl 89 4 v m xs) :: (pt b1 89 [Value.int .u8 ((t.kind : Nat) : Int), Value.int .i64 t.n, Value.int .i64 t.a, Value.int .i64 t.b]) :: F) (fun _ h => h) ?_
 refine Wr.pure (v := Value.bool false) 8 rfl (by kernel_rfl) (.inr (fun _ h => st_take [2, 0, 0] h)) (.inl ⟨rfl, fun _ => q_assign rfl⟩) ?_
 refine Wr.pure (v := Value.bool false) 9 rfl (by kernel_rfl) (.inr (fun _ h => st_take [2, 0, 0] h)) (.inl ⟨rfl, fun _ => q_assign rfl⟩) ?_
 refine Wr.done (by kernel_rfl) ?_
 refine Wx.go ?_
 refine Wc.seq ?_
 refine Wc.seq ?_
 refine Wc.region ?_
 refine Wl.q (v := Value.pointer (some ⟨b1, 0, none⟩)) (q_field (m := 0) fo_89_0 rfl rfl) ?_
 refine Wl.q (v := Value.int .u8 ((t.kind : Nat) : Int)) (q_load sc_87 rfl (.cel (i := 2) rfl rfl)) ?_
 refine Wl.done ?_
 refine Wx.go ?_
 refine Wc.block ?_
 refine Wc.seq ?_
 refine Wc.region ?_
 by_cases h2 : ((t.kind : Nat) : Int) = 1
 ·
  refine Wl.q (v := Value.bool true) (q_eql (r := true) rfl rfl (decide_eq_true h2)) ?_
  refine Wl.q (v := Value.bool true) (q_assign rfl) ?_
  refine Wl.done ?_
  refine Wx.go ?_
  refine Wc.yes rfl ?_
  refine Wc.seq ?_
  refine Wc.region ?_
  refine Wl.q (v := Value.pointer (some ⟨b1, 1, none⟩)) (q_field (m := 1) fo_89_1 rfl rfl) ?_
  refine Wl.q (v := Value.int .i64 t.n) (q_load sc_2 rfl (.cel (i := 2) rfl rfl)) ?_
  by_cases h3 : t.n ≥ 0
  ·
   refine Wl.q (v := Value.bool true) (q_geq (r := true) rfl rfl (decide_eq_true h3)) ?_
   refine Wl.q (v := Value.bool true) (q_move rfl) ?_
   refine Wl.q (v := Value.pointer (some ⟨b1, 2, none⟩)) (q_field (m := 2) fo_89_2 rfl rfl) ?_
   refine Wl.q (v := Value.int .i64 t.a) (q_load sc_3 rfl (.cel (i := 2) rfl rfl)) ?_
   by_cases h4 : t.a = 0
   ·
    refine Wl.q (v := Value.bool true) (q_eql (r := true) rfl rfl (decide_eq_true h4)) ?_
    refine Wl.q (v := Value.bool true) (q_pick (t := true) rfl rfl) ?_
    refine Wl.q (v := Value.bool true) (q_move rfl) ?_
    refine Wl.q (v := Value.pointer (some ⟨b1, 3, none⟩)) (q_field (m := 3) fo_89_3 rfl rfl) ?_
    refine Wl.q (v := Value.int .i64 t.b) (q_load sc_3 rfl (.cel (i := 2) rfl rfl)) ?_
    by_cases h5 : t.b = 0
    ·
     refine Wl.q (v := Value.bool true) (q_eql (r := true) rfl rfl (decide_eq_true h5)) ?_
     refine Wl.q (v := Value.bool true) (q_pick (t := true) rfl rfl) ?_
     refine Wl.q (v := Value.bool true) (q_assign rfl) ?_
     refine Wl.done ?_
     refine Wx.go ?_
     refine Wc.ret ?_
     refine Wx.blockRet ?_
     refine Wx.thenRet ?_
     refine Wx.fin1 rfl (.inl rfl) (fun w hs => ?_)
     exact ⟨(), trivial, congrArg Value.bool (Eq.symm (decide_eq_true (by unfold MayP; omega))), (st_drop (st_pull [2] hs))⟩
    ·
     refine Wl.q (v := Value.bool false) (q_eql (r := false) rfl rfl (decide_eq_false h5)) ?_
     refine Wl.q (v := Value.bool false) (q_pick (t := true) rfl rfl) ?_
     refine Wl.q (v := Value.bool false) (q_assign rfl) ?_
     refine Wl.done ?_
     refine Wx.go ?_
     refine Wc.ret ?_
     refine Wx.blockRet ?_
     refine Wx.thenRet ?_
     refine Wx.fin1 rfl (.inl rfl) (fun w hs => ?_)
     exact ⟨(), trivial, congrArg Value.bool (Eq.symm (decide_eq_false (by unfold MayP; omega))), (st_drop (st_pull [2] hs))⟩
   ·
    refine Wl.q (v := Value.bool false) (q_eql (r := false) rfl rfl (decide_eq_false h4)) ?_
    refine Wl.q (v := Value.bool false) (q_pick (t := true) rfl rfl) ?_
    refine Wl.q (v := Value.bool false) (q_move rfl) ?_
    refine Wl.no ?_
    refine Wl.no ?_
    refine Wl.no ?_
    refine Wl.q (v := Value.bool false) (q_pick (t := false) rfl rfl) ?_
    refine Wl.q (v := Value.bool false) (q_assign rfl) ?_
    refine Wl.done ?_
    refine Wx.go ?_
    refine Wc.ret ?_
    refine Wx.blockRet ?_
    refine Wx.thenRet ?_
    refine Wx.fin1 rfl (.inl rfl) (fun w hs => ?_)
    exact ⟨(), trivial, congrArg Value.bool (Eq.symm (decide_eq_false (by unfold MayP; omega))), (st_drop (st_pull [2] hs))⟩
  ·
   refine Wl.q (v := Value.bool false) (q_geq (r := false) rfl rfl (decide_eq_false h3)) ?_
   refine Wl.q (v := Value.bool false) (q_move rfl) ?_
   refine Wl.no ?_
   refine Wl.no ?_
   refine Wl.no ?_
   refine Wl.q (v := Value.bool false) (q_pick (t := false) rfl rfl) ?_
   refine Wl.q (v := Value.bool false) (q_move rfl) ?_
   refine Wl.no ?_
   refine Wl.no ?_
   refine Wl.no ?_
   refine Wl.q (v := Value.bool false) (q_pick (t := false) rfl rfl) ?_
   refine Wl.q (v := Value.bool false) (q_assign rfl) ?_
   refine Wl.done ?_
   refine Wx.go ?_
   refine Wc.ret ?_
   refine Wx.blockRet ?_
   refine Wx.thenRet ?_
   refine Wx.fin1 rfl (.inl rfl) (fun w hs => ?_)
   exact ⟨(), trivial, congrArg Value.bool (Eq.symm (decide_eq_false (by unfold MayP; omega))), (st_drop (st_pull [2] hs))⟩
 ·
  refine Wl.q (v := Value.bool false) (q_eql (r := false) rfl rfl (decide_eq_false h2)) ?_
  refine Wl.q (v := Value.bool false) (q_assign rfl) ?_
  refine Wl.done ?_
  refine Wx.go ?_
  refine Wc.no rfl ?_
  refine Wc.seq ?_
  refine Wc.region ?_
  by_cases h6 : ((t.kind : Nat) : Int) = 2
  ·
   refine Wl.q (v := Value.bool true) (q_eql (r := true) rfl rfl (decide_eq_true h6)) ?_
   refine Wl.q (v := Value.bool true) (q_assign rfl) ?_
   refine Wl.done ?_
   refine Wx.go ?_
   refine Wc.yes rfl ?_
   refine Wc.seq ?_
   refine Wc.region ?_
   refine Wl.q (v := Value.pointer (some ⟨b1, 2, none⟩)) (q_field (m := 2) fo_89_2 rfl rfl) ?_
   refine Wl.q (v := Value.int .i64 t.a) (q_load sc_3 rfl (.cel (i := 2) rfl rfl)) ?_
   by_cases h7 : t.a = 0
   ·
    refine Wl.q (v := Value.bool true) (q_eql (r := true) rfl rfl (decide_eq_true h7)) ?_
    refine Wl.q (v := Value.bool true) (q_move rfl) ?_
    refine Wl.q (v := Value.pointer (some ⟨b1, 3, none⟩)) (q_field (m := 3) fo_89_3 rfl rfl) ?_
    refine Wl.q (v := Value.int .i64 t.b) (q_load sc_3 rfl (.cel (i := 2) rfl rfl)) ?_
    by_cases h8 : t.b = 0
    ·
     refine Wl.q (v := Value.bool true) (q_eql (r := true) rfl rfl (decide_eq_true h8)) ?_
     refine Wl.q (v := Value.bool true) (q_pick (t := true) rfl rfl) ?_
     refine Wl.q (v := Value.bool true) (q_assign rfl) ?_
     refine Wl.done ?_
     refine Wx.go ?_
     refine Wc.ret ?_
     refine Wx.blockRet ?_
     refine Wx.thenRet ?_
     refine Wx.fin1 rfl (.inl rfl) (fun w hs => ?_)
     exact ⟨(), trivial, congrArg Value.bool (Eq.symm (decide_eq_true (by unfold MayP; omega))), (st_drop (st_pull [2] hs))⟩
    ·
     refine Wl.q (v := Value.bool false) (q_eql (r := false) rfl rfl (decide_eq_false h8)) ?_
     refine Wl.q (v := Value.bool false) (q_pick (t := true) rfl rfl) ?_
     refine Wl.q (v := Value.bool false) (q_assign rfl) ?_
     refine Wl.done ?_
     refine Wx.go ?_
     refine Wc.ret ?_
     refine Wx.blockRet ?_
     refine Wx.thenRet ?_
     refine Wx.fin1 rfl (.inl rfl) (fun w hs => ?_)
     exact ⟨(), trivial, congrArg Value.bool (Eq.symm (decide_eq_false (by unfold MayP; omega))), (st_drop (st_pull [2] hs))⟩
   ·
    refine Wl.q (v := Value.bool false) (q_eql (r := false) rfl rfl (decide_eq_false h7)) ?_
    refine Wl.q (v := Value.bool false) (q_move rfl) ?_
    refine Wl.no ?_
    refine Wl.no ?_
    refine Wl.no ?_
    refine Wl.q (v := Value.bool false) (q_pick (t := false) rfl rfl) ?_
    refine Wl.q (v := Value.bool false) (q_assign rfl) ?_
    refine Wl.done ?_
    refine Wx.go ?_
    refine Wc.ret ?_
    refine Wx.blockRet ?_
    refine Wx.thenRet ?_
    refine Wx.fin1 rfl (.inl rfl) (fun w hs => ?_)
    exact ⟨(), trivial, congrArg Value.bool (Eq.symm (decide_eq_false (by unfold MayP; omega))), (st_drop (st_pull [2] hs))⟩
  ·
   refine Wl.q (v := Value.bool false) (q_eql (r := false) rfl rfl (decide_eq_false h6)) ?_
   refine Wl.q (v := Value.bool false) (q_assign rfl) ?_
   refine Wl.done ?_
   refine Wx.go ?_
   refine Wc.no rfl ?_
   refine Wc.seq ?_
   refine Wc.seq ?_
   refine Wc.region ?_
   by_cases h9 : ((t.kind : Nat) : Int) = 3
   ·
    refine Wl.q (v := Value.bool true) (q_eql (r := true) rfl rfl (decide_eq_true h9)) ?_
    refine Wl.q (v := Value.bool true) (q_assign rfl) ?_
    refine Wl.done ?_
    refine Wx.go ?_
    refine Wc.yes rfl ?_
    refine Wc.skip ?_
    refine Wx.go ?_
    refine Wc.yes rfl ?_
    refine Wc.seq ?_
    refine Wc.region ?_
    refine Wl.q (v := Value.pointer (some ⟨b1, 1, none⟩)) (q_field (m := 1) fo_89_1 rfl rfl) ?_
    refine Wl.q (v := Value.int .i64 t.n) (q_load sc_2 rfl (.cel (i := 2) rfl rfl)) ?_
    by_cases h10 : t.n = 0
    ·
     refine Wl.q (v := Value.bool true) (q_eql (r := true) rfl rfl (decide_eq_true h10)) ?_
     refine Wl.q (v := Value.bool true) (q_move rfl) ?_
     refine Wl.q (v := Value.bool false) (q_move rfl) ?_
     refine Wl.q (v := Value.bool false) (q_pick (t := true) rfl rfl) ?_
     refine Wl.q (v := Value.bool false) (q_move rfl) ?_
     refine Wl.no ?_
     refine Wl.q (v := Value.bool false) (q_pick (t := false) rfl rfl) ?_
     refine Wl.q (v := Value.bool false) (q_assign rfl) ?_
     refine Wl.done ?_
     refine Wx.go ?_
     refine Wc.ret ?_
     refine Wx.blockRet ?_
     refine Wx.thenRet ?_
     refine Wx.fin1 rfl (.inl rfl) (fun w hs => ?_)
     exact ⟨(), trivial, congrArg Value.bool (Eq.symm (decide_eq_false (by unfold MayP; omega))), (st_drop (st_pull [2] hs))⟩
    ·
     refine Wl.q (v := Value.bool false) (q_eql (r := false) rfl rfl (decide_eq_false h10)) ?_
     refine Wl.q (v := Value.bool false) (q_move rfl) ?_
     refine Wl.no ?_
     refine Wl.q (v := Value.bool false) (q_pick (t := false) rfl rfl) ?_
     refine Wl.q (v := Value.bool false) (q_move rfl) ?_
     refine Wl.no ?_
     refine Wl.q (v := Value.bool false) (q_pick (t := false) rfl rfl) ?_
     refine Wl.q (v := Value.bool false) (q_assign rfl) ?_
     refine Wl.done ?_
     refine Wx.go ?_
     refine Wc.ret ?_
     refine Wx.blockRet ?_
     refine Wx.thenRet ?_
     refine Wx.fin1 rfl (.inl rfl) (fun w hs => ?_)
     exact ⟨(), trivial, congrArg Value.bool (Eq.symm (decide_eq_false (by unfold MayP; omega))), (st_drop (st_pull [2] hs))⟩
   ·
    refine Wl.q (v := Value.bool false) (q_eql (r := false) rfl rfl (decide_eq_false h9)) ?_
    refine Wl.q (v := Value.bool false) (q_assign rfl) ?_
    refine Wl.done ?_
    refine Wx.go ?_
    refine Wc.no rfl ?_
    refine Wc.region ?_
    by_cases h11 : ((t.kind : Nat) : Int) = 6
    ·
     refine Wl.q (v := Value.bool true) (q_eql (r := true) rfl rfl (decide_eq_true h11)) ?_
     refine Wl.q (v := Value.bool true) (q_assign rfl) ?_
     refine Wl.done ?_
     refine Wx.go ?_
     refine Wc.yes rfl ?_
     refine Wc.seq ?_
     refine Wc.region ?_
     refine Wl.q (v := Value.pointer (some ⟨b1, 1, none⟩)) (q_field (m := 1) fo_89_1 rfl rfl) ?_
     refine Wl.q (v := Value.int .i64 t.n) (q_load sc_2 rfl (.cel (i := 2) rfl rfl)) ?_
     by_cases h12 : t.n = 0
     ·
      refine Wl.q (v := Value.bool true) (q_eql (r := true) rfl rfl (decide_eq_true h12)) ?_
      refine Wl.q (v := Value.bool true) (q_move rfl) ?_
      refine Wl.q (v := Value.bool false) (q_move rfl) ?_
      refine Wl.q (v := Value.bool false) (q_pick (t := true) rfl rfl) ?_
      refine Wl.q (v := Value.bool false) (q_move rfl) ?_
      refine Wl.no ?_
      refine Wl.q (v := Value.bool false) (q_pick (t := false) rfl rfl) ?_
      refine Wl.q (v := Value.bool false) (q_assign rfl) ?_
      refine Wl.done ?_
      refine Wx.go ?_
      refine Wc.ret ?_
      refine Wx.blockRet ?_
      refine Wx.thenRet ?_
      refine Wx.fin1 rfl (.inl rfl) (fun w hs => ?_)
      exact ⟨(), trivial, congrArg Value.bool (Eq.symm (decide_eq_false (by unfold MayP; omega))), (st_drop (st_pull [2] hs))⟩
     ·
      refine Wl.q (v := Value.bool false) (q_eql (r := false) rfl rfl (decide_eq_false h12)) ?_
      refine Wl.q (v := Value.bool false) (q_move rfl) ?_
      refine Wl.no ?_
      refine Wl.q (v := Value.bool false) (q_pick (t := false) rfl rfl) ?_
      refine Wl.q (v := Value.bool false) (q_move rfl) ?_
      refine Wl.no ?_
      refine Wl.q (v := Value.bool false) (q_pick (t := false) rfl rfl) ?_
      refine Wl.q (v := Value.bool false) (q_assign rfl) ?_
      refine Wl.done ?_
      refine Wx.go ?_
      refine Wc.ret ?_
      refine Wx.blockRet ?_
      refine Wx.thenRet ?_
      refine Wx.fin1 rfl (.inl rfl) (fun w hs => ?_)
      exact ⟨(), trivial, congrArg Value.bool (Eq.symm (decide_eq_false (by unfold MayP; omega))), (st_drop (st_pull [2] hs))⟩
    ·
     refine Wl.q (v := Value.bool false) (q_eql (r := false) rfl rfl (decide_eq_false h11)) ?_
     refine Wl.q (v := Value.bool false) (q_assign rfl) ?_
     refine Wl.done ?_
     refine Wx.go ?_
     refine Wc.no rfl ?_
     refine Wc.seq ?_
     refine Wc.region ?_
     by_cases h13 : ((t.kind : Nat) : Int) = 4
     ·
      refine Wl.q (v := Value.bool true) (q_eql (r := true) rfl rfl (decide_eq_true h13)) ?_
      refine Wl.q (v := Value.bool true) (q_assign rfl) ?_
      refine Wl.done ?_
      refine Wx.go ?_
      refine Wc.yes rfl ?_
      refine Wc.seq ?_
      refine Wc.region ?_
      refine Wl.q (v := Value.pointer (some ⟨b1, 1, none⟩)) (q_field (m := 1) fo_89_1 rfl rfl) ?_
      refine Wl.q (v := Value.int .i64 t.n) (q_load sc_2 rfl (.cel (i := 2) rfl rfl)) ?_
      by_cases h14 : t.n ≥ 0
      ·
       refine Wl.q (v := Value.bool true) (q_geq (r := true) rfl rfl (decide_eq_true h14)) ?_
       refine Wl.q (v := Value.bool true) (q_move rfl) ?_
       refine Wl.q (v := Value.bool false) (q_move rfl) ?_
       refine Wl.q (v := Value.bool false) (q_pick (t := true) rfl rfl) ?_
       refine Wl.q (v := Value.bool false) (q_move rfl) ?_
       refine Wl.no ?_
       refine Wl.no ?_
       refine Wl.no ?_
       refine Wl.no ?_
       refine Wl.no ?_
       refine Wl.no ?_
       refine Wl.q (v := Value.bool false) (q_pick (t := false) rfl rfl) ?_
       refine Wl.q (v := Value.bool false) (q_assign rfl) ?_
       refine Wl.done ?_
       refine Wx.go ?_
       refine Wc.ret ?_
       refine Wx.blockRet ?_
       refine Wx.thenRet ?_
       refine Wx.fin1 rfl (.inl rfl) (fun w hs => ?_)
       exact ⟨(), trivial, congrArg Value.bool (Eq.symm (decide_eq_false (by unfold MayP; omega))), (st_drop (st_pull [2] hs))⟩
      ·
       refine Wl.q (v := Value.bool false) (q_geq (r := false) rfl rfl (decide_eq_false h14)) ?_
       refine Wl.q (v := Value.bool false) (q_move rfl) ?_
       refine Wl.no ?_
       refine Wl.q (v := Value.bool false) (q_pick (t := false) rfl rfl) ?_
       refine Wl.q (v := Value.bool false) (q_move rfl) ?_
       refine Wl.no ?_
       refine Wl.no ?_
       refine Wl.no ?_
       refine Wl.no ?_
       refine Wl.no ?_
       refine Wl.no ?_
       refine Wl.q (v := Value.bool false) (q_pick (t := false) rfl rfl) ?_
       refine Wl.q (v := Value.bool false) (q_assign rfl) ?_
       refine Wl.done ?_
       refine Wx.go ?_
       refine Wc.ret ?_
       refine Wx.blockRet ?_
       refine Wx.thenRet ?_
       refine Wx.fin1 rfl (.inl rfl) (fun w hs => ?_)
       exact ⟨(), trivial, congrArg Value.bool (Eq.symm (decide_eq_false (by unfold MayP; omega))), (st_drop (st_pull [2] hs))⟩
     ·
      refine Wl.q (v := Value.bool false) (q_eql (r := false) rfl rfl (decide_eq_false h13)) ?_
      refine Wl.q (v := Value.bool false) (q_assign rfl) ?_
      refine Wl.done ?_
      refine Wx.go ?_
      refine Wc.no rfl ?_
      refine Wc.seq ?_
      refine Wc.seq ?_
      refine Wc.region ?_
      by_cases h15 : ((t.kind : Nat) : Int) = 5
      ·
       refine Wl.q (v := Value.bool true) (q_eql (r := true) rfl rfl (decide_eq_true h15)) ?_
       refine Wl.q (v := Value.bool true) (q_assign rfl) ?_
       refine Wl.done ?_
       refine Wx.go ?_
       refine Wc.yes rfl ?_
       refine Wc.skip ?_
       refine Wx.go ?_
       refine Wc.yes rfl ?_
       refine Wc.seq ?_
       refine Wc.region ?_
       refine Wl.q (v := Value.pointer (some ⟨b1, 1, none⟩)) (q_field (m := 1) fo_89_1 rfl rfl) ?_
       refine Wl.q (v := Value.int .i64 t.n) (q_load sc_2 rfl (.cel (i := 2) rfl rfl)) ?_
       by_cases h16 : t.n = 0
       ·
        refine Wl.q (v := Value.bool true) (q_eql (r := true) rfl rfl (decide_eq_true h16)) ?_
        refine Wl.q (v := Value.bool true) (q_move rfl) ?_
        refine Wl.q (v := Value.bool false) (q_move rfl) ?_
        refine Wl.q (v := Value.bool false) (q_pick (t := true) rfl rfl) ?_
        refine Wl.q (v := Value.bool false) (q_move rfl) ?_
        refine Wl.no ?_
        refine Wl.no ?_
        refine Wl.no ?_
        refine Wl.q (v := Value.bool false) (q_pick (t := false) rfl rfl) ?_
        refine Wl.q (v := Value.bool false) (q_assign rfl) ?_
        refine Wl.done ?_
        refine Wx.go ?_
        refine Wc.ret ?_
        refine Wx.blockRet ?_
        refine Wx.thenRet ?_
        refine Wx.fin1 rfl (.inl rfl) (fun w hs => ?_)
        exact ⟨(), trivial, congrArg Value.bool (Eq.symm (decide_eq_false (by unfold MayP; omega))), (st_drop (st_pull [2] hs))⟩
       ·
        refine Wl.q (v := Value.bool false) (q_eql (r := false) rfl rfl (decide_eq_false h16)) ?_
        refine Wl.q (v := Value.bool false) (q_move rfl) ?_
        refine Wl.no ?_
        refine Wl.q (v := Value.bool false) (q_pick (t := false) rfl rfl) ?_
        refine Wl.q (v := Value.bool false) (q_move rfl) ?_
        refine Wl.no ?_
        refine Wl.no ?_
        refine Wl.no ?_
        refine Wl.q (v := Value.bool false) (q_pick (t := false) rfl rfl) ?_
        refine Wl.q (v := Value.bool false) (q_assign rfl) ?_
        refine Wl.done ?_
        refine Wx.go ?_
        refine Wc.ret ?_
        refine Wx.blockRet ?_
        refine Wx.thenRet ?_
        refine Wx.fin1 rfl (.inl rfl) (fun w hs => ?_)
        exact ⟨(), trivial, congrArg Value.bool (Eq.symm (decide_eq_false (by unfold MayP; omega))), (st_drop (st_pull [2] hs))⟩
      ·
       refine Wl.q (v := Value.bool false) (q_eql (r := false) rfl rfl (decide_eq_false h15)) ?_
       refine Wl.q (v := Value.bool false) (q_assign rfl) ?_
       refine Wl.done ?_
       refine Wx.go ?_
       refine Wc.no rfl ?_
       refine Wc.region ?_
       by_cases h17 : ((t.kind : Nat) : Int) = 7
       ·
        refine Wl.q (v := Value.bool true) (q_eql (r := true) rfl rfl (decide_eq_true h17)) ?_
        refine Wl.q (v := Value.bool true) (q_assign rfl) ?_
        refine Wl.done ?_
        refine Wx.go ?_
        refine Wc.yes rfl ?_
        refine Wc.seq ?_
        refine Wc.region ?_
        refine Wl.q (v := Value.pointer (some ⟨b1, 1, none⟩)) (q_field (m := 1) fo_89_1 rfl rfl) ?_
        refine Wl.q (v := Value.int .i64 t.n) (q_load sc_2 rfl (.cel (i := 2) rfl rfl)) ?_
        by_cases h18 : t.n = 0
        ·
         refine Wl.q (v := Value.bool true) (q_eql (r := true) rfl rfl (decide_eq_true h18)) ?_
         refine Wl.q (v := Value.bool true) (q_move rfl) ?_
         refine Wl.q (v := Value.bool false) (q_move rfl) ?_
         refine Wl.q (v := Value.bool false) (q_pick (t := true) rfl rfl) ?_
         refine Wl.q (v := Value.bool false) (q_move rfl) ?_
         refine Wl.no ?_
         refine Wl.no ?_
         refine Wl.no ?_
         refine Wl.q (v := Value.bool false) (q_pick (t := false) rfl rfl) ?_
         refine Wl.q (v := Value.bool false) (q_assign rfl) ?_
         refine Wl.done ?_
         refine Wx.go ?_
         refine Wc.ret ?_
         refine Wx.blockRet ?_
         refine Wx.thenRet ?_
         refine Wx.fin1 rfl (.inl rfl) (fun w hs => ?_)
         exact ⟨(), trivial, congrArg Value.bool (Eq.symm (decide_eq_false (by unfold MayP; omega))), (st_drop (st_pull [2] hs))⟩
        ·
         refine Wl.q (v := Value.bool false) (q_eql (r := false) rfl rfl (decide_eq_false h18)) ?_
         refine Wl.q (v := Value.bool false) (q_move rfl) ?_
         refine Wl.no ?_
         refine Wl.q (v := Value.bool false) (q_pick (t := false) rfl rfl) ?_
         refine Wl.q (v := Value.bool false) (q_move rfl) ?_
         refine Wl.no ?_
         refine Wl.no ?_
         refine Wl.no ?_
         refine Wl.q (v := Value.bool false) (q_pick (t := false) rfl rfl) ?_
         refine Wl.q (v := Value.bool false) (q_assign rfl) ?_
         refine Wl.done ?_
         refine Wx.go ?_
         refine Wc.ret ?_
         refine Wx.blockRet ?_
         refine Wx.thenRet ?_
         refine Wx.fin1 rfl (.inl rfl) (fun w hs => ?_)
         exact ⟨(), trivial, congrArg Value.bool (Eq.symm (decide_eq_false (by unfold MayP; omega))), (st_drop (st_pull [2] hs))⟩
       ·
        refine Wl.q (v := Value.bool false) (q_eql (r := false) rfl rfl (decide_eq_false h17)) ?_
        refine Wl.q (v := Value.bool false) (q_assign rfl) ?_
        refine Wl.done ?_
        refine Wx.go ?_
        refine Wc.no rfl ?_
        refine Wc.skip ?_
        refine Wx.blockEnd ?_
        refine Wx.go ?_
        refine Wc.seq ?_
        refine Wc.region ?_
        refine Wl.q (v := Value.bool false) (q_assign rfl) ?_
        refine Wl.done ?_
        refine Wx.go ?_
        refine Wc.ret ?_
        refine Wx.fin1 rfl (.inl rfl) (fun w hs => ?_)
        exact ⟨(), trivial, congrArg Value.bool (Eq.symm (decide_eq_false (by unfold MayP; omega))), (st_drop (st_pull [2] hs))⟩

theorem may_c (W0 : World) (s : Nat) (v : Value) (mb m : Nat) (xs : List Value) (t : TermR) : Con Tryz.prog W0 133 #[Value.pointer (some ⟨s, 0, none⟩), Value.agg #[Value.int .u8 ((t.kind : Nat) : Int), Value.int .i64 t.n, Value.int .i64 t.a, Value.int .i64 t.b]] [pt s 116 [v, Value.map (some mb)], sl 89 4 v m xs] (X := Unit) (fun _ => True) (fun _ => .bool (may m t)) (fun _ => [pt s 116 [v, Value.map (some mb)], sl 89 4 v m xs]) := by
 by_cases ha : 1 ≤ t.a ∧ t.a ≤ (m : Int) <;> by_cases hb : 1 ≤ t.b ∧ t.b ≤ (m : Int)
 · exact may_11 W0 s v mb m xs t ha hb
 · exact may_10 W0 s v mb m xs t ha hb
 · exact may_01 W0 s v mb m xs t ha hb
 · exact may_00 W0 s v mb m xs t ha hb
theorem may_is (W0 : World) (s : Nat) (v : Value) (mb m : Nat) (xs : List Value) (t : TermR) {b : Bool} (h : may m t = b) : Con Tryz.prog W0 133 #[Value.pointer (some ⟨s, 0, none⟩), Value.agg #[Value.int .u8 ((t.kind : Nat) : Int), Value.int .i64 t.n, Value.int .i64 t.a, Value.int .i64 t.b]] [pt s 116 [v, Value.map (some mb)], sl 89 4 v m xs] (X := Unit) (fun _ => True) (fun _ => .bool b) (fun _ => [pt s 116 [v, Value.map (some mb)], sl 89 4 v m xs]) := h ▸ may_c W0 s v mb m xs t

theorem make_no (W0 : World) (s : Nat) (v : Value) (mb : Nat) (ts : List TermR) (t : TermR) (hw : Wf ts) (hl : ts.length ≤ 1048576) (ht : okT t) (hm : may ts.length t = false) :
  Con Tryz.prog W0 18 #[Value.pointer (some ⟨s, 0, none⟩), Value.agg #[Value.int .u8 ((t.kind : Nat) : Int), Value.int .i64 t.n, Value.int .i64 t.a, Value.int .i64 t.b]] [pt s 116 [v, Value.map (some mb)], sl 89 4 v ts.length (ts.flatMap termCells), mp mb (ents ts)] (X := Unit) (fun _ => True) (fun _ => .tuple #[.int .i64 0, .int .i64 1]) (fun _ => [pt s 116 [v, Value.map (some mb)], sl 89 4 v ts.length (ts.flatMap termCells), mp mb (ents ts)]) := by
 refine Con.of (args := [Value.pointer (some ⟨s, 0, none⟩), Value.agg #[Value.int .u8 ((t.kind : Nat) : Int), Value.int .i64 t.n, Value.int .i64 t.a, Value.int .i64 t.b]]) Tryz.func18 rfl Tryz.ntmps18 rfl (fun F => ?_)
 show Wc _ W0 _ _ _ _ _ ((pt s 116 [v, Value.map (some mb)]) :: (sl 89 4 v ts.length (ts.flatMap termCells)) :: (mp mb (ents ts)) :: F)
 refine Wc.seq ?_
 refine Wc.region ?_
 refine Wl.e (e_box (x := .tmp 1) (vs := [Value.int .u8 ((t.kind : Nat) : Int), Value.int .i64 t.n, Value.int .i64 t.a, Value.int .i64 t.b]) rfl) (fun b1 _ => ?_)
 refine Wl.imp (L' := (pt b1 89 [Value.int .u8 ((t.kind : Nat) : Int), Value.int .i64 t.n, Value.int .i64 t.a, Value.int .i64 t.b]) :: (pt s 116 [v, Value.map (some mb)]) :: (sl 89 4 v ts.length (ts.flatMap termCells)) :: (mp mb (ents ts)) :: F) (fun _ h => h) ?_
 refine Wl.q (v := Value.int .i64 0) (q_assign rfl) ?_
 refine Wl.q (v := Value.int .i64 0) (q_assign rfl) ?_
 refine Wl.done ?_
 refine Wx.go ?_
 refine Wc.seq ?_
 refine Wc.seq ?_
 refine Wc.region ?_
 refine Wl.q (v := Value.pointer (some ⟨s, 0, none⟩)) (q_move rfl) ?_
 refine Wl.imp (L' := (pt s 116 [v, Value.map (some mb)]) :: (pt b1 89 [Value.int .u8 ((t.kind : Nat) : Int), Value.int .i64 t.n, Value.int .i64 t.a, Value.int .i64 t.b]) :: (sl 89 4 v ts.length (ts.flatMap termCells)) :: (mp mb (ents ts)) :: F) (fun _ h => st_pull [1] h) ?_
 refine Wl.e (e_call (F := (pt b1 89 [Value.int .u8 ((t.kind : Nat) : Int), Value.int .i64 t.n, Value.int .i64 t.a, Value.int .i64 t.b]) :: (sl 89 4 v ts.length (ts.flatMap termCells)) :: (mp mb (ents ts)) :: F) (args := [Value.pointer (some ⟨s, 0, none⟩)]) Tryz.call132 rfl (made_c W0 s (v) mb)) (fun _ _ => ?_)
 refine Wl.imp (L' := (pt s 116 [v, Value.map (some mb)]) :: (pt b1 89 [Value.int .u8 ((t.kind : Nat) : Int), Value.int .i64 t.n, Value.int .i64 t.a, Value.int .i64 t.b]) :: (sl 89 4 v ts.length (ts.flatMap termCells)) :: (mp mb (ents ts)) :: F) (fun _ h => h) ?_
 refine Wl.q (v := Value.bool false) (q_not rfl rfl) ?_
 refine Wl.done ?_
 refine Wx.go ?_
 refine Wc.no rfl ?_
 refine Wc.skip ?_
 refine Wx.go ?_
 refine Wc.seq ?_
 refine Wc.seq ?_
 refine Wc.region ?_
 refine Wl.q (v := Value.pointer (some ⟨s, 0, none⟩)) (q_move rfl) ?_
 refine Wl.q (v := Value.agg #[Value.int .u8 ((t.kind : Nat) : Int), Value.int .i64 t.n, Value.int .i64 t.a, Value.int .i64 t.b]) (q_loadAgg (vs := [Value.int .u8 ((t.kind : Nat) : Int), Value.int .i64 t.n, Value.int .i64 t.a, Value.int .i64 t.b]) ag_89 rfl (Has.of_pt (i := 1) rfl rfl)) ?_
 refine Wl.imp (L' := (pt s 116 [v, Value.map (some mb)]) :: (sl 89 4 v ts.length (ts.flatMap termCells)) :: (pt b1 89 [Value.int .u8 ((t.kind : Nat) : Int), Value.int .i64 t.n, Value.int .i64 t.a, Value.int .i64 t.b]) :: (mp mb (ents ts)) :: F) (fun _ h => st_pull [0, 1] h) ?_
 refine Wl.e (e_call (F := (pt b1 89 [Value.int .u8 ((t.kind : Nat) : Int), Value.int .i64 t.n, Value.int .i64 t.a, Value.int .i64 t.b]) :: (mp mb (ents ts)) :: F) (args := [Value.pointer (some ⟨s, 0, none⟩), Value.agg #[Value.int .u8 ((t.kind : Nat) : Int), Value.int .i64 t.n, Value.int .i64 t.a, Value.int .i64 t.b]]) Tryz.call133 rfl (may_is W0 s (v) mb ts.length (ts.flatMap termCells) t hm)) (fun _ _ => ?_)
 refine Wl.imp (L' := (pt s 116 [v, Value.map (some mb)]) :: (sl 89 4 v ts.length (ts.flatMap termCells)) :: (pt b1 89 [Value.int .u8 ((t.kind : Nat) : Int), Value.int .i64 t.n, Value.int .i64 t.a, Value.int .i64 t.b]) :: (mp mb (ents ts)) :: F) (fun _ h => h) ?_
 refine Wl.q (v := Value.bool true) (q_not rfl rfl) ?_
 refine Wl.done ?_
 refine Wx.go ?_
 refine Wc.yes rfl ?_
 refine Wc.seq ?_
 refine Wc.region ?_
 refine Wl.q (v := Value.int .i64 0) (q_assign rfl) ?_
 refine Wl.q (v := Value.int .i64 1) (q_assign rfl) ?_
 refine Wl.done ?_
 refine Wx.go ?_
 refine Wc.ret ?_
 refine Wx.thenRet ?_
 refine Wx.fin2 rfl (.inl rfl) (fun w hs => ?_)
 exact ⟨(), trivial, rfl, (st_drop (st_pull [2] hs))⟩

theorem make_old (W0 : World) (s : Nat) (v : Value) (mb : Nat) (ts : List TermR) (t : TermR) (hw : Wf ts) (hl : ts.length ≤ 1048576) (ht : okT t) (hm : may ts.length t = true) (hi : t ∈ ts) :
  Con Tryz.prog W0 18 #[Value.pointer (some ⟨s, 0, none⟩), Value.agg #[Value.int .u8 ((t.kind : Nat) : Int), Value.int .i64 t.n, Value.int .i64 t.a, Value.int .i64 t.b]] [pt s 116 [v, Value.map (some mb)], sl 89 4 v ts.length (ts.flatMap termCells), mp mb (ents ts)] (X := Unit) (fun _ => True) (fun _ => .tuple #[.int .i64 ((ts.idxOf t + 1 : Nat) : Int), .int .i64 0]) (fun _ => [pt s 116 [v, Value.map (some mb)], sl 89 4 v ts.length (ts.flatMap termCells), mp mb (ents ts)]) := by
 refine Con.of (args := [Value.pointer (some ⟨s, 0, none⟩), Value.agg #[Value.int .u8 ((t.kind : Nat) : Int), Value.int .i64 t.n, Value.int .i64 t.a, Value.int .i64 t.b]]) Tryz.func18 rfl Tryz.ntmps18 rfl (fun F => ?_)
 show Wc _ W0 _ _ _ _ _ ((pt s 116 [v, Value.map (some mb)]) :: (sl 89 4 v ts.length (ts.flatMap termCells)) :: (mp mb (ents ts)) :: F)
 refine Wc.seq ?_
 refine Wc.region ?_
 refine Wl.e (e_box (x := .tmp 1) (vs := [Value.int .u8 ((t.kind : Nat) : Int), Value.int .i64 t.n, Value.int .i64 t.a, Value.int .i64 t.b]) rfl) (fun b1 _ => ?_)
 refine Wl.imp (L' := (pt b1 89 [Value.int .u8 ((t.kind : Nat) : Int), Value.int .i64 t.n, Value.int .i64 t.a, Value.int .i64 t.b]) :: (pt s 116 [v, Value.map (some mb)]) :: (sl 89 4 v ts.length (ts.flatMap termCells)) :: (mp mb (ents ts)) :: F) (fun _ h => h) ?_
 refine Wl.q (v := Value.int .i64 0) (q_assign rfl) ?_
 refine Wl.q (v := Value.int .i64 0) (q_assign rfl) ?_
 refine Wl.done ?_
 refine Wx.go ?_
 refine Wc.seq ?_
 refine Wc.seq ?_
 refine Wc.region ?_
 refine Wl.q (v := Value.pointer (some ⟨s, 0, none⟩)) (q_move rfl) ?_
 refine Wl.imp (L' := (pt s 116 [v, Value.map (some mb)]) :: (pt b1 89 [Value.int .u8 ((t.kind : Nat) : Int), Value.int .i64 t.n, Value.int .i64 t.a, Value.int .i64 t.b]) :: (sl 89 4 v ts.length (ts.flatMap termCells)) :: (mp mb (ents ts)) :: F) (fun _ h => st_pull [1] h) ?_
 refine Wl.e (e_call (F := (pt b1 89 [Value.int .u8 ((t.kind : Nat) : Int), Value.int .i64 t.n, Value.int .i64 t.a, Value.int .i64 t.b]) :: (sl 89 4 v ts.length (ts.flatMap termCells)) :: (mp mb (ents ts)) :: F) (args := [Value.pointer (some ⟨s, 0, none⟩)]) Tryz.call132 rfl (made_c W0 s (v) mb)) (fun _ _ => ?_)
 refine Wl.imp (L' := (pt s 116 [v, Value.map (some mb)]) :: (pt b1 89 [Value.int .u8 ((t.kind : Nat) : Int), Value.int .i64 t.n, Value.int .i64 t.a, Value.int .i64 t.b]) :: (sl 89 4 v ts.length (ts.flatMap termCells)) :: (mp mb (ents ts)) :: F) (fun _ h => h) ?_
 refine Wl.q (v := Value.bool false) (q_not rfl rfl) ?_
 refine Wl.done ?_
 refine Wx.go ?_
 refine Wc.no rfl ?_
 refine Wc.skip ?_
 refine Wx.go ?_
 refine Wc.seq ?_
 refine Wc.seq ?_
 refine Wc.region ?_
 refine Wl.q (v := Value.pointer (some ⟨s, 0, none⟩)) (q_move rfl) ?_
 refine Wl.q (v := Value.agg #[Value.int .u8 ((t.kind : Nat) : Int), Value.int .i64 t.n, Value.int .i64 t.a, Value.int .i64 t.b]) (q_loadAgg (vs := [Value.int .u8 ((t.kind : Nat) : Int), Value.int .i64 t.n, Value.int .i64 t.a, Value.int .i64 t.b]) ag_89 rfl (Has.of_pt (i := 1) rfl rfl)) ?_
 refine Wl.imp (L' := (pt s 116 [v, Value.map (some mb)]) :: (sl 89 4 v ts.length (ts.flatMap termCells)) :: (pt b1 89 [Value.int .u8 ((t.kind : Nat) : Int), Value.int .i64 t.n, Value.int .i64 t.a, Value.int .i64 t.b]) :: (mp mb (ents ts)) :: F) (fun _ h => st_pull [0, 1] h) ?_
 refine Wl.e (e_call (F := (pt b1 89 [Value.int .u8 ((t.kind : Nat) : Int), Value.int .i64 t.n, Value.int .i64 t.a, Value.int .i64 t.b]) :: (mp mb (ents ts)) :: F) (args := [Value.pointer (some ⟨s, 0, none⟩), Value.agg #[Value.int .u8 ((t.kind : Nat) : Int), Value.int .i64 t.n, Value.int .i64 t.a, Value.int .i64 t.b]]) Tryz.call133 rfl (may_is W0 s (v) mb ts.length (ts.flatMap termCells) t hm)) (fun _ _ => ?_)
 refine Wl.imp (L' := (pt s 116 [v, Value.map (some mb)]) :: (sl 89 4 v ts.length (ts.flatMap termCells)) :: (pt b1 89 [Value.int .u8 ((t.kind : Nat) : Int), Value.int .i64 t.n, Value.int .i64 t.a, Value.int .i64 t.b]) :: (mp mb (ents ts)) :: F) (fun _ h => h) ?_
 refine Wl.q (v := Value.bool false) (q_not rfl rfl) ?_
 refine Wl.done ?_
 refine Wx.go ?_
 refine Wc.no rfl ?_
 refine Wc.skip ?_
 refine Wx.go ?_
 refine Wc.seq ?_
 refine Wc.seq ?_
 refine Wc.drawsS [] ((pt s 116 [v, Value.map (some mb)]) :: (sl 89 4 v ts.length (ts.flatMap termCells)) :: (pt b1 89 [Value.int .u8 ((t.kind : Nat) : Int), Value.int .i64 t.n, Value.int .i64 t.a, Value.int .i64 t.b]) :: (mp mb (ents ts)) :: []) (by kernel_rfl) ?_
 refine Wr.pure (v := Value.pointer (some ⟨s, 0, none⟩)) 0 rfl (by kernel_rfl) (.inr (fun _ h => st_take [0, 0, 0, 0] h)) (.inl ⟨rfl, fun _ => q_move rfl⟩) ?_
 refine Wr.pure (v := Value.pointer (some ⟨s, 0, none⟩)) 1 rfl (by kernel_rfl) (.inr (fun _ h => st_take [0, 0, 0, 0] h)) (.inl ⟨rfl, fun _ => q_nil_ptr rfl⟩) ?_
 refine Wr.pure (v := Value.pointer (some ⟨s, 1, none⟩)) 2 rfl (by kernel_rfl) (.inr (fun _ h => st_take [0, 0, 0, 0] h)) (.inl ⟨rfl, fun _ => q_field (m := 1) fo_116_1 rfl rfl⟩) ?_
 refine Wr.take (v := Value.map (some mb)) 3 rfl (by kernel_rfl) (fun _ h => st_take [0, 0, 0, 0] h) (.inl ⟨rfl, q_load sc_114 rfl (.cel (i := 0) rfl rfl)⟩) ?_
 refine Wr.take (v := Value.agg #[Value.int .u8 ((t.kind : Nat) : Int), Value.int .i64 t.n, Value.int .i64 t.a, Value.int .i64 t.b]) 4 rfl (by kernel_rfl) (fun _ h => st_take [0, 0, 0, 0] h) (.inl ⟨rfl, q_loadAgg (vs := [Value.int .u8 ((t.kind : Nat) : Int), Value.int .i64 t.n, Value.int .i64 t.a, Value.int .i64 t.b]) ag_89 rfl (Has.of_pt (i := 2) rfl rfl)⟩) ?_
 refine Wr.take (v := Value.tuple #[Value.int .i64 (((ts.idxOf t + 1) : Nat) : Int), Value.bool true]) 5 rfl (by kernel_rfl) (fun _ h => st_take [0, 0, 0, 0] h) (.inl ⟨rfl, q_lookup (i := 3) (key := termV t) (r := natV (ts.idxOf t + 1)) (ok := true) Tryz.underlying114 lawT zo_3 rfl rfl rfl (keyT ht) (ents_keys hw hl) (.inr ⟨(ents_old hw hi).1, (ents_old hw hi).2, rfl⟩)⟩) ?_
 refine Wr.pure (v := Value.tuple #[Value.int .i64 (((ts.idxOf t + 1) : Nat) : Int), Value.bool true]) 6 rfl (by kernel_rfl) (.inr (fun _ h => st_take [0, 0, 0, 0] h)) (.inl ⟨rfl, fun _ => q_move rfl⟩) ?_
 refine Wr.pure (v := Value.int .i64 (((ts.idxOf t + 1) : Nat) : Int)) 7 rfl (by kernel_rfl) (.inr (fun _ h => st_take [0, 0, 0, 0] h)) (.inl ⟨rfl, fun _ => q_extract (i := 0) rfl rfl⟩) ?_
 refine Wr.pure (v := Value.bool true) 8 rfl (by kernel_rfl) (.inr (fun _ h => st_take [0, 0, 0, 0] h)) (.inl ⟨rfl, fun _ => q_extract (i := 1) rfl rfl⟩) ?_
 refine Wr.pure (v := Value.int .i64 (((ts.idxOf t + 1) : Nat) : Int)) 9 rfl (by kernel_rfl) (.inr (fun _ h => st_take [0, 0, 0, 0] h)) (.inl ⟨rfl, fun _ => q_assign rfl⟩) ?_
 refine Wr.pure (v := Value.bool true) 10 rfl (by kernel_rfl) (.inr (fun _ h => st_take [0, 0, 0, 0] h)) (.inl ⟨rfl, fun _ => q_assign rfl⟩) ?_
 refine Wr.done (by kernel_rfl) ?_
 refine Wx.go ?_
 refine Wc.seq ?_
 refine Wc.region ?_
 refine Wl.q (v := Value.bool true) (q_move rfl) ?_
 refine Wl.done ?_
 refine Wx.go ?_
 refine Wc.yes rfl ?_
 refine Wc.seq ?_
 refine Wc.region ?_
 refine Wl.q (v := Value.int .i64 (((ts.idxOf t + 1) : Nat) : Int)) (q_move rfl) ?_
 refine Wl.q (v := Value.int .i64 (((ts.idxOf t + 1) : Nat) : Int)) (q_assign rfl) ?_
 refine Wl.q (v := Value.int .i64 0) (q_assign rfl) ?_
 refine Wl.done ?_
 refine Wx.go ?_
 refine Wc.ret ?_
 refine Wx.thenRet ?_
 refine Wx.fin2 rfl (.inl rfl) (fun w hs => ?_)
 exact ⟨(), trivial, rfl, (st_drop (st_pull [2] hs))⟩

theorem make_full (W0 : World) (s : Nat) (v : Value) (mb : Nat) (ts : List TermR) (t : TermR) (hw : Wf ts) (hl : ts.length ≤ 1048576) (ht : okT t) (hm : may ts.length t = true) (hi : ¬ t ∈ ts) (hf : 1048576 ≤ ts.length) :
  Con Tryz.prog W0 18 #[Value.pointer (some ⟨s, 0, none⟩), Value.agg #[Value.int .u8 ((t.kind : Nat) : Int), Value.int .i64 t.n, Value.int .i64 t.a, Value.int .i64 t.b]] [pt s 116 [v, Value.map (some mb)], sl 89 4 v ts.length (ts.flatMap termCells), mp mb (ents ts)] (X := Unit) (fun _ => True) (fun _ => .tuple #[.int .i64 0, .int .i64 3]) (fun _ => [pt s 116 [v, Value.map (some mb)], sl 89 4 v ts.length (ts.flatMap termCells), mp mb (ents ts)]) := by
 refine Con.of (args := [Value.pointer (some ⟨s, 0, none⟩), Value.agg #[Value.int .u8 ((t.kind : Nat) : Int), Value.int .i64 t.n, Value.int .i64 t.a, Value.int .i64 t.b]]) Tryz.func18 rfl Tryz.ntmps18 rfl (fun F => ?_)
 show Wc _ W0 _ _ _ _ _ ((pt s 116 [v, Value.map (some mb)]) :: (sl 89 4 v ts.length (ts.flatMap termCells)) :: (mp mb (ents ts)) :: F)
 refine Wc.seq ?_
 refine Wc.region ?_
 refine Wl.e (e_box (x := .tmp 1) (vs := [Value.int .u8 ((t.kind : Nat) : Int), Value.int .i64 t.n, Value.int .i64 t.a, Value.int .i64 t.b]) rfl) (fun b1 _ => ?_)
 refine Wl.imp (L' := (pt b1 89 [Value.int .u8 ((t.kind : Nat) : Int), Value.int .i64 t.n, Value.int .i64 t.a, Value.int .i64 t.b]) :: (pt s 116 [v, Value.map (some mb)]) :: (sl 89 4 v ts.length (ts.flatMap termCells)) :: (mp mb (ents ts)) :: F) (fun _ h => h) ?_
 refine Wl.q (v := Value.int .i64 0) (q_assign rfl) ?_
 refine Wl.q (v := Value.int .i64 0) (q_assign rfl) ?_
 refine Wl.done ?_
 refine Wx.go ?_
 refine Wc.seq ?_
 refine Wc.seq ?_
 refine Wc.region ?_
 refine Wl.q (v := Value.pointer (some ⟨s, 0, none⟩)) (q_move rfl) ?_
 refine Wl.imp (L' := (pt s 116 [v, Value.map (some mb)]) :: (pt b1 89 [Value.int .u8 ((t.kind : Nat) : Int), Value.int .i64 t.n, Value.int .i64 t.a, Value.int .i64 t.b]) :: (sl 89 4 v ts.length (ts.flatMap termCells)) :: (mp mb (ents ts)) :: F) (fun _ h => st_pull [1] h) ?_
 refine Wl.e (e_call (F := (pt b1 89 [Value.int .u8 ((t.kind : Nat) : Int), Value.int .i64 t.n, Value.int .i64 t.a, Value.int .i64 t.b]) :: (sl 89 4 v ts.length (ts.flatMap termCells)) :: (mp mb (ents ts)) :: F) (args := [Value.pointer (some ⟨s, 0, none⟩)]) Tryz.call132 rfl (made_c W0 s (v) mb)) (fun _ _ => ?_)
 refine Wl.imp (L' := (pt s 116 [v, Value.map (some mb)]) :: (pt b1 89 [Value.int .u8 ((t.kind : Nat) : Int), Value.int .i64 t.n, Value.int .i64 t.a, Value.int .i64 t.b]) :: (sl 89 4 v ts.length (ts.flatMap termCells)) :: (mp mb (ents ts)) :: F) (fun _ h => h) ?_
 refine Wl.q (v := Value.bool false) (q_not rfl rfl) ?_
 refine Wl.done ?_
 refine Wx.go ?_
 refine Wc.no rfl ?_
 refine Wc.skip ?_
 refine Wx.go ?_
 refine Wc.seq ?_
 refine Wc.seq ?_
 refine Wc.region ?_
 refine Wl.q (v := Value.pointer (some ⟨s, 0, none⟩)) (q_move rfl) ?_
 refine Wl.q (v := Value.agg #[Value.int .u8 ((t.kind : Nat) : Int), Value.int .i64 t.n, Value.int .i64 t.a, Value.int .i64 t.b]) (q_loadAgg (vs := [Value.int .u8 ((t.kind : Nat) : Int), Value.int .i64 t.n, Value.int .i64 t.a, Value.int .i64 t.b]) ag_89 rfl (Has.of_pt (i := 1) rfl rfl)) ?_
 refine Wl.imp (L' := (pt s 116 [v, Value.map (some mb)]) :: (sl 89 4 v ts.length (ts.flatMap termCells)) :: (pt b1 89 [Value.int .u8 ((t.kind : Nat) : Int), Value.int .i64 t.n, Value.int .i64 t.a, Value.int .i64 t.b]) :: (mp mb (ents ts)) :: F) (fun _ h => st_pull [0, 1] h) ?_
 refine Wl.e (e_call (F := (pt b1 89 [Value.int .u8 ((t.kind : Nat) : Int), Value.int .i64 t.n, Value.int .i64 t.a, Value.int .i64 t.b]) :: (mp mb (ents ts)) :: F) (args := [Value.pointer (some ⟨s, 0, none⟩), Value.agg #[Value.int .u8 ((t.kind : Nat) : Int), Value.int .i64 t.n, Value.int .i64 t.a, Value.int .i64 t.b]]) Tryz.call133 rfl (may_is W0 s (v) mb ts.length (ts.flatMap termCells) t hm)) (fun _ _ => ?_)
 refine Wl.imp (L' := (pt s 116 [v, Value.map (some mb)]) :: (sl 89 4 v ts.length (ts.flatMap termCells)) :: (pt b1 89 [Value.int .u8 ((t.kind : Nat) : Int), Value.int .i64 t.n, Value.int .i64 t.a, Value.int .i64 t.b]) :: (mp mb (ents ts)) :: F) (fun _ h => h) ?_
 refine Wl.q (v := Value.bool false) (q_not rfl rfl) ?_
 refine Wl.done ?_
 refine Wx.go ?_
 refine Wc.no rfl ?_
 refine Wc.skip ?_
 refine Wx.go ?_
 refine Wc.seq ?_
 refine Wc.seq ?_
 refine Wc.drawsS [] ((pt s 116 [v, Value.map (some mb)]) :: (sl 89 4 v ts.length (ts.flatMap termCells)) :: (pt b1 89 [Value.int .u8 ((t.kind : Nat) : Int), Value.int .i64 t.n, Value.int .i64 t.a, Value.int .i64 t.b]) :: (mp mb (ents ts)) :: []) (by kernel_rfl) ?_
 refine Wr.pure (v := Value.pointer (some ⟨s, 0, none⟩)) 0 rfl (by kernel_rfl) (.inr (fun _ h => st_take [0, 0, 0, 0] h)) (.inl ⟨rfl, fun _ => q_move rfl⟩) ?_
 refine Wr.pure (v := Value.pointer (some ⟨s, 0, none⟩)) 1 rfl (by kernel_rfl) (.inr (fun _ h => st_take [0, 0, 0, 0] h)) (.inl ⟨rfl, fun _ => q_nil_ptr rfl⟩) ?_
 refine Wr.pure (v := Value.pointer (some ⟨s, 1, none⟩)) 2 rfl (by kernel_rfl) (.inr (fun _ h => st_take [0, 0, 0, 0] h)) (.inl ⟨rfl, fun _ => q_field (m := 1) fo_116_1 rfl rfl⟩) ?_
 refine Wr.take (v := Value.map (some mb)) 3 rfl (by kernel_rfl) (fun _ h => st_take [0, 0, 0, 0] h) (.inl ⟨rfl, q_load sc_114 rfl (.cel (i := 0) rfl rfl)⟩) ?_
 refine Wr.take (v := Value.agg #[Value.int .u8 ((t.kind : Nat) : Int), Value.int .i64 t.n, Value.int .i64 t.a, Value.int .i64 t.b]) 4 rfl (by kernel_rfl) (fun _ h => st_take [0, 0, 0, 0] h) (.inl ⟨rfl, q_loadAgg (vs := [Value.int .u8 ((t.kind : Nat) : Int), Value.int .i64 t.n, Value.int .i64 t.a, Value.int .i64 t.b]) ag_89 rfl (Has.of_pt (i := 2) rfl rfl)⟩) ?_
 refine Wr.take (v := Value.tuple #[Value.int .i64 0, Value.bool false]) 5 rfl (by kernel_rfl) (fun _ h => st_take [0, 0, 0, 0] h) (.inl ⟨rfl, q_lookup (i := 3) (key := termV t) (r := .int .i64 0) (ok := false) Tryz.underlying114 lawT zo_3 rfl rfl rfl (keyT ht) (ents_keys hw hl) (.inl ⟨ents_new hi, rfl, rfl⟩)⟩) ?_
 refine Wr.pure (v := Value.tuple #[Value.int .i64 0, Value.bool false]) 6 rfl (by kernel_rfl) (.inr (fun _ h => st_take [0, 0, 0, 0] h)) (.inl ⟨rfl, fun _ => q_move rfl⟩) ?_
 refine Wr.pure (v := Value.int .i64 0) 7 rfl (by kernel_rfl) (.inr (fun _ h => st_take [0, 0, 0, 0] h)) (.inl ⟨rfl, fun _ => q_extract (i := 0) rfl rfl⟩) ?_
 refine Wr.pure (v := Value.bool false) 8 rfl (by kernel_rfl) (.inr (fun _ h => st_take [0, 0, 0, 0] h)) (.inl ⟨rfl, fun _ => q_extract (i := 1) rfl rfl⟩) ?_
 refine Wr.pure (v := Value.int .i64 0) 9 rfl (by kernel_rfl) (.inr (fun _ h => st_take [0, 0, 0, 0] h)) (.inl ⟨rfl, fun _ => q_assign rfl⟩) ?_
 refine Wr.pure (v := Value.bool false) 10 rfl (by kernel_rfl) (.inr (fun _ h => st_take [0, 0, 0, 0] h)) (.inl ⟨rfl, fun _ => q_assign rfl⟩) ?_
 refine Wr.done (by kernel_rfl) ?_
 refine Wx.go ?_
 refine Wc.seq ?_
 refine Wc.region ?_
 refine Wl.q (v := Value.bool false) (q_move rfl) ?_
 refine Wl.done ?_
 refine Wx.go ?_
 refine Wc.no rfl ?_
 refine Wc.skip ?_
 refine Wx.go ?_
 refine Wc.seq ?_
 refine Wc.seq ?_
 refine Wc.region ?_
 refine Wl.q (v := Value.pointer (some ⟨s, 0, none⟩)) (q_move rfl) ?_
 refine Wl.q (v := Value.pointer (some ⟨s, 0, none⟩)) (q_nil_ptr rfl) ?_
 refine Wl.q (v := Value.pointer (some ⟨s, 0, none⟩)) (q_field (m := 0) fo_116_0 rfl rfl) ?_
 refine Wl.q (v := v) (q_load sc_22 rfl (.cel (i := 0) rfl rfl)) ?_
 refine Wl.q (v := Value.int .i64 ((ts.length : Nat) : Int)) (q_len_sl (i := 1) Tryz.underlying22 rfl rfl) ?_
 refine Wl.q (v := Value.bool true) (q_geq (r := true) rfl rfl (decide_eq_true (by omega))) ?_
 refine Wl.done ?_
 refine Wx.go ?_
 refine Wc.yes rfl ?_
 refine Wc.seq ?_
 refine Wc.region ?_
 refine Wl.q (v := Value.int .i64 0) (q_assign rfl) ?_
 refine Wl.q (v := Value.int .i64 3) (q_assign rfl) ?_
 refine Wl.done ?_
 refine Wx.go ?_
 refine Wc.ret ?_
 refine Wx.thenRet ?_
 refine Wx.fin2 rfl (.inl rfl) (fun w hs => ?_)
 exact ⟨(), trivial, rfl, (st_drop (st_pull [2] hs))⟩

theorem make_new (W0 : World) (s : Nat) (v : Value) (mb : Nat) (ts : List TermR) (t : TermR) (hw : Wf ts) (hl : ts.length ≤ 1048576) (ht : okT t) (hm : may ts.length t = true) (hi : ¬ t ∈ ts) (hf : ts.length < 1048576) :
  Con Tryz.prog W0 18 #[Value.pointer (some ⟨s, 0, none⟩), Value.agg #[Value.int .u8 ((t.kind : Nat) : Int), Value.int .i64 t.n, Value.int .i64 t.a, Value.int .i64 t.b]] [pt s 116 [v, Value.map (some mb)], sl 89 4 v ts.length (ts.flatMap termCells), mp mb (ents ts)] (X := Value) (fun _ => True) (fun _ => .tuple #[.int .i64 ((ts.length + 1 : Nat) : Int), .int .i64 0]) (fun v2 => [pt s 116 [v2, Value.map (some mb)], sl 89 4 v2 (ts.length + 1) (ts.flatMap termCells ++ [Value.int .u8 ((t.kind : Nat) : Int), Value.int .i64 t.n, Value.int .i64 t.a, Value.int .i64 t.b]), mp mb (ents ts ++ [(termV t, natV (ts.length + 1))])]) := by
 refine Con.of (args := [Value.pointer (some ⟨s, 0, none⟩), Value.agg #[Value.int .u8 ((t.kind : Nat) : Int), Value.int .i64 t.n, Value.int .i64 t.a, Value.int .i64 t.b]]) Tryz.func18 rfl Tryz.ntmps18 rfl (fun F => ?_)
 show Wc _ W0 _ _ _ _ _ ((pt s 116 [v, Value.map (some mb)]) :: (sl 89 4 v ts.length (ts.flatMap termCells)) :: (mp mb (ents ts)) :: F)
 refine Wc.seq ?_
 refine Wc.region ?_
 refine Wl.e (e_box (x := .tmp 1) (vs := [Value.int .u8 ((t.kind : Nat) : Int), Value.int .i64 t.n, Value.int .i64 t.a, Value.int .i64 t.b]) rfl) (fun b1 _ => ?_)
 refine Wl.imp (L' := (pt b1 89 [Value.int .u8 ((t.kind : Nat) : Int), Value.int .i64 t.n, Value.int .i64 t.a, Value.int .i64 t.b]) :: (pt s 116 [v, Value.map (some mb)]) :: (sl 89 4 v ts.length (ts.flatMap termCells)) :: (mp mb (ents ts)) :: F) (fun _ h => h) ?_
 refine Wl.q (v := Value.int .i64 0) (q_assign rfl) ?_
 refine Wl.q (v := Value.int .i64 0) (q_assign rfl) ?_
 refine Wl.done ?_
 refine Wx.go ?_
 refine Wc.seq ?_
 refine Wc.seq ?_
 refine Wc.region ?_
 refine Wl.q (v := Value.pointer (some ⟨s, 0, none⟩)) (q_move rfl) ?_
 refine Wl.imp (L' := (pt s 116 [v, Value.map (some mb)]) :: (pt b1 89 [Value.int .u8 ((t.kind : Nat) : Int), Value.int .i64 t.n, Value.int .i64 t.a, Value.int .i64 t.b]) :: (sl 89 4 v ts.length (ts.flatMap termCells)) :: (mp mb (ents ts)) :: F) (fun _ h => st_pull [1] h) ?_
 refine Wl.e (e_call (F := (pt b1 89 [Value.int .u8 ((t.kind : Nat) : Int), Value.int .i64 t.n, Value.int .i64 t.a, Value.int .i64 t.b]) :: (sl 89 4 v ts.length (ts.flatMap termCells)) :: (mp mb (ents ts)) :: F) (args := [Value.pointer (some ⟨s, 0, none⟩)]) Tryz.call132 rfl (made_c W0 s (v) mb)) (fun _ _ => ?_)
 refine Wl.imp (L' := (pt s 116 [v, Value.map (some mb)]) :: (pt b1 89 [Value.int .u8 ((t.kind : Nat) : Int), Value.int .i64 t.n, Value.int .i64 t.a, Value.int .i64 t.b]) :: (sl 89 4 v ts.length (ts.flatMap termCells)) :: (mp mb (ents ts)) :: F) (fun _ h => h) ?_
 refine Wl.q (v := Value.bool false) (q_not rfl rfl) ?_
 refine Wl.done ?_
 refine Wx.go ?_
 refine Wc.no rfl ?_
 refine Wc.skip ?_
 refine Wx.go ?_
 refine Wc.seq ?_
 refine Wc.seq ?_
 refine Wc.region ?_
 refine Wl.q (v := Value.pointer (some ⟨s, 0, none⟩)) (q_move rfl) ?_
 refine Wl.q (v := Value.agg #[Value.int .u8 ((t.kind : Nat) : Int), Value.int .i64 t.n, Value.int .i64 t.a, Value.int .i64 t.b]) (q_loadAgg (vs := [Value.int .u8 ((t.kind : Nat) : Int), Value.int .i64 t.n, Value.int .i64 t.a, Value.int .i64 t.b]) ag_89 rfl (Has.of_pt (i := 1) rfl rfl)) ?_
 refine Wl.imp (L' := (pt s 116 [v, Value.map (some mb)]) :: (sl 89 4 v ts.length (ts.flatMap termCells)) :: (pt b1 89 [Value.int .u8 ((t.kind : Nat) : Int), Value.int .i64 t.n, Value.int .i64 t.a, Value.int .i64 t.b]) :: (mp mb (ents ts)) :: F) (fun _ h => st_pull [0, 1] h) ?_
 refine Wl.e (e_call (F := (pt b1 89 [Value.int .u8 ((t.kind : Nat) : Int), Value.int .i64 t.n, Value.int .i64 t.a, Value.int .i64 t.b]) :: (mp mb (ents ts)) :: F) (args := [Value.pointer (some ⟨s, 0, none⟩), Value.agg #[Value.int .u8 ((t.kind : Nat) : Int), Value.int .i64 t.n, Value.int .i64 t.a, Value.int .i64 t.b]]) Tryz.call133 rfl (may_is W0 s (v) mb ts.length (ts.flatMap termCells) t hm)) (fun _ _ => ?_)
 refine Wl.imp (L' := (pt s 116 [v, Value.map (some mb)]) :: (sl 89 4 v ts.length (ts.flatMap termCells)) :: (pt b1 89 [Value.int .u8 ((t.kind : Nat) : Int), Value.int .i64 t.n, Value.int .i64 t.a, Value.int .i64 t.b]) :: (mp mb (ents ts)) :: F) (fun _ h => h) ?_
 refine Wl.q (v := Value.bool false) (q_not rfl rfl) ?_
 refine Wl.done ?_
 refine Wx.go ?_
 refine Wc.no rfl ?_
 refine Wc.skip ?_
 refine Wx.go ?_
 refine Wc.seq ?_
 refine Wc.seq ?_
 refine Wc.drawsS [] ((pt s 116 [v, Value.map (some mb)]) :: (sl 89 4 v ts.length (ts.flatMap termCells)) :: (pt b1 89 [Value.int .u8 ((t.kind : Nat) : Int), Value.int .i64 t.n, Value.int .i64 t.a, Value.int .i64 t.b]) :: (mp mb (ents ts)) :: []) (by kernel_rfl) ?_
 refine Wr.pure (v := Value.pointer (some ⟨s, 0, none⟩)) 0 rfl (by kernel_rfl) (.inr (fun _ h => st_take [0, 0, 0, 0] h)) (.inl ⟨rfl, fun _ => q_move rfl⟩) ?_
 refine Wr.pure (v := Value.pointer (some ⟨s, 0, none⟩)) 1 rfl (by kernel_rfl) (.inr (fun _ h => st_take [0, 0, 0, 0] h)) (.inl ⟨rfl, fun _ => q_nil_ptr rfl⟩) ?_
 refine Wr.pure (v := Value.pointer (some ⟨s, 1, none⟩)) 2 rfl (by kernel_rfl) (.inr (fun _ h => st_take [0, 0, 0, 0] h)) (.inl ⟨rfl, fun _ => q_field (m := 1) fo_116_1 rfl rfl⟩) ?_
 refine Wr.take (v := Value.map (some mb)) 3 rfl (by kernel_rfl) (fun _ h => st_take [0, 0, 0, 0] h) (.inl ⟨rfl, q_load sc_114 rfl (.cel (i := 0) rfl rfl)⟩) ?_
 refine Wr.take (v := Value.agg #[Value.int .u8 ((t.kind : Nat) : Int), Value.int .i64 t.n, Value.int .i64 t.a, Value.int .i64 t.b]) 4 rfl (by kernel_rfl) (fun _ h => st_take [0, 0, 0, 0] h) (.inl ⟨rfl, q_loadAgg (vs := [Value.int .u8 ((t.kind : Nat) : Int), Value.int .i64 t.n, Value.int .i64 t.a, Value.int .i64 t.b]) ag_89 rfl (Has.of_pt (i := 2) rfl rfl)⟩) ?_
 refine Wr.take (v := Value.tuple #[Value.int .i64 0, Value.bool false]) 5 rfl (by kernel_rfl) (fun _ h => st_take [0, 0, 0, 0] h) (.inl ⟨rfl, q_lookup (i := 3) (key := termV t) (r := .int .i64 0) (ok := false) Tryz.underlying114 lawT zo_3 rfl rfl rfl (keyT ht) (ents_keys hw hl) (.inl ⟨ents_new hi, rfl, rfl⟩)⟩) ?_
 refine Wr.pure (v := Value.tuple #[Value.int .i64 0, Value.bool false]) 6 rfl (by kernel_rfl) (.inr (fun _ h => st_take [0, 0, 0, 0] h)) (.inl ⟨rfl, fun _ => q_move rfl⟩) ?_
 refine Wr.pure (v := Value.int .i64 0) 7 rfl (by kernel_rfl) (.inr (fun _ h => st_take [0, 0, 0, 0] h)) (.inl ⟨rfl, fun _ => q_extract (i := 0) rfl rfl⟩) ?_
 refine Wr.pure (v := Value.bool false) 8 rfl (by kernel_rfl) (.inr (fun _ h => st_take [0, 0, 0, 0] h)) (.inl ⟨rfl, fun _ => q_extract (i := 1) rfl rfl⟩) ?_
 refine Wr.pure (v := Value.int .i64 0) 9 rfl (by kernel_rfl) (.inr (fun _ h => st_take [0, 0, 0, 0] h)) (.inl ⟨rfl, fun _ => q_assign rfl⟩) ?_
 refine Wr.pure (v := Value.bool false) 10 rfl (by kernel_rfl) (.inr (fun _ h => st_take [0, 0, 0, 0] h)) (.inl ⟨rfl, fun _ => q_assign rfl⟩) ?_
 refine Wr.done (by kernel_rfl) ?_
 refine Wx.go ?_
 refine Wc.seq ?_
 refine Wc.region ?_
 refine Wl.q (v := Value.bool false) (q_move rfl) ?_
 refine Wl.done ?_
 refine Wx.go ?_
 refine Wc.no rfl ?_
 refine Wc.skip ?_
 refine Wx.go ?_
 refine Wc.seq ?_
 refine Wc.seq ?_
 refine Wc.region ?_
 refine Wl.q (v := Value.pointer (some ⟨s, 0, none⟩)) (q_move rfl) ?_
 refine Wl.q (v := Value.pointer (some ⟨s, 0, none⟩)) (q_nil_ptr rfl) ?_
 refine Wl.q (v := Value.pointer (some ⟨s, 0, none⟩)) (q_field (m := 0) fo_116_0 rfl rfl) ?_
 refine Wl.q (v := v) (q_load sc_22 rfl (.cel (i := 0) rfl rfl)) ?_
 refine Wl.q (v := Value.int .i64 ((ts.length : Nat) : Int)) (q_len_sl (i := 1) Tryz.underlying22 rfl rfl) ?_
 refine Wl.q (v := Value.bool false) (q_geq (r := false) rfl rfl (decide_eq_false (by omega))) ?_
 refine Wl.done ?_
 refine Wx.go ?_
 refine Wc.no rfl ?_
 refine Wc.skip ?_
 refine Wx.go ?_
 refine Wc.seq ?_
 refine Wc.drawsS [10] ((pt s 116 [v, Value.map (some mb)]) :: (pt b1 89 [Value.int .u8 ((t.kind : Nat) : Int), Value.int .i64 t.n, Value.int .i64 t.a, Value.int .i64 t.b]) :: (mp mb (ents ts)) :: []) (by kernel_rfl) ?_
 refine Wr.pure (v := Value.pointer (some ⟨s, 0, none⟩)) 0 rfl (by kernel_rfl) (.inr (fun _ h => st_take [0, 1, 1] h)) (.inl ⟨rfl, fun _ => q_move rfl⟩) ?_
 refine Wr.pure (v := Value.pointer (some ⟨s, 0, none⟩)) 1 rfl (by kernel_rfl) (.inr (fun _ h => st_take [0, 1, 1] h)) (.inl ⟨rfl, fun _ => q_move rfl⟩) ?_
 refine Wr.pure (v := Value.pointer (some ⟨s, 0, none⟩)) 2 rfl (by kernel_rfl) (.inr (fun _ h => st_take [0, 1, 1] h)) (.inl ⟨rfl, fun _ => q_nil_ptr rfl⟩) ?_
 refine Wr.pure (v := Value.pointer (some ⟨s, 0, none⟩)) 3 rfl (by kernel_rfl) (.inr (fun _ h => st_take [0, 1, 1] h)) (.inl ⟨rfl, fun _ => q_field (m := 0) fo_116_0 rfl rfl⟩) ?_
 refine Wr.take (v := v) 4 rfl (by kernel_rfl) (fun _ h => st_take [0, 1, 1] h) (.inl ⟨rfl, q_load sc_22 rfl (.cel (i := 0) rfl rfl)⟩) ?_
 refine Wr.take (v := Value.agg #[Value.int .u8 ((t.kind : Nat) : Int), Value.int .i64 t.n, Value.int .i64 t.a, Value.int .i64 t.b]) 5 rfl (by kernel_rfl) (fun _ h => st_take [0, 1, 1] h) (.inl ⟨rfl, q_loadAgg (vs := [Value.int .u8 ((t.kind : Nat) : Int), Value.int .i64 t.n, Value.int .i64 t.a, Value.int .i64 t.b]) ag_89 rfl (Has.of_pt (i := 1) rfl rfl)⟩) ?_
 refine Wr.e 6 (by kernel_rfl) rfl (e_buildSlice (cs := [Value.int .u8 ((t.kind : Nat) : Int), Value.int .i64 t.n, Value.int .i64 t.a, Value.int .i64 t.b]) se_22 zo_89 (by decide) (by decide) (by kernel_rfl)) (.inr fun _ _ _ h => st_take [1, 2, 2] h) (fun b2 _ => ?_)
 refine Wr.imp (L' := (pt b2 89 [Value.int .u8 ((t.kind : Nat) : Int), Value.int .i64 t.n, Value.int .i64 t.a, Value.int .i64 t.b]) :: (pt s 116 [v, Value.map (some mb)]) :: (sl 89 4 v ts.length (ts.flatMap termCells)) :: (pt b1 89 [Value.int .u8 ((t.kind : Nat) : Int), Value.int .i64 t.n, Value.int .i64 t.a, Value.int .i64 t.b]) :: (mp mb (ents ts)) :: F) (fun _ h => h) ?_
 refine Wr.more (S' := (pt b2 89 [Value.int .u8 ((t.kind : Nat) : Int), Value.int .i64 t.n, Value.int .i64 t.a, Value.int .i64 t.b]) :: (pt s 116 [v, Value.map (some mb)]) :: (pt b1 89 [Value.int .u8 ((t.kind : Nat) : Int), Value.int .i64 t.n, Value.int .i64 t.a, Value.int .i64 t.b]) :: (mp mb (ents ts)) :: []) (fun _ h => st_drop h) ?_
 refine Wr.e 7 (by kernel_rfl) rfl (e_append (i := 2) (k := 4) (m := 1) (off := 0) (news := [Value.int .u8 ((t.kind : Nat) : Int), Value.int .i64 t.n, Value.int .i64 t.a, Value.int .i64 t.b]) Tryz.underlying22 sz_89 by_89 zo_89 rfl rfl rfl rfl rfl (Has.of_pt (i := 0) rfl rfl) rfl (by decide) (by simp only [maxLen]; omega) (by omega)) (.inr fun _ _ _ h => st_take [0, 0, 1, 1] h) (fun v2 _ => ?_)
 refine Wr.imp (L' := (pt b2 89 [Value.int .u8 ((t.kind : Nat) : Int), Value.int .i64 t.n, Value.int .i64 t.a, Value.int .i64 t.b]) :: (pt s 116 [v, Value.map (some mb)]) :: (sl 89 4 v2 (ts.length + 1) ((ts.flatMap termCells) ++ [Value.int .u8 ((t.kind : Nat) : Int), Value.int .i64 t.n, Value.int .i64 t.a, Value.int .i64 t.b])) :: (pt b1 89 [Value.int .u8 ((t.kind : Nat) : Int), Value.int .i64 t.n, Value.int .i64 t.a, Value.int .i64 t.b]) :: (mp mb (ents ts)) :: F) (fun _ h => h) ?_
 refine Wr.pure (v := Value.pointer (some ⟨s, 0, none⟩)) 8 rfl (by kernel_rfl) (.inr (fun _ h => st_take [0, 0, 1, 1] h)) (.inl ⟨rfl, fun _ => q_nil_ptr rfl⟩) ?_
 refine Wr.pure (v := Value.pointer (some ⟨s, 0, none⟩)) 9 rfl (by kernel_rfl) (.inr (fun _ h => st_take [0, 0, 1, 1] h)) (.inl ⟨rfl, fun _ => q_field (m := 0) fo_116_0 rfl rfl⟩) ?_
 refine Wr.e 10 (by kernel_rfl) rfl (e_store (i := 1) (v := v2) sz_22 rfl rfl (fun _ h => sl_one (i := 2) h rfl) rfl (by simp)) (.inl (by kernel_rfl)) (fun _ _ => ?_)
 refine Wr.imp (L' := (pt b2 89 [Value.int .u8 ((t.kind : Nat) : Int), Value.int .i64 t.n, Value.int .i64 t.a, Value.int .i64 t.b]) :: (pt s 116 [v2, Value.map (some mb)]) :: (sl 89 4 v2 (ts.length + 1) ((ts.flatMap termCells) ++ [Value.int .u8 ((t.kind : Nat) : Int), Value.int .i64 t.n, Value.int .i64 t.a, Value.int .i64 t.b])) :: (pt b1 89 [Value.int .u8 ((t.kind : Nat) : Int), Value.int .i64 t.n, Value.int .i64 t.a, Value.int .i64 t.b]) :: (mp mb (ents ts)) :: F) (fun _ h => h) ?_
 refine Wr.rebaseS [] ((pt b2 89 [Value.int .u8 ((t.kind : Nat) : Int), Value.int .i64 t.n, Value.int .i64 t.a, Value.int .i64 t.b]) :: (pt s 116 [v2, Value.map (some mb)]) :: (sl 89 4 v2 (ts.length + 1) ((ts.flatMap termCells) ++ [Value.int .u8 ((t.kind : Nat) : Int), Value.int .i64 t.n, Value.int .i64 t.a, Value.int .i64 t.b])) :: (pt b1 89 [Value.int .u8 ((t.kind : Nat) : Int), Value.int .i64 t.n, Value.int .i64 t.a, Value.int .i64 t.b]) :: (mp mb (ents ts)) :: []) (by kernel_rfl) ?_
 refine Wr.done (by kernel_rfl) ?_
 refine Wx.go ?_
 refine Wc.seq ?_
 refine Wc.drawsS [10] ((pt b2 89 [Value.int .u8 ((t.kind : Nat) : Int), Value.int .i64 t.n, Value.int .i64 t.a, Value.int .i64 t.b]) :: (pt s 116 [v2, Value.map (some mb)]) :: (sl 89 4 v2 (ts.length + 1) ((ts.flatMap termCells) ++ [Value.int .u8 ((t.kind : Nat) : Int), Value.int .i64 t.n, Value.int .i64 t.a, Value.int .i64 t.b])) :: (pt b1 89 [Value.int .u8 ((t.kind : Nat) : Int), Value.int .i64 t.n, Value.int .i64 t.a, Value.int .i64 t.b]) :: (mp mb (ents ts)) :: []) (by kernel_rfl) ?_
 refine Wr.pure (v := Value.pointer (some ⟨s, 0, none⟩)) 0 rfl (by kernel_rfl) (.inr (fun _ h => st_take [0, 0, 0, 0, 0] h)) (.inl ⟨rfl, fun _ => q_move rfl⟩) ?_
 refine Wr.pure (v := Value.pointer (some ⟨s, 0, none⟩)) 1 rfl (by kernel_rfl) (.inr (fun _ h => st_take [0, 0, 0, 0, 0] h)) (.inl ⟨rfl, fun _ => q_nil_ptr rfl⟩) ?_
 refine Wr.pure (v := Value.pointer (some ⟨s, 1, none⟩)) 2 rfl (by kernel_rfl) (.inr (fun _ h => st_take [0, 0, 0, 0, 0] h)) (.inl ⟨rfl, fun _ => q_field (m := 1) fo_116_1 rfl rfl⟩) ?_
 refine Wr.take (v := Value.map (some mb)) 3 rfl (by kernel_rfl) (fun _ h => st_take [0, 0, 0, 0, 0] h) (.inl ⟨rfl, q_load sc_114 rfl (.cel (i := 1) rfl rfl)⟩) ?_
 refine Wr.take (v := Value.agg #[Value.int .u8 ((t.kind : Nat) : Int), Value.int .i64 t.n, Value.int .i64 t.a, Value.int .i64 t.b]) 4 rfl (by kernel_rfl) (fun _ h => st_take [0, 0, 0, 0, 0] h) (.inl ⟨rfl, q_loadAgg (vs := [Value.int .u8 ((t.kind : Nat) : Int), Value.int .i64 t.n, Value.int .i64 t.a, Value.int .i64 t.b]) ag_89 rfl (Has.of_pt (i := 3) rfl rfl)⟩) ?_
 refine Wr.pure (v := Value.pointer (some ⟨s, 0, none⟩)) 5 rfl (by kernel_rfl) (.inr (fun _ h => st_take [0, 0, 0, 0, 0] h)) (.inl ⟨rfl, fun _ => q_move rfl⟩) ?_
 refine Wr.pure (v := Value.pointer (some ⟨s, 0, none⟩)) 6 rfl (by kernel_rfl) (.inr (fun _ h => st_take [0, 0, 0, 0, 0] h)) (.inl ⟨rfl, fun _ => q_nil_ptr rfl⟩) ?_
 refine Wr.pure (v := Value.pointer (some ⟨s, 0, none⟩)) 7 rfl (by kernel_rfl) (.inr (fun _ h => st_take [0, 0, 0, 0, 0] h)) (.inl ⟨rfl, fun _ => q_field (m := 0) fo_116_0 rfl rfl⟩) ?_
 refine Wr.take (v := v2) 8 rfl (by kernel_rfl) (fun _ h => st_take [0, 0, 0, 0, 0] h) (.inl ⟨rfl, q_load sc_22 rfl (.cel (i := 1) rfl rfl)⟩) ?_
 refine Wr.take (v := Value.int .i64 (((ts.length + 1) : Nat) : Int)) 9 rfl (by kernel_rfl) (fun _ h => st_take [0, 0, 0, 0, 0] h) (.inl ⟨rfl, q_len_sl (i := 2) Tryz.underlying22 rfl rfl⟩) ?_
 refine Wr.e 10 (by kernel_rfl) rfl (e_mapNew (i := 4) (key := termV t) (val := natV (ts.length + 1)) Tryz.underlying114 lawT rfl rfl rfl rfl (keyT ht) (ents_keys hw hl) (ents_new hi)) (.inl (by kernel_rfl)) (fun _ _ => ?_)
 refine Wr.imp (L' := (pt b2 89 [Value.int .u8 ((t.kind : Nat) : Int), Value.int .i64 t.n, Value.int .i64 t.a, Value.int .i64 t.b]) :: (pt s 116 [v2, Value.map (some mb)]) :: (sl 89 4 v2 (ts.length + 1) ((ts.flatMap termCells) ++ [Value.int .u8 ((t.kind : Nat) : Int), Value.int .i64 t.n, Value.int .i64 t.a, Value.int .i64 t.b])) :: (pt b1 89 [Value.int .u8 ((t.kind : Nat) : Int), Value.int .i64 t.n, Value.int .i64 t.a, Value.int .i64 t.b]) :: (mp mb (ents ts ++ [(termV t, natV (ts.length + 1))])) :: F) (fun _ h => h) ?_
 refine Wr.rebaseS [] ((pt b2 89 [Value.int .u8 ((t.kind : Nat) : Int), Value.int .i64 t.n, Value.int .i64 t.a, Value.int .i64 t.b]) :: (pt s 116 [v2, Value.map (some mb)]) :: (sl 89 4 v2 (ts.length + 1) ((ts.flatMap termCells) ++ [Value.int .u8 ((t.kind : Nat) : Int), Value.int .i64 t.n, Value.int .i64 t.a, Value.int .i64 t.b])) :: (pt b1 89 [Value.int .u8 ((t.kind : Nat) : Int), Value.int .i64 t.n, Value.int .i64 t.a, Value.int .i64 t.b]) :: (mp mb (ents ts ++ [(termV t, natV (ts.length + 1))])) :: []) (by kernel_rfl) ?_
 refine Wr.done (by kernel_rfl) ?_
 refine Wx.go ?_
 refine Wc.seq ?_
 refine Wc.region ?_
 refine Wl.q (v := Value.pointer (some ⟨s, 0, none⟩)) (q_move rfl) ?_
 refine Wl.q (v := Value.pointer (some ⟨s, 0, none⟩)) (q_nil_ptr rfl) ?_
 refine Wl.q (v := Value.pointer (some ⟨s, 0, none⟩)) (q_field (m := 0) fo_116_0 rfl rfl) ?_
 refine Wl.q (v := v2) (q_load sc_22 rfl (.cel (i := 1) rfl rfl)) ?_
 refine Wl.q (v := Value.int .i64 (((ts.length + 1) : Nat) : Int)) (q_len_sl (i := 2) Tryz.underlying22 rfl rfl) ?_
 refine Wl.q (v := Value.int .i64 (((ts.length + 1) : Nat) : Int)) (q_assign rfl) ?_
 refine Wl.q (v := Value.int .i64 0) (q_assign rfl) ?_
 refine Wl.done ?_
 refine Wx.go ?_
 refine Wc.ret ?_
 refine Wx.fin2 rfl (.inl rfl) (fun w hs => ?_)
 exact ⟨v2, trivial, rfl, (st_drop (st_drop (st_pull [0, 2] hs)))⟩

theorem make_c (W0 : World) (s : Nat) (ts : List TermR) (t : TermR) (hw : Wf ts) (hl : ts.length ≤ 1048576) (ht : okT t) : Con Tryz.prog W0 18 #[Value.pointer (some ⟨s, 0, none⟩), Value.agg #[Value.int .u8 ((t.kind : Nat) : Int), Value.int .i64 t.n, Value.int .i64 t.a, Value.int .i64 t.b]] [storeI s ts] (X := Unit) (fun _ => True) (fun _ => .tuple #[.int .i64 (((mk ts t).2.1 : Nat) : Int), .int .i64 (mk ts t).2.2]) (fun _ => [storeI s (mk ts t).1]) := Con.store fun v mb => by
  unfold mk
  split
  · rename_i hm
    exact (make_no W0 s v mb ts t hw hl ht hm).mono fun _ _ => ⟨(), trivial, rfl, fun _ _ h => storeI_mk h⟩
  rename_i hm
  have hm : may ts.length t = true := by simpa using hm
  split
  · rename_i hi
    exact (make_old W0 s v mb ts t hw hl ht hm hi).mono fun _ _ => ⟨(), trivial, rfl, fun _ _ h => storeI_mk h⟩
  rename_i hi
  split
  · rename_i hf
    exact (make_full W0 s v mb ts t hw hl ht hm hi hf).mono fun _ _ => ⟨(), trivial, rfl, fun _ _ h => storeI_mk h⟩
  · rename_i hf
    exact (make_new W0 s v mb ts t hw hl ht hm hi (by omega)).mono fun v2 _ => ⟨(), trivial, rfl, fun _ _ h => storeI_mk (v := v2) (mb := mb) (by
      rw [List.length_append, List.flatMap_append, ents_snoc]; exact h)⟩

theorem get_o (W0 : World) (s : Nat) (v : Value) (mb : Nat) (ts : List TermR) (x : Int) (hl : ts.length ≤ 1048576) (t : TermR) (h1 : 1 ≤ x) (hx : ts[(x - 1).toNat]? = some t) :
  Con Tryz.prog W0 29 #[Value.pointer (some ⟨s, 0, none⟩), Value.int .i64 x] [pt s 116 [v, Value.map (some mb)], sl 89 4 v ts.length (ts.flatMap termCells)] (X := Unit) (fun _ => True) (fun _ => .tuple #[Value.agg #[Value.int .u8 ((t.kind : Nat) : Int), Value.int .i64 t.n, Value.int .i64 t.a, Value.int .i64 t.b], .bool true]) (fun _ => [pt s 116 [v, Value.map (some mb)], sl 89 4 v ts.length (ts.flatMap termCells)]) := by
 refine Con.of (args := [Value.pointer (some ⟨s, 0, none⟩), Value.int .i64 x]) Tryz.func29 rfl Tryz.ntmps29 rfl (fun F => ?_)
 have hlt := (List.getElem?_eq_some_iff.1 hx).1
 show Wc _ W0 _ _ _ _ _ ((pt s 116 [v, Value.map (some mb)]) :: (sl 89 4 v ts.length (ts.flatMap termCells)) :: F)
 refine Wc.seq ?_
 refine Wc.region ?_
 refine Wl.e (e_alloc (vs := [Value.int .u8 0, Value.int .i64 0, Value.int .i64 0, Value.int .i64 0]) zo_89 rfl) (fun b1 _ => ?_)
 refine Wl.imp (L' := (pt b1 89 [Value.int .u8 0, Value.int .i64 0, Value.int .i64 0, Value.int .i64 0]) :: (pt s 116 [v, Value.map (some mb)]) :: (sl 89 4 v ts.length (ts.flatMap termCells)) :: F) (fun _ h => h) ?_
 refine Wl.q (v := Value.bool false) (q_assign rfl) ?_
 refine Wl.done ?_
 refine Wx.go ?_
 refine Wc.seq ?_
 refine Wc.seq ?_
 refine Wc.region ?_
 refine Wl.q (v := Value.pointer (some ⟨s, 0, none⟩)) (q_move rfl) ?_
 refine Wl.imp (L' := (pt s 116 [v, Value.map (some mb)]) :: (pt b1 89 [Value.int .u8 0, Value.int .i64 0, Value.int .i64 0, Value.int .i64 0]) :: (sl 89 4 v ts.length (ts.flatMap termCells)) :: F) (fun _ h => st_pull [1] h) ?_
 refine Wl.e (e_call (F := (pt b1 89 [Value.int .u8 0, Value.int .i64 0, Value.int .i64 0, Value.int .i64 0]) :: (sl 89 4 v ts.length (ts.flatMap termCells)) :: F) (args := [Value.pointer (some ⟨s, 0, none⟩)]) Tryz.call132 rfl (made_c W0 s (v) mb)) (fun _ _ => ?_)
 refine Wl.imp (L' := (pt s 116 [v, Value.map (some mb)]) :: (pt b1 89 [Value.int .u8 0, Value.int .i64 0, Value.int .i64 0, Value.int .i64 0]) :: (sl 89 4 v ts.length (ts.flatMap termCells)) :: F) (fun _ h => h) ?_
 refine Wl.q (v := Value.bool false) (q_not rfl rfl) ?_
 refine Wl.q (v := Value.bool false) (q_move rfl) ?_
 refine Wl.q (v := Value.pointer (some ⟨s, 0, none⟩)) (q_move rfl) ?_
 refine Wl.q (v := Value.int .i64 x) (q_move rfl) ?_
 refine Wl.imp (L' := (pt s 116 [v, Value.map (some mb)]) :: (sl 89 4 v ts.length (ts.flatMap termCells)) :: (pt b1 89 [Value.int .u8 0, Value.int .i64 0, Value.int .i64 0, Value.int .i64 0]) :: F) (fun _ h => st_pull [0, 1] h) ?_
 refine Wl.e (e_call (F := (pt b1 89 [Value.int .u8 0, Value.int .i64 0, Value.int .i64 0, Value.int .i64 0]) :: F) (args := [Value.pointer (some ⟨s, 0, none⟩), Value.int .i64 x]) Tryz.call143 rfl (there_yes W0 s (v) mb ts.length (ts.flatMap termCells) x (by omega))) (fun _ _ => ?_)
 refine Wl.imp (L' := (pt s 116 [v, Value.map (some mb)]) :: (sl 89 4 v ts.length (ts.flatMap termCells)) :: (pt b1 89 [Value.int .u8 0, Value.int .i64 0, Value.int .i64 0, Value.int .i64 0]) :: F) (fun _ h => h) ?_
 refine Wl.q (v := Value.bool false) (q_not rfl rfl) ?_
 refine Wl.q (v := Value.bool false) (q_pick (t := false) rfl rfl) ?_
 refine Wl.done ?_
 refine Wx.go ?_
 refine Wc.no rfl ?_
 refine Wc.skip ?_
 refine Wx.go ?_
 refine Wc.seq ?_
 refine Wc.region ?_
 refine Wl.q (v := Value.pointer (some ⟨s, 0, none⟩)) (q_move rfl) ?_
 refine Wl.q (v := Value.pointer (some ⟨s, 0, none⟩)) (q_nil_ptr rfl) ?_
 refine Wl.q (v := Value.pointer (some ⟨s, 0, none⟩)) (q_field (m := 0) fo_116_0 rfl rfl) ?_
 refine Wl.sl (i := 1) (m := ts.length) rfl (by omega) (fun bw cw hv hcw => ?_)
 subst hv
 refine Wl.q (v := Value.slice (some ⟨bw, 0, none⟩) ts.length cw) (q_load sc_22 rfl (.cel (i := 0) rfl rfl)) ?_
 refine Wl.q (v := Value.int .i64 x) (q_move rfl) ?_
 refine Wl.q (v := Value.int .i64 (x - 1)) (q_sub (c := (x - 1)) rfl rfl (wrap_i64 (by omega) (by omega))) ?_
 refine Wl.q (v := Value.pointer (some ⟨bw, (((x - 1)).toNat) * 4, none⟩)) (q_idx (m := (((x - 1)).toNat) * 4) se_22 rfl rfl (by omega) (by omega) (by simp)) ?_
 refine Wl.q (v := Value.agg #[Value.int .u8 ((t.kind : Nat) : Int), Value.int .i64 t.n, Value.int .i64 t.a, Value.int .i64 t.b]) (q_loadAgg (vs := [Value.int .u8 ((t.kind : Nat) : Int), Value.int .i64 t.n, Value.int .i64 t.a, Value.int .i64 t.b]) ag_89 rfl (fun j u hj => .row (i := 1) rfl (flat4 hx j u hj))) ?_
 refine Wl.e (e_storeAgg (i := 2) (vs := [Value.int .u8 ((t.kind : Nat) : Int), Value.int .i64 t.n, Value.int .i64 t.a, Value.int .i64 t.b]) (c' := [Value.int .u8 ((t.kind : Nat) : Int), Value.int .i64 t.n, Value.int .i64 t.a, Value.int .i64 t.b]) sz_89 rfl rfl rfl rfl (by simp) rfl) (fun _ _ => ?_)
 refine Wl.imp (L' := (pt s 116 [Value.slice (some ⟨bw, 0, none⟩) ts.length cw, Value.map (some mb)]) :: (slp 89 4 bw cw (ts.flatMap termCells)) :: (pt b1 89 [Value.int .u8 ((t.kind : Nat) : Int), Value.int .i64 t.n, Value.int .i64 t.a, Value.int .i64 t.b]) :: F) (fun _ h => h) ?_
 refine Wl.q (v := Value.bool true) (q_assign rfl) ?_
 refine Wl.done ?_
 refine Wx.go ?_
 refine Wc.ret ?_
 refine Wx.finA2 (vs := [Value.int .u8 ((t.kind : Nat) : Int), Value.int .i64 t.n, Value.int .i64 t.a, Value.int .i64 t.b]) rfl (.inl rfl) ag_89 rfl (Has.of_pt (i := 2) rfl rfl) (fun w hs => ?_)
 exact ⟨(), trivial, rfl, (fun hs => st_swap (st_sl_mk flat_len4 hcw hs)) (st_pull [1, 0] (st_drop (st_pull [2] hs)))⟩

theorem get_no_o (W0 : World) (s : Nat) (v : Value) (mb : Nat) (ts : List TermR) (x : Int) (hl : ts.length ≤ 1048576) (h : ¬ (1 ≤ x ∧ x ≤ (ts.length : Int))) :
  Con Tryz.prog W0 29 #[Value.pointer (some ⟨s, 0, none⟩), Value.int .i64 x] [pt s 116 [v, Value.map (some mb)], sl 89 4 v ts.length (ts.flatMap termCells)] (X := Unit) (fun _ => True) (fun _ => .tuple #[Value.agg #[Value.int .u8 0, Value.int .i64 0, Value.int .i64 0, Value.int .i64 0], .bool false]) (fun _ => [pt s 116 [v, Value.map (some mb)], sl 89 4 v ts.length (ts.flatMap termCells)]) := by
 refine Con.of (args := [Value.pointer (some ⟨s, 0, none⟩), Value.int .i64 x]) Tryz.func29 rfl Tryz.ntmps29 rfl (fun F => ?_)
 show Wc _ W0 _ _ _ _ _ ((pt s 116 [v, Value.map (some mb)]) :: (sl 89 4 v ts.length (ts.flatMap termCells)) :: F)
 refine Wc.seq ?_
 refine Wc.region ?_
 refine Wl.e (e_alloc (vs := [Value.int .u8 0, Value.int .i64 0, Value.int .i64 0, Value.int .i64 0]) zo_89 rfl) (fun b1 _ => ?_)
 refine Wl.imp (L' := (pt b1 89 [Value.int .u8 0, Value.int .i64 0, Value.int .i64 0, Value.int .i64 0]) :: (pt s 116 [v, Value.map (some mb)]) :: (sl 89 4 v ts.length (ts.flatMap termCells)) :: F) (fun _ h => h) ?_
 refine Wl.q (v := Value.bool false) (q_assign rfl) ?_
 refine Wl.done ?_
 refine Wx.go ?_
 refine Wc.seq ?_
 refine Wc.seq ?_
 refine Wc.region ?_
 refine Wl.q (v := Value.pointer (some ⟨s, 0, none⟩)) (q_move rfl) ?_
 refine Wl.imp (L' := (pt s 116 [v, Value.map (some mb)]) :: (pt b1 89 [Value.int .u8 0, Value.int .i64 0, Value.int .i64 0, Value.int .i64 0]) :: (sl 89 4 v ts.length (ts.flatMap termCells)) :: F) (fun _ h => st_pull [1] h) ?_
 refine Wl.e (e_call (F := (pt b1 89 [Value.int .u8 0, Value.int .i64 0, Value.int .i64 0, Value.int .i64 0]) :: (sl 89 4 v ts.length (ts.flatMap termCells)) :: F) (args := [Value.pointer (some ⟨s, 0, none⟩)]) Tryz.call132 rfl (made_c W0 s (v) mb)) (fun _ _ => ?_)
 refine Wl.imp (L' := (pt s 116 [v, Value.map (some mb)]) :: (pt b1 89 [Value.int .u8 0, Value.int .i64 0, Value.int .i64 0, Value.int .i64 0]) :: (sl 89 4 v ts.length (ts.flatMap termCells)) :: F) (fun _ h => h) ?_
 refine Wl.q (v := Value.bool false) (q_not rfl rfl) ?_
 refine Wl.q (v := Value.bool false) (q_move rfl) ?_
 refine Wl.q (v := Value.pointer (some ⟨s, 0, none⟩)) (q_move rfl) ?_
 refine Wl.q (v := Value.int .i64 x) (q_move rfl) ?_
 refine Wl.imp (L' := (pt s 116 [v, Value.map (some mb)]) :: (sl 89 4 v ts.length (ts.flatMap termCells)) :: (pt b1 89 [Value.int .u8 0, Value.int .i64 0, Value.int .i64 0, Value.int .i64 0]) :: F) (fun _ h => st_pull [0, 1] h) ?_
 refine Wl.e (e_call (F := (pt b1 89 [Value.int .u8 0, Value.int .i64 0, Value.int .i64 0, Value.int .i64 0]) :: F) (args := [Value.pointer (some ⟨s, 0, none⟩), Value.int .i64 x]) Tryz.call143 rfl (there_no W0 s (v) mb ts.length (ts.flatMap termCells) x h)) (fun _ _ => ?_)
 refine Wl.imp (L' := (pt s 116 [v, Value.map (some mb)]) :: (sl 89 4 v ts.length (ts.flatMap termCells)) :: (pt b1 89 [Value.int .u8 0, Value.int .i64 0, Value.int .i64 0, Value.int .i64 0]) :: F) (fun _ h => h) ?_
 refine Wl.q (v := Value.bool true) (q_not rfl rfl) ?_
 refine Wl.q (v := Value.bool true) (q_pick (t := false) rfl rfl) ?_
 refine Wl.done ?_
 refine Wx.go ?_
 refine Wc.yes rfl ?_
 refine Wc.seq ?_
 refine Wc.region ?_
 refine Wl.q (v := Value.agg #[Value.int .u8 0, Value.int .i64 0, Value.int .i64 0, Value.int .i64 0]) (q_build (pl := [(0, 1), (1, 1), (2, 1), (3, 1)]) Tryz.underlying89 zo_89 (by kernel_rfl) (by kernel_rfl)) ?_
 refine Wl.e (e_storeAgg (i := 2) (vs := [Value.int .u8 0, Value.int .i64 0, Value.int .i64 0, Value.int .i64 0]) (c' := [Value.int .u8 0, Value.int .i64 0, Value.int .i64 0, Value.int .i64 0]) sz_89 rfl rfl rfl rfl (by simp) rfl) (fun _ _ => ?_)
 refine Wl.imp (L' := (pt s 116 [v, Value.map (some mb)]) :: (sl 89 4 v ts.length (ts.flatMap termCells)) :: (pt b1 89 [Value.int .u8 0, Value.int .i64 0, Value.int .i64 0, Value.int .i64 0]) :: F) (fun _ h => h) ?_
 refine Wl.q (v := Value.bool false) (q_assign rfl) ?_
 refine Wl.done ?_
 refine Wx.go ?_
 refine Wc.ret ?_
 refine Wx.thenRet ?_
 refine Wx.finA2 (vs := [Value.int .u8 0, Value.int .i64 0, Value.int .i64 0, Value.int .i64 0]) rfl (.inl rfl) ag_89 rfl (Has.of_pt (i := 2) rfl rfl) (fun w hs => ?_)
 exact ⟨(), trivial, rfl, (st_drop (st_pull [2] hs))⟩

theorem len_o (W0 : World) (s : Nat) (v : Value) (mb : Nat) (ts : List TermR) :
  Con Tryz.prog W0 28 #[Value.pointer (some ⟨s, 0, none⟩)] [pt s 116 [v, Value.map (some mb)], sl 89 4 v ts.length (ts.flatMap termCells)] (X := Unit) (fun _ => True) (fun _ => .int .i64 ((ts.length : Nat) : Int)) (fun _ => [pt s 116 [v, Value.map (some mb)], sl 89 4 v ts.length (ts.flatMap termCells)]) := by
 refine Con.of (args := [Value.pointer (some ⟨s, 0, none⟩)]) Tryz.func28 rfl Tryz.ntmps28 rfl (fun F => ?_)
 show Wc _ W0 _ _ _ _ _ ((pt s 116 [v, Value.map (some mb)]) :: (sl 89 4 v ts.length (ts.flatMap termCells)) :: F)
 refine Wc.seq ?_
 refine Wc.region ?_
 refine Wl.q (v := Value.int .i64 0) (q_assign rfl) ?_
 refine Wl.done ?_
 refine Wx.go ?_
 refine Wc.seq ?_
 refine Wc.seq ?_
 refine Wc.region ?_
 refine Wl.q (v := Value.pointer (some ⟨s, 0, none⟩)) (q_move rfl) ?_
 refine Wl.e (e_call (F := (sl 89 4 v ts.length (ts.flatMap termCells)) :: F) (args := [Value.pointer (some ⟨s, 0, none⟩)]) Tryz.call132 rfl (made_c W0 s (v) mb)) (fun _ _ => ?_)
 refine Wl.imp (L' := (pt s 116 [v, Value.map (some mb)]) :: (sl 89 4 v ts.length (ts.flatMap termCells)) :: F) (fun _ h => h) ?_
 refine Wl.q (v := Value.bool false) (q_not rfl rfl) ?_
 refine Wl.done ?_
 refine Wx.go ?_
 refine Wc.no rfl ?_
 refine Wc.skip ?_
 refine Wx.go ?_
 refine Wc.seq ?_
 refine Wc.region ?_
 refine Wl.q (v := Value.pointer (some ⟨s, 0, none⟩)) (q_move rfl) ?_
 refine Wl.q (v := Value.pointer (some ⟨s, 0, none⟩)) (q_nil_ptr rfl) ?_
 refine Wl.q (v := Value.pointer (some ⟨s, 0, none⟩)) (q_field (m := 0) fo_116_0 rfl rfl) ?_
 refine Wl.q (v := v) (q_load sc_22 rfl (.cel (i := 0) rfl rfl)) ?_
 refine Wl.q (v := Value.int .i64 ((ts.length : Nat) : Int)) (q_len_sl (i := 1) Tryz.underlying22 rfl rfl) ?_
 refine Wl.q (v := Value.int .i64 ((ts.length : Nat) : Int)) (q_assign rfl) ?_
 refine Wl.done ?_
 refine Wx.go ?_
 refine Wc.ret ?_
 refine Wx.fin1 rfl (.inl rfl) (fun w hs => ?_)
 exact ⟨(), trivial, rfl, hs⟩

end Go.Proofs.YtjjghmkjdgogiaaGreatDoor
