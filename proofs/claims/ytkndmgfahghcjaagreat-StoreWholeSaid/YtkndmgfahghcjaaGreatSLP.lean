import Derived.Test.YtkndmgfahghcjaaGreatStM
import Derived.Test.YtkndmgfahghcjaaGreatSLR
import Derived.ProofKit
import Derived.OpenShut
import Derived.JoinedCond
import Derived.Deep.Slices
import Derived.Deep.Fields
import Derived.Test.YtkndmgfahghcjaaGreatSLK
/- The laws of the store, in plain data. -/
namespace Go.St
open Go Go.SL Go.Wr
set_option linter.unusedVariables false
instance : DecidableEq PairR := fun a b =>
 if h : a.n = b.n ∧ a.t = b.t ∧ a.g = b.g then isTrue (by obtain ⟨n, t, g⟩ := a; obtain ⟨n', t', g'⟩ := b; obtain ⟨h1, h2, h3⟩ := h; simp only at h1 h2 h3; subst h1; subst h2; subst h3; rfl)
 else isFalse (fun e => h (by subst e; exact ⟨rfl, rfl, rfl⟩))
theorem take_eq_snoc {α : Type} {a b : List α} {k : Nat} {x y : α} (h : a.take k = b.take k) (ha : a[k]? = some x) (hb : b[k]? = some y) (e : x = y) : a.take (k + 1) = b.take (k + 1) := by
 subst e
 obtain ⟨h1, e1⟩ := List.getElem?_eq_some_iff.1 ha
 obtain ⟨h2, e2⟩ := List.getElem?_eq_some_iff.1 hb
 rw [List.take_succ_eq_append_getElem h1, List.take_succ_eq_append_getElem h2, h, e1, e2]
theorem ne_at {α : Type} {a b : List α} {k : Nat} {x y : α} (ha : a[k]? = some x) (hb : b[k]? = some y) (e : ¬ x = y) : ¬ a = b := fun h => by
 subst h; rw [ha] at hb; exact e (Option.some.inj hb)
/-- What is packed is unpacked as it was. -/
theorem back1 {l : List PairR} (h : (packP l).2 = 0) : unpackE (packP l).1 = 0 ∧ unpackL (packP l).1 = l := unpackE_some (unpack_pack h)
/-! ### Names among pairs -/
def namedB (l : List PairR) (n : ByteArray) : Bool := l.any fun p => decide (p.n = n)
def unn (l : List PairR) (p : PairR) : Bool := !namedB l p.n
theorem any_take_no {l : List PairR} {n : ByteArray} {k : Nat} {o : PairR} (h : namedB (l.take k) n = false) (hg : l[k]? = some o) (hn : ¬ o.n = n) : namedB (l.take (k + 1)) n = false := by
 rw [takeP hg]; unfold namedB at *; rw [List.any_append, h]; simp [hn]
theorem named_yes {l : List PairR} {n : ByteArray} {k : Nat} {o : PairR} (hg : l[k]? = some o) (hn : o.n = n) : namedB l n = true :=
 List.any_eq_true.2 ⟨o, List.mem_of_getElem? hg, decide_eq_true hn⟩
theorem filter_yes {f : PairR → Bool} {l : List PairR} {k : Nat} {o : PairR} (hg : l[k]? = some o) (h : f o = true) : (l.take (k + 1)).filter f = (l.take k).filter f ++ [o] := by
 rw [takeP hg, List.filter_append, List.filter_cons, if_pos h]; rfl
theorem filter_no {f : PairR → Bool} {l : List PairR} {k : Nat} {o : PairR} (hg : l[k]? = some o) (h : f o = false) : (l.take (k + 1)).filter f = (l.take k).filter f := by
 rw [takeP hg, List.filter_append, List.filter_cons, if_neg (by rw [h]; decide), List.filter_nil, List.append_nil]
theorem filter_len (f : PairR → Bool) (l : List PairR) (k : Nat) : ((l.take k).filter f).length ≤ l.length := by
 have h1 := List.length_filter_le f (l.take k)
 have h2 := List.length_take (i := k) (l := l)
 omega
/-! ### Changes that are taken -/
/-- Of pairs: fit to be changed. -/
def fitP (met : List ByteArray) (l : List PairR) : Prop := (∀ p ∈ l, ¬ longP p ∧ (p.g = true → p.t = ⟨#[]⟩) ∧ p.n ∉ met) ∧ (l.map (·.n)).Nodup
theorem fit_chgA {l : List PairR} {T : AL} {met : List ByteArray} (h : (chgA T met l).1 = 0) : fitP met l := ⟨(chgA_get h).1, (chgA_get h).2.1⟩
theorem okA_chg : ∀ {l : List PairR} {T : AL} {met : List ByteArray}, okA T → (chgA T met l).1 = 0 → okA (chgA T met l).2
 | [], _, _, h, _ => h
 | p :: l, T, met, h, h0 => by
  unfold chgA at h0 ⊢
  split at h0
  · cases h0
  rename_i h1
  split at h0
  · cases h0
  rename_i h2
  split at h0
  · cases h0
  rename_i h3
  rw [if_neg h1, if_neg h2, if_neg h3]
  refine okA_chg ?_ h0
  unfold longP at h1
  split
  · exact okA_del h _
  · exact okA_put h (by omega) (by omega)
/-- What a name has behind a change. -/
def askL (l : List PairR) (T : AL) (m : ByteArray) : Option ByteArray := match l.find? fun p => decide (p.n = m) with | some p => if p.g = true then none else some p.t | none => getA T m
theorem chgA_ask {l : List PairR} {T : AL} {met : List ByteArray} (h : (chgA T met l).1 = 0) (m : ByteArray) : getA (chgA T met l).2 m = askL l T m := (chgA_get h).2.2 m
theorem find_of_mem {l : List PairR} (hn : (l.map (·.n)).Nodup) {p : PairR} (hp : p ∈ l) : l.find? (fun q => decide (q.n = p.n)) = some p := by
  induction l with
  | nil => cases hp
  | cons q l ih =>
    rw [List.map_cons, List.nodup_cons] at hn
    rw [List.find?_cons]
    by_cases e : q.n = p.n
    · rw [decide_eq_true e]
      rcases List.mem_cons.1 hp with rfl | hp
      · rfl
      · exact absurd (List.mem_map.2 ⟨p, hp, e.symm⟩) hn.1
    · rw [decide_eq_false e]
      rcases List.mem_cons.1 hp with rfl | hp
      · exact absurd rfl e
      · exact ih hn.2 hp
theorem ask_mem {l : List PairR} (hn : (l.map (·.n)).Nodup) {p : PairR} (hp : p ∈ l) (T : AL) : askL l T p.n = if p.g = true then none else some p.t := by
 unfold askL; rw [find_of_mem hn hp]
theorem named_iff {l : List PairR} {n : ByteArray} : namedB l n = true ↔ ∃ p ∈ l, p.n = n := by
 unfold namedB; rw [List.any_eq_true]
 exact ⟨fun ⟨p, h1, h2⟩ => ⟨p, h1, of_decide_eq_true h2⟩, fun ⟨p, h1, h2⟩ => ⟨p, h1, decide_eq_true h2⟩⟩
theorem ask_not {l : List PairR} {n : ByteArray} (h : namedB l n = false) (T : AL) : askL l T n = getA T n := by
 have : l.find? (fun q => decide (q.n = n)) = none := List.find?_eq_none.2 fun q hq e => by
  have := named_iff.2 ⟨q, hq, of_decide_eq_true e⟩
  rw [h] at this; cases this
 unfold askL; rw [this]
/-- All pairs but those of some names. -/
theorem rest_all {T T' : AL} {l : List PairR} (h : (keysA T).Nodup) (h' : (keysA T').Nodup) (he : ∀ n, namedB l n = false → getA T n = getA T' n) : (allA T).filter (unn l) = (allA T').filter (unn l) := by
 have fm : ∀ X : AL, (allA X).filter (unn l) = ((namesA X).filter fun n => !namedB l (ba n)).map fun n => (⟨ba n, (getA X (ba n)).getD ⟨#[]⟩, false⟩ : PairR) := fun X => by
  unfold allA; rw [List.filter_map]; rfl
 have hk : ∀ n, namedB l n = false → (n ∈ keysA T ↔ n ∈ keysA T') := fun n hn => by
  have h1 := getA_none (T := T) (n := n)
  have h2 := getA_none (T := T') (n := n)
  rw [he n hn] at h1
  constructor
  · intro hm; exact Classical.byContradiction fun hx => h1.1 (h2.2 hx) hm
  · intro hm; exact Classical.byContradiction fun hx => h2.1 (h1.2 hx) hm
 have hn : ((namesA T).filter fun n => !namedB l (ba n)) = (namesA T').filter fun n => !namedB l (ba n) := by
  have s1 := (namesA_sorted h).filter (fun n => !namedB l (ba n))
  have s2 := (namesA_sorted h').filter (fun n => !namedB l (ba n))
  refine List.Perm.eq_of_pairwise (le := fun a b => a < b) (fun a b _ _ h1 h2 => absurd h2 (List.lt_asymm h1)) s1 s2 ?_
  have n1 := s1.imp (S := fun a b => a ≠ b) fun {a b} hab => fun e => List.lt_irrefl b (by rw [e] at hab; exact hab)
  have n2 := s2.imp (S := fun a b => a ≠ b) fun {a b} hab => fun e => List.lt_irrefl b (by rw [e] at hab; exact hab)
  refine (List.perm_ext_iff_of_nodup n1 n2).2 fun x => ?_
  rw [List.mem_filter, List.mem_filter, namesA_mem, namesA_mem]
  constructor
  · rintro ⟨a, b⟩; exact ⟨(hk _ (by simpa using b)).1 a, b⟩
  · rintro ⟨a, b⟩; exact ⟨(hk _ (by simpa using b)).2 a, b⟩
 rw [fm, fm, hn]
 exact List.map_congr_left fun n hm => by rw [he _ (by simpa using (List.mem_filter.1 hm).2)]
theorem pack_few {l : List PairR} (h : (packP l).2 = 0) : l.length ≤ 256 := by
 unfold packP at h
 split at h
 · cases h
 · omega
end Go.St

/- From a law's contract to the seat's statement: what came in is opened to the base world's cells; behind the call it reads as before. -/
namespace Go.SL
open Go Go.RowKit Go.ChangeShapes Go.WideShapes Go.Deep

section
variable {H : Type} {enc : TypeId × Value → H} {P : Program}
theorem stays_all (hl : laidOutB P = true) {W W' : World} (hb : Below W.heap.size W W') : ∀ {ts : List TypeId} {vs : List Value} {ds : List (DataW H)} {ps : List MemPlace},
  (ts.all fun t => P.readableRec t && decide (t < P.types.size)) = true → DataW.TrodAll enc P W 0 (fun _ => true) true ts vs ds ps → (∀ x ∈ ps, x.block < W.heap.size) →
  DataW.TrodAll enc P W' 0 (fun b => decide (b < W.heap.size)) true ts vs ds ps
 | [], [], [], _, _, h, _ => h
 | [], _ :: _, _, _, _, h, _ => h.elim
 | [], [], _ :: _, _, _, h, _ => h.elim
 | _ :: _, [], _, _, _, h, _ => h.elim
 | _ :: _, _ :: _, [], _, _, h, _ => h.elim
 | t :: ts, v :: vs, d :: ds, ps, hr, h, hlt => by
  obtain ⟨p, q, h1, h2, rfl⟩ := h
  simp only [List.all_cons, Bool.and_eq_true, decide_eq_true_eq] at hr
  exact ⟨p, q, Below.trod hl hr.1.1 hr.1.2 h1 hb (fun x hx => hlt x (List.mem_append_left _ hx)), stays_all hl hb (by simpa using hr.2) h2 (fun x hx => hlt x (List.mem_append_right _ hx)), rfl⟩

theorem post_true {f : Func} {s : ChangeSpec} {W W' : World} {args : Array Value} {ds : List (DataW H)} {before : List MemPlace} {t : TypeId} (hW : DataW.Whole enc P f.params.toList s.vars false W args.toList ds [] before)
  (hv : s.vars = []) (hl : laidOutB P = true) (hr : (f.params.toList.all fun t => P.readableRec t && decide (t < P.types.size)) = true) (ht : P.underlying t = some .bool) (hrt : f.resultTypes = #[t])
  (hfn : s.fn H (ds ++ []) = { results := [.lit (.bool true)], args := ds }) (hb : Below W.heap.size W W') : s.post enc P f false true false false W args (.bool true) W' := by
 have hlt := hW.lt
 obtain ⟨p, q, hA, hV, rfl, _⟩ := id hW
 refine ⟨ds, [], p ++ q, [], p, [], hW, ?_, ?_, ?_, hb.frame _, fun h => by cases h⟩
 · rw [hrt, hfn]; exact trodAll_mk1 (shut_bool ht true)
 · rw [hfn]; exact stays_all hl hb hr hA (fun x hx => hlt x (List.mem_append_left _ hx))
 · rw [hfn, hv]; rfl

theorem exists_list {X : Type} {Q : Nat → X → Prop} : ∀ n : Nat, (∀ i, i < n → ∃ x, Q i x) → ∃ l : List X, l.length = n ∧ ∀ i x, l[i]? = some x → Q i x
  | 0, _ => ⟨[], rfl, fun i x h => by simp at h⟩
  | n + 1, h => by
    obtain ⟨l, hl, hq⟩ := exists_list n (fun i hi => h i (by omega))
    obtain ⟨x, hx⟩ := h n (by omega)
    refine ⟨l ++ [x], by simp [hl], fun i y hy => ?_⟩
    rw [List.getElem?_append] at hy
    split at hy
    · exact hq i y hy
    · rename_i hn
      have hi : i = n := by
        have := (List.getElem?_eq_some_iff.1 hy).1
        simp at this; omega
      subst hi
      simp [hl] at hy
      exact hy ▸ hx

theorem flat_at {X : Type} {cellsX : X → List Value} {k : Nat} (hk : ∀ x, (cellsX x).length = k) : ∀ {l : List X} {j : Nat} {u : Value}, (l.flatMap cellsX)[j]? = some u → ∃ i x m, l[i]? = some x ∧ (cellsX x)[m]? = some u ∧ j = i * k + m ∧ m < k
  | [], j, u, h => by simp at h
  | x :: l, j, u, h => by
    rw [List.flatMap_cons, List.getElem?_append] at h
    split at h
    · rename_i hj
      exact ⟨0, x, j, rfl, h, by omega, by rw [hk] at hj; exact hj⟩
    · rename_i hj
      rw [hk] at h hj
      obtain ⟨i, y, m, h1, h2, h3, h4⟩ := flat_at hk h
      exact ⟨i + 1, y, m, h1, h2, by rw [Nat.succ_mul]; omega, h4⟩

/-- A slice that came in, whatever its elements: the cells of each are told by 'elem'. -/
theorem open_rows {X : Type} (cellsX : X → List Value) (φ : X → Prop) {k : Nat} (hk : ∀ x, (cellsX x).length = k) (hk0 : 0 < k) {t e base : Nat} {W : World} {sp : Nat → Bool} {r : Reach} {b0 : Nat} {v : Value} {d : DataW H} {p : List MemPlace}
    (ht : P.underlying t = some (.slice e)) (hC : P.cellsOf e = k) (elem : ∀ n cs y, DataW.trod enc P W base sp true n e cs = some y → ∃ x, φ x ∧ cs = cellsX x)
    (hval : Value.okWide P W r b0 t v) (hd : DataW.Trod enc P W base sp true t v d p) : ∃ l : List X, Rd W v l.length (l.flatMap cellsX) ∧ l.length ≤ maxLen ∧ ∀ x ∈ l, φ x := by
  obtain ⟨a', n', c', rfl⟩ := okWide_slice ht hval
  obtain ⟨fuel, hf⟩ := hd
  rcases open_slice ht hf with ⟨h0, _⟩ | ⟨a, len, cap, m, n, D, Pl, hcs, hb, hl, hm, hmm, hx, hi⟩
  · simp only [Value.cells, List.cons.injEq, and_true, Value.slice.injEq] at h0
    obtain ⟨rfl, rfl, rfl⟩ := h0
    exact ⟨[], ⟨⟨_, _, rfl⟩, fun h => absurd h (by simp), fun j u h => by simp at h⟩, by simp, fun x hx => by cases hx⟩
  · simp only [Value.cells, List.cons.injEq, and_true, Value.slice.injEq] at hcs
    obtain ⟨rfl, rfl, rfl⟩ := hcs
    have hlm : n' ≤ m := by rw [hmm]; split <;> omega
    obtain ⟨l, hll, hq⟩ := exists_list (Q := fun i x => φ x ∧ ∀ j, j < k → W.cell? (a.add (i * k + j)) = (cellsX x)[j]?) n' (fun i hin => by
      obtain ⟨cs, hc, htr⟩ := hi i (by omega)
      obtain ⟨x, hφ, rfl⟩ := elem _ _ _ htr
      rw [hC] at hc
      obtain ⟨_, hcl, hat⟩ := World.cells?_some hc
      exact ⟨x, hφ, fun j hj => by rw [← add_add]; exact hat j hj⟩)
    have hsp : 0 < n' → a.spot = none := fun hn => by
      have := (hq 0 _ (List.getElem?_eq_getElem (by omega))).2 0 hk0
      rw [List.getElem?_eq_getElem (by rw [hk]; exact hk0)] at this
      simp only [Nat.zero_mul, Nat.add_zero, Addr.add, if_true, World.cell?] at this
      split at this
      · split at this
        · cases this
        · rename_i h; simpa using h
      · cases this
    refine ⟨l, ⟨⟨_, _, by rw [hll]⟩, fun hn => ?_, fun j u hj => ?_⟩, by omega, fun x hx => ?_⟩
    · have := hsp (by omega)
      obtain ⟨b, off, spot⟩ := a
      simp only at this; subst this
      exact ⟨b, off, _, by rw [hll]⟩
    · obtain ⟨i, x, m', h1, h2, rfl, h4⟩ := flat_at hk hj
      have h5 := (hq i x h1).2 m' h4
      rw [h2] at h5
      have := hsp (by have := (List.getElem?_eq_some_iff.1 h1).1; omega)
      obtain ⟨b, off, spot⟩ := a
      simp only at this; subst this
      rw [← h5]
      congr 1
      simp only [Addr.add, rb, ro]
      split
      · rename_i h0; rw [h0]; rfl
      · rfl
    · obtain ⟨i, hi', rfl⟩ := List.getElem_of_mem hx
      exact (hq i _ (List.getElem?_eq_getElem hi')).1

end
end Go.SL

/- An element that is a struct of two strings and a bool. -/
namespace Go.SL
open Go Go.RowKit Go.ChangeShapes Go.WideShapes Go.Deep

section
variable {H : Type} {enc : TypeId × Value → H} {P : Program}
theorem elem_str2_bool {e : Nat} {f0 f1 f2 : Field} {W : World} {base : Nat} {sp : Nat → Bool} {n : Nat} {cs : List Value} {y : DataW H × List MemPlace} (he : P.underlying e = some (.struct #[f0, f1, f2])) (hone : oneCellFields P #[f0, f1, f2] = true) (hC : P.cellsOf e = 3)
  (h0 : P.underlying f0.type = some .string) (h1 : P.underlying f1.type = some .string) (h2 : P.underlying f2.type = some .bool) (h : DataW.trod enc P W base sp true n e cs = some y) :
  ∃ (a b : ByteArray) (g : Bool), a.size ≤ maxLen ∧ b.size ≤ maxLen ∧ cs = [.string a, .string b, .bool g] := by
 obtain ⟨xs, n', _, _, hl, hlen, hg⟩ := DataW.trod_struct he h
 have hlen3 : xs.length = 3 := hlen
 have at_ : ∀ (i : Nat) (f : Field), #[f0, f1, f2][i]? = some f → ∃ z, DataW.trod enc P W base sp true n' f.type ((cs.drop i).take 1) = some z := fun i f hi => by
  obtain ⟨o, kk⟩ := hone_of hone i f hi
  have h' := hg i f hi
  rw [o, kk] at h'
  have hlt : i < xs.length := by rw [hlen]; exact (Array.getElem?_eq_some_iff.1 hi).1
  rw [List.getElem?_eq_getElem hlt] at h'
  exact ⟨_, h'⟩
 obtain ⟨_, t0⟩ := at_ 0 f0 rfl
 obtain ⟨_, t1⟩ := at_ 1 f1 rfl
 obtain ⟨_, t2⟩ := at_ 2 f2 rfl
 obtain ⟨a, ea, _, wa⟩ := DataW.trod_string h0 t0
 obtain ⟨b, eb, _, wb⟩ := DataW.trod_string h1 t1
 obtain ⟨g, eg, _⟩ := DataW.trod_bool h2 t2
 rw [hC] at hl
 match cs, hl with
 | [c0, c1, c2], _ =>
  simp at ea eb eg
  exact ⟨a, b, g, wa, wb, by rw [ea, eb, eg]⟩
end
/-- Structs, compared. -/
theorem q_neq_agg {P : Program} {W0 : World} {E : Nat → Value} {L : List HP} {x y : Operand} {t t' ty : TypeId} {a b : Array Value} {r : Bool} (hx : evE E x = .agg a) (hy : evE E y = .agg b) (hg : P.eqGuardType P.depth t = false) (hr : ∀ w, (Op.equal t (.agg a) (.agg b)).run P w = .ok r w) : Quiet P W0 E L (.binOp .neq t x y t') ty (.bool (!r)) := fun w d pos aft g _ => by
 simp [execOp, eqGuard, hx, hy, binOp, hg, hr w, Result.andThen]
end Go.SL

