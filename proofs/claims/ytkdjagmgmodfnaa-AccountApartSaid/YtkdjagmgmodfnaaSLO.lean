/- A slice that lies in a struct that came in, opened. -/
import Derived.Test.YtkdjagmgmodfnaaSLU
namespace Go.SL
open Go Go.RowKit Go.ChangeShapes Go.WideShapes Go.Deep
section
variable {H : Type} {enc : TypeId × Value → H} {P : Program}
theorem open_rows_t {X : Type} (cellsX : X → List Value) (φ : X → Prop) {k : Nat} (hk : ∀ x, (cellsX x).length = k) (hk0 : 0 < k) {t e base : Nat} {W : World} {sp : Nat → Bool} {fuel : Nat} {v : Value} {y : DataW H × List MemPlace}
    (ht : P.underlying t = some (.slice e)) (hC : P.cellsOf e = k) (elem : ∀ n cs y, DataW.trod enc P W base sp true n e cs = some y → ∃ x, φ x ∧ cs = cellsX x)
    (hf : DataW.trod enc P W base sp true fuel t [v] = some y) : ∃ l : List X, Rd W v l.length (l.flatMap cellsX) ∧ l.length ≤ maxLen ∧ ∀ x ∈ l, φ x := by
  have hcl : ∃ a n c, v = .slice a n c := by
    obtain ⟨d, p⟩ := y
    rcases open_slice ht hf with ⟨h0, _⟩ | ⟨a, len, cap, m, n, D, Pl, hcs, _⟩
    · simp only [List.cons.injEq, and_true] at h0; exact ⟨_, _, _, h0⟩
    · simp only [List.cons.injEq, and_true] at hcs; exact ⟨_, _, _, hcs⟩
  obtain ⟨a', n', c', rfl⟩ := hcl
  obtain ⟨d, p⟩ := y
  rcases open_slice ht hf with ⟨h0, _⟩ | ⟨a, len, cap, m, n, D, Pl, hcs, hb, hl, hm, hmm, hx, hi⟩
  · simp only [List.cons.injEq, and_true, Value.slice.injEq] at h0
    obtain ⟨rfl, rfl, rfl⟩ := h0
    exact ⟨[], ⟨⟨_, _, rfl⟩, fun h => absurd h (by simp), fun j u h => by simp at h⟩, by simp, fun x hx => by cases hx⟩
  · simp only [List.cons.injEq, and_true, Value.slice.injEq] at hcs
    obtain ⟨rfl, rfl, rfl⟩ := hcs
    have hlm : n' ≤ m := by rw [hmm]; split <;> omega
    obtain ⟨l, hll, hq⟩ := exists_list (Q := fun i x => φ x ∧ ∀ j, j < k → W.cell? (a.add (i * k + j)) = (cellsX x)[j]?) n' (fun i hin => by
      obtain ⟨cs, hc, htr⟩ := hi i (by omega)
      obtain ⟨x, hφ, rfl⟩ := elem _ _ _ htr
      rw [hC] at hc
      obtain ⟨_, hcl, hat⟩ := World.cells?_some hc
      exact ⟨x, hφ, fun j hj => by rw [← add_add]; exact hat j hj⟩)
    have hsp : 0 < n' → a.spot = none := fun hn => by
      have := (hq 0 _ (List.getElem?_eq_getElem (by omega))).2 0 hk0
      rw [List.getElem?_eq_getElem (by rw [hk]; exact hk0)] at this
      simp only [Nat.zero_mul, Nat.add_zero, Addr.add, if_true, World.cell?] at this
      split at this
      · split at this
        · cases this
        · rename_i h; simpa using h
      · cases this
    refine ⟨l, ⟨⟨_, _, by rw [hll]⟩, fun hn => ?_, fun j u hj => ?_⟩, by omega, fun x hx => ?_⟩
    · have := hsp (by omega)
      obtain ⟨b, off, spot⟩ := a
      simp only at this; subst this
      exact ⟨b, off, _, by rw [hll]⟩
    · obtain ⟨i, x, m', h1, h2, rfl, h4⟩ := flat_at hk hj
      have h5 := (hq i x h1).2 m' h4
      rw [h2] at h5
      have := hsp (by have := (List.getElem?_eq_some_iff.1 h1).1; omega)
      obtain ⟨b, off, spot⟩ := a
      simp only at this; subst this
      rw [← h5]
      congr 1
      simp only [Addr.add, rb, ro]
      split
      · rename_i h0; rw [h0]; rfl
      · rfl
    · obtain ⟨i, hi', rfl⟩ := List.getElem_of_mem hx
      exact (hq i _ (List.getElem?_eq_getElem hi')).1
/-- A struct of three integers and a slice of integers. -/
theorem elem_int3_ints {e : Nat} {f0 f1 f2 f3 : Field} {k0 k1 k2 : IntKind} {ei : Nat} {W : World} {base : Nat} {sp : Nat → Bool} {n : Nat} {cs : List Value} {y : DataW H × List MemPlace} (he : P.underlying e = some (.struct #[f0, f1, f2, f3])) (hone : oneCellFields P #[f0, f1, f2, f3] = true) (hC : P.cellsOf e = 4)
    (h0 : P.underlying f0.type = some (.int k0)) (h1 : P.underlying f1.type = some (.int k1)) (h2 : P.underlying f2.type = some (.int k2)) (h3 : P.underlying f3.type = some (.slice ei)) (hei : P.underlying ei = some (.int .i64)) (hCi : P.cellsOf ei = 1) (h : DataW.trod enc P W base sp true n e cs = some y) :
    ∃ (a b c : Int) (v : Value) (l : List Int), (Lit.int k0 a).wf = true ∧ (Lit.int k1 b).wf = true ∧ (Lit.int k2 c).wf = true ∧ Rd W v l.length (l.flatMap fun x => [.int .i64 x]) ∧ (∀ x ∈ l, (Lit.int .i64 x).wf = true) ∧ cs = [.int k0 a, .int k1 b, .int k2 c, v] := by
  obtain ⟨xs, n', _, _, hl, hlen, hg⟩ := DataW.trod_struct he h
  have key : ∀ (i : Nat) (f : Field), #[f0, f1, f2, f3][i]? = some f → ∃ z, DataW.trod enc P W base sp true n' f.type ((cs.drop i).take 1) = some z := fun i f hi => by
    obtain ⟨o, kk⟩ := hone_of hone i f hi
    have h' := hg i f hi
    rw [o, kk] at h'
    have hlt : i < xs.length := by rw [hlen]; exact (Array.getElem?_eq_some_iff.1 hi).1
    rw [List.getElem?_eq_getElem hlt] at h'
    exact ⟨_, h'⟩
  obtain ⟨_, t0⟩ := key 0 f0 rfl
  obtain ⟨_, t1⟩ := key 1 f1 rfl
  obtain ⟨_, t2⟩ := key 2 f2 rfl
  obtain ⟨_, t3⟩ := key 3 f3 rfl
  obtain ⟨a, ea, _, wa⟩ := DataW.trod_int h0 t0
  obtain ⟨b, eb, _, wb⟩ := DataW.trod_int h1 t1
  obtain ⟨c, ec, _, wc⟩ := DataW.trod_int h2 t2
  rw [hC] at hl
  match cs, hl with
  | [c0, c1, c2, c3], _ =>
    simp at ea eb ec
    obtain ⟨l, hrd, _, hw⟩ := open_rows_t (X := Int) (fun x => [.int .i64 x]) (fun x => (Lit.int .i64 x).wf = true) (k := 1) (fun _ => rfl) (by decide) h3 hCi (fun n cs y h => by
      obtain ⟨z, hz, _, hw⟩ := DataW.trod_int hei h
      exact ⟨z, hw, hz⟩) t3
    exact ⟨a, b, c, c3, l, wa, wb, wc, hrd, hw, by rw [ea, eb, ec]⟩
end
end Go.SL
