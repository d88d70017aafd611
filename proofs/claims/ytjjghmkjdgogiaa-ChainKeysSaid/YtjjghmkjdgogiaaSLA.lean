/- Appends of whatever slice, and a slice of no elements, for the small separation logic. -/
import Derived.Test.YtjjghmkjdgogiaaSLR
namespace Go.SL
open Go Go.RowKit
section
variable {P : Program} {W0 : World} {E : Nat → Value} {L : List HP} {x y : Operand} {v : Value} {ty : TypeId}
theorem upon_mono {R R' : Value → World → Prop} (h : ∀ v w, R v w → R' v w) {r : Result Next} (hr : Upon P R r) : Upon P R' r := by
  cases r with
  | halt a b => exact hr
  | ok n w' =>
    cases n
    case enter f args =>
      exact Calls.mono (show Calls P f args w' (Ret R) from hr) fun e w'' he => by
        cases e with
        | returned v => exact h _ _ he
        | panicked c => exact he
        | outgrown => exact he
    all_goals first | exact h _ _ hr | exact hr
theorem run_append_empty {t ty e : TypeId} {k n cap c : Nat} {base a : Option Addr} (w : World) (hu : P.underlying t = some (.slice e)) (hs : sizeIs P e = some k) (hc : n ≤ cap) :
    (Builtin.append_ #[t, t] ty #[.slice base n cap, .slice a 0 c]).run P w = .ok (.slice base n cap) w := by
  cases a <;> cases base <;> simp [Builtin.append_, run_underlying hu, sizeOf_run hs, Builtin.lenOf, Builtin.firstCells, loadCells, loadCellsFrom, storeCells, hc, Result.andThen]
theorem e_append_any {t e k bt n m i : Nat} {z vy : Value} {xs news : List Value} (hu : P.underlying t = some (.slice e)) (hs : sizeIs P e = some k) (hb : (P.info? e).map (·.bytes) = some bt) (hz : zeroOf P e = some z) (hzk : z.cells.size = k)
    (hx : evE E x = v) (hi : L[i]? = some (sl e k v n xs)) (hy : evE E y = vy) (hsh : ∃ a c, vy = .slice a m c) (hsome : 0 < m → ∃ b off c, vy = .slice (some ⟨b, off, none⟩) m c ∧ ∀ j u, news[j]? = some u → Has W0 L b (off + j) u)
    (hl : news.length = m * k) (h1 : news.all (·.oneCell') = true) (h63 : n + m ≤ maxLen) (hbytes : (n + m) * bt ≤ 140737488355328) :
    Eff P W0 E L (.call { callee := .builtin .append, args := #[x, y], argTypes := #[t, t] }) ty (X := Value) (fun _ => True) (fun v' => v') (fun v' => L.set i (sl e k v' (n + m) (xs ++ news))) := fun w d pos aft g hst => by
  rcases Nat.eq_zero_or_pos m with h0 | h0
  · subst h0
    obtain ⟨a, c, rfl⟩ := hsh
    obtain rfl : news = [] := List.eq_nil_of_length_eq_zero (by rw [hl]; omega)
    obtain ⟨base, cap, rfl, hc⟩ : ∃ base cap, v = .slice base n cap ∧ n ≤ cap := by
      rcases st_sl_cases (st_at hst hi) with ⟨e1, e2, _⟩ | ⟨b, cap, e1, e2, _⟩
      · exact ⟨none, 0, by rw [e1, e2], by omega⟩
      · exact ⟨_, cap, e1, e2⟩
    have : (execOp (evE E) { dst := d, op := .call { callee := .builtin .append, args := #[x, y], argTypes := #[t, t] }, type := ty, pos := pos, after := aft, guard := g }).run P w = .ok (.value (.slice base n cap)) w := by
      simp [execOp, resolve, invoke, builtin, hx, hy, run_append_empty w hu hs hc]
    rw [this]
    exact ⟨_, trivial, rfl, by rw [List.append_nil, Nat.add_zero]; exact st_set hi (st_at hst hi)⟩
  · obtain ⟨b, off, c, rfl, hn⟩ := hsome h0
    exact e_append hu hs hb hz hzk hx hi hy hl hn h1 h0 h63 hbytes w d pos aft g hst
/-- What came in, behind the elements of an own slice. -/
theorem e_append_rd {t e bt n m i : Nat} {z vy : Value} {xs news : List Value} (hu : P.underlying t = some (.slice e)) (hs : sizeIs P e = some 1) (hb : (P.info? e).map (·.bytes) = some bt) (hz : zeroOf P e = some z) (hzk : z.cells.size = 1)
    (hx : evE E x = v) (hi : L[i]? = some (sl e 1 v n xs)) (hy : evE E y = vy) (hrd : Rd W0 vy m news) (hl : news.length = m) (h1 : news.all (·.oneCell') = true) (h63 : n + m ≤ maxLen) (hbytes : (n + m) * bt ≤ 140737488355328) :
    Eff P W0 E L (.call { callee := .builtin .append, args := #[x, y], argTypes := #[t, t] }) ty (X := Value) (fun _ => True) (fun v' => v') (fun v' => L.set i (sl e 1 v' (n + m) (xs ++ news))) :=
  e_append_any hu hs hb hz hzk hx hi hy hrd.shape (fun h0 => by
    obtain ⟨b, off, c, e⟩ := hrd.some_ h0
    refine ⟨b, off, c, e, fun j u hj => ?_⟩
    have := hrd.cell j u hj
    rw [e] at this
    exact .old this) (by omega) h1 h63 hbytes
/-- The elements of an own slice behind those of another one. -/
theorem e_append_sl {t e bt n m i j : Nat} {z vy : Value} {xs news : List Value} (hu : P.underlying t = some (.slice e)) (hs : sizeIs P e = some 1) (hb : (P.info? e).map (·.bytes) = some bt) (hz : zeroOf P e = some z) (hzk : z.cells.size = 1)
    (hx : evE E x = v) (hi : L[i]? = some (sl e 1 v n xs)) (hy : evE E y = vy) (hj : L[j]? = some (sl e 1 vy m news)) (hij : i ≠ j) (h1 : news.all (·.oneCell') = true) (h63 : n + m ≤ maxLen) (hbytes : (n + m) * bt ≤ 140737488355328) :
    Eff P W0 E L (.call { callee := .builtin .append, args := #[x, y], argTypes := #[t, t] }) ty (X := Value) (fun _ => True) (fun v' => v') (fun v' => L.set i (sl e 1 v' (n + m) (xs ++ news))) := fun w d pos aft g hst => by
  have hjl : j < L.length := (List.getElem?_eq_some_iff.1 hj).1
  rcases st_sl_cases (st_at hst hj) with ⟨e1, e2, e3⟩ | ⟨b, cap, e1, e2, e3, hs2⟩
  · subst e2
    exact e_append_any (news := news) hu hs hb hz hzk hx hi hy ⟨_, _, e1⟩ (fun h => absurd h (by omega)) (by rw [e3]; rfl) h1 h63 hbytes w d pos aft g hst
  · have hst2 : st W0 w (L.set j (slp e 1 b cap news)) := st_set hj hs2
    have hi2 : (L.set j (slp e 1 b cap news))[i]? = some (sl e 1 v n xs) := by rw [List.getElem?_set_ne (Ne.symm hij)]; exact hi
    have := e_append_any (ty := ty) (L := L.set j (slp e 1 b cap news)) (news := news) hu hs hb hz hzk hx hi2 hy ⟨_, _, e1⟩ (fun _ => ⟨b, 0, cap, e1, fun q u hq => .row (i := j) (List.getElem?_set_self hjl) (by rw [Nat.zero_add]; exact hq)⟩) (by omega) h1 h63 hbytes w d pos aft g hst2
    refine upon_mono ?_ this
    rintro u w' ⟨v', _, hu', h⟩
    refine ⟨v', trivial, hu', ?_⟩
    have hj2 : ((L.set j (slp e 1 b cap news)).set i (sl e 1 v' (n + m) (xs ++ news)))[j]? = some (slp e 1 b cap news) := by
      rw [List.getElem?_set_ne hij]; exact List.getElem?_set_self hjl
    have h2 := st_set hj2 (p' := sl e 1 vy m news) (by rw [e1]; exact st_sl_mk e3 e2 (st_at h hj2))
    rw [List.set_comm _ _ (Ne.symm hij), List.set_set] at h2
    rw [List.set_comm _ _ hij] at h2
    rwa [show L.set j (sl e 1 vy m news) = L from by
      apply List.ext_getElem?
      intro q
      rw [List.getElem?_set]
      split
      · rename_i hq; subst hq; first | (rw [if_pos hjl]; exact hj.symm) | exact hj.symm
      · rfl] at h2
/-- A slice of no elements that is none the less there. -/
theorem e_buildSlice0 {t e k : Nat} (hu : sliceElem P t = some (e, k)) : Eff P W0 E L (.buildSlice t 0 #[]) ty (X := Nat) (fun _ => True) (fun b => .slice (some ⟨b, 0, none⟩) 0 0) (fun b => sl e k (.slice (some ⟨b, 0, none⟩) 0 0) 0 [] :: L) := fun w d pos aft g hst => by
  obtain ⟨hu, hs⟩ := sliceElem_parts hu
  have hr : (execOp (evE E) { dst := d, op := .buildSlice t 0 #[], type := ty, pos := pos, after := aft, guard := g }).run P w = .ok (.value (.slice (some ⟨w.heap.size, 0, none⟩) 0 0)) (w.alloc (.cells #[] e (0, 0))) := by
    simp only [execOp, Instr.buildSlice]
    simp [run_underlying hu, sizeOf_run hs, Instr.fill, newRow, Result.andThen, show Array.range 0 = (#[] : Array Nat) from Array.ext (by simp) (by simp)]
  rw [hr]
  exact ⟨w.heap.size, trivial, rfl, st_sl_mk (by simp) (Nat.le_refl _) (st_slp_pt (by simp) (by simp [maxLen]) (st_new (o := .cells #[] e (0, 0)) hst))⟩
end
end Go.SL
