/- Appends of whatever slice, and a slice of no elements, for the small separation logic. -/
import Derived.Test.YtjjghmkjdgogiaaGreatDoorSLR
namespace Go.SL
open Go Go.RowKit
section
variable {P : Program} {W0 : World} {E : Nat → Value} {L : List HP} {x y : Operand} {v : Value} {ty : TypeId}
theorem run_append_empty {t ty e : TypeId} {k n cap c : Nat} {base a : Option Addr} (w : World) (hu : P.underlying t = some (.slice e)) (hs : sizeIs P e = some k) (hc : n ≤ cap) :
  (Builtin.append_ #[t, t] ty #[.slice base n cap, .slice a 0 c]).run P w = .ok (.slice base n cap) w := by
 cases a <;> cases base <;> simp [Builtin.append_, run_underlying hu, sizeOf_run hs, Builtin.lenOf, Builtin.firstCells, loadCells, loadCellsFrom, storeCells, hc, Result.andThen]
theorem e_append_any {t e k bt n m i : Nat} {z vy : Value} {xs news : List Value} (hu : P.underlying t = some (.slice e)) (hs : sizeIs P e = some k) (hb : (P.info? e).map (·.bytes) = some bt) (hz : zeroOf P e = some z) (hzk : z.cells.size = k)
    (hx : evE E x = v) (hi : L[i]? = some (sl e k v n xs)) (hy : evE E y = vy) (hsh : ∃ a c, vy = .slice a m c) (hsome : 0 < m → ∃ b off c, vy = .slice (some ⟨b, off, none⟩) m c ∧ ∀ j u, news[j]? = some u → Has W0 L b (off + j) u)
    (hl : news.length = m * k) (h1 : news.all (·.oneCell') = true) (h63 : n + m ≤ maxLen) (hbytes : (n + m) * bt ≤ 140737488355328) :
    Eff P W0 E L (.call { callee := .builtin .append, args := #[x, y], argTypes := #[t, t] }) ty (X := Value) (fun _ => True) (fun v' => v') (fun v' => L.set i (sl e k v' (n + m) (xs ++ news))) := fun w d pos aft g hst => by
  rcases Nat.eq_zero_or_pos m with h0 | h0
  · subst h0
    obtain ⟨a, c, rfl⟩ := hsh
    obtain rfl : news = [] := List.eq_nil_of_length_eq_zero (by rw [hl]; omega)
    obtain ⟨base, cap, rfl, hc⟩ : ∃ base cap, v = .slice base n cap ∧ n ≤ cap := by
      rcases st_sl_cases (st_at hst hi) with ⟨e1, e2, _⟩ | ⟨b, cap, e1, e2, _⟩
      · exact ⟨none, 0, by rw [e1, e2], by omega⟩
      · exact ⟨_, cap, e1, e2⟩
    have : (execOp (evE E) { dst := d, op := .call { callee := .builtin .append, args := #[x, y], argTypes := #[t, t] }, type := ty, pos := pos, after := aft, guard := g }).run P w = .ok (.value (.slice base n cap)) w := by
      simp [execOp, resolve, invoke, builtin, hx, hy, run_append_empty w hu hs hc]
    rw [this]
    exact ⟨_, trivial, rfl, by rw [List.append_nil, Nat.add_zero]; exact st_set hi (st_at hst hi)⟩
  · obtain ⟨b, off, c, rfl, hn⟩ := hsome h0
    exact e_append hu hs hb hz hzk hx hi hy hl hn h1 h0 h63 hbytes w d pos aft g hst
/-- A slice of no elements that is none the less there. -/
theorem e_buildSlice0 {t e k : Nat} (hu : sliceElem P t = some (e, k)) : Eff P W0 E L (.buildSlice t 0 #[]) ty (X := Nat) (fun _ => True) (fun b => .slice (some ⟨b, 0, none⟩) 0 0) (fun b => sl e k (.slice (some ⟨b, 0, none⟩) 0 0) 0 [] :: L) := fun w d pos aft g hst => by
 obtain ⟨hu, hs⟩ := sliceElem_parts hu
 have hr : (execOp (evE E) { dst := d, op := .buildSlice t 0 #[], type := ty, pos := pos, after := aft, guard := g }).run P w = .ok (.value (.slice (some ⟨w.heap.size, 0, none⟩) 0 0)) (w.alloc (.cells #[] e (0, 0))) := by
  simp only [execOp, Instr.buildSlice]
  simp [run_underlying hu, sizeOf_run hs, Instr.fill, newRow, Result.andThen, show Array.range 0 = (#[] : Array Nat) from Array.ext (by simp) (by simp)]
 rw [hr]
 exact ⟨w.heap.size, trivial, rfl, st_sl_mk (by simp) (Nat.le_refl _) (st_slp_pt (by simp) (by simp [maxLen]) (st_new (o := .cells #[] e (0, 0)) hst))⟩
end
end Go.SL
