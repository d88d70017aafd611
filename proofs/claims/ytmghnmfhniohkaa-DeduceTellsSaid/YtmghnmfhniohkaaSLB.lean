/- A slice made with room, and a copy of what came in, for the small separation logic. -/
import Derived.Test.YtmghnmfhniohkaaSLR
import Derived.Laws.CopyRow
import Derived.Laws.IdiomCopy
namespace Go.SL
open Go Go.RowKit
section
variable {P : Program} {W0 : World} {E : Nat → Value} {L : List HP} {x y : Operand} {ty : TypeId}
theorem e_makeSliceCap {t e k b len cap : Nat} {z : Value} {lx cx : Operand} {kl kc : IntKind} (hu : P.underlying t = some (.slice e)) (hs : sizeIs P e = some k) (hb : (P.info? e).map (·.bytes) = some b) (hz : zeroOf P e = some z)
    (hl : evE E lx = .int kl (len : Int)) (hc : evE E cx = .int kc (cap : Int)) (hlc : len ≤ cap) (h1 : b * cap ≤ 281474976710656) (h2 : cap ≤ 9223372036854775807) :
    Eff P W0 E L (.makeSlice t lx cx) ty (X := Nat) (fun _ => True) (fun b => .slice (some ⟨b, 0, none⟩) len cap) (fun b => pt b e (madeCells z.cells (cap * k)).toList :: L) := fun w d pos aft g hst => by
  unfold sizeIs at hs
  unfold zeroOf at hz
  cases hi : P.info? e with
  | none => simp [hi] at hs
  | some i =>
    simp [hi] at hs hz hb
    have hb' : (i.bytes : Int) * (cap : Int) ≤ 281474976710656 := by
      have : ((b * cap : Nat) : Int) ≤ 281474976710656 := by omega
      rw [hb]; rwa [Int.natCast_mul] at this
    have := run_make (P := P) w t e i z hu hi hz kl kc (len : Int) cap (by omega) (by omega) hb' (by omega)
    simp only [Int.toNat_natCast, hs] at this
    have hr : (execOp (evE E) { dst := d, op := .makeSlice t lx cx, type := ty, pos := pos, after := aft, guard := g }).run P w = .ok (.value (.slice (some ⟨w.heap.size, 0, none⟩) len cap)) (w.alloc (.cells (madeCells z.cells (cap * k)) e (0, 0))) := by
      simp [execOp, hl, hc, this]
    rw [hr]
    exact ⟨w.heap.size, trivial, rfl, by simpa [pt] using st_new (o := .cells (madeCells z.cells (cap * k)) e (0, 0)) hst⟩
theorem e_copy_rd {t u e e' b n m cap i : Nat} {vy : Value} {c news : List Value} (hu : P.underlying t = some (.slice e)) (hs : sizeIs P e = some 1) (hx : evE E x = .slice (some ⟨b, 0, none⟩) n cap) (hi : L[i]? = some (pt b e' c)) (hy : evE E y = vy) (hrd : Rd W0 vy m news)
    (hl : news.length = m) (hmn : m = n) (hfit : m ≤ c.length) (h1 : news.all (·.oneCell') = true) :
    Eff P W0 E L (.call { callee := .builtin .copy, args := #[x, y], argTypes := #[t, u] }) ty (X := Unit) (fun _ => True) (fun _ => .int .i64 ((m : Nat) : Int)) (fun _ => L.set i (pt b e' (news ++ c.drop m))) := fun w d pos aft g hst => by
  subst hmn
  rcases Nat.eq_zero_or_pos m with h0 | h0
  · subst h0
    obtain ⟨a, cc, rfl⟩ := hrd.shape
    obtain rfl : news = [] := List.eq_nil_of_length_eq_zero hl
    have := run_copy_none (P := P) w t u ty e (some ⟨b, 0, none⟩) a 0 cap 0 cc hu hs rfl
    have hr : (execOp (evE E) { dst := d, op := .call { callee := .builtin .copy, args := #[x, y], argTypes := #[t, u] }, type := ty, pos := pos, after := aft, guard := g }).run P w = .ok (.value (.int .i64 0)) w := by
      simp [execOp, resolve, invoke, builtin, hx, hy, this, goInt]
    rw [hr]
    exact ⟨(), trivial, rfl, by rw [List.nil_append, List.drop_zero]; exact st_set hi (st_at hst hi)⟩
  · obtain ⟨sb, off, cc, rfl⟩ := hrd.some_ h0
    have hg := (st_own hst hi).2
    have := run_copy_row (P := P) w t u ty e b 0 m cap ⟨sb, off, none⟩ m cc c.toArray e' news hu hs hg (by rw [hl]; exact (Nat.min_self m).symm) (fun j v hj => by rw [add_mk]; exact st_ro hst (hrd.cell j v hj)) (by simp; omega) (by simpa using h1)
    have hr : (execOp (evE E) { dst := d, op := .call { callee := .builtin .copy, args := #[x, y], argTypes := #[t, u] }, type := ty, pos := pos, after := aft, guard := g }).run P w = .ok (.value (.int .i64 ((m : Nat) : Int))) (w.setRow b (news ++ c.drop m).toArray) := by
      simp [execOp, resolve, invoke, builtin, hx, hy, this, goInt, hl]
    rw [hr]
    exact ⟨(), trivial, rfl, st_set hi (st_row (st_at hst hi))⟩
end
end Go.SL
