/- A part of the proof. -/
import Derived.Test.YtjnejkdamhefgaaGreatDoorJnB
namespace Go.SL
open Go Go.RowKit Go.MapKept
section
variable {P : Program} {W0 w : World} {E : Nat → Value} {L : List HP} {ty : TypeId} {x y z : Operand} {v : Value}
theorem map_eraseIdx_of {α β : Type} (f : α → β) : ∀ (l : List α) (j : Nat), (l.eraseIdx j).map f = (l.map f).eraseIdx j
 | [], _ => rfl
 | _ :: _, 0 => rfl
 | a :: l, j + 1 => by rw [List.eraseIdx_cons_succ, List.map_cons, List.map_cons, List.eraseIdx_cons_succ, map_eraseIdx_of f l j]
theorem e_delete {t kt el b i j : Nat} {kvs : List (Value × Value)} {key r : Value} {ats1 : TypeId} (hu : P.underlying t = some (.map kt el)) (K : Maps.Keyed P kt) (hx : evE E x = .map (some b)) (hy : evE E y = key)
    (hi : L[i]? = some (mp b kvs)) (hk : ∃ l, keyOf P kt key = some l) (hks : ∀ p ∈ kvs, ∃ l, keyOf P kt p.1 = some l) (hj : kvs[j]? = some (key, r)) (hone : ∀ (n : Nat) (p : Value × Value), kvs[n]? = some p → p.1 = key → n = j) :
    Eff P W0 E L (.call { callee := .builtin .delete, args := #[x, y], argTypes := #[t, ats1] }) ty (X := Unit) (fun _ => True) (fun _ => .tuple #[]) (fun _ => L.set i (mp b (kvs.eraseIdx j))) := fun w d pos aft g hst => by
  obtain ⟨lk, hlk⟩ := hk
  have hat := st_at hst hi
  obtain ⟨hB, h0, ⟨a, c, g1, g2, g3, ⟨es, clock, hb0, hkv, hst0⟩, g5⟩, hx0⟩ := hat
  have hb := (hx0 _ _ (g2 _ _ hb0)).2
  have hown : st W0 w (own b (.map es clock) :: L.eraseIdx i) := ⟨hB, h0, ⟨a, c, g1, g2, g3, hb0, g5⟩, hx0⟩
  subst hkv
  have hes : ∀ e ∈ es.toList, ∃ l, keyOf P kt e.key = some l := fun e he => hks (e.key, e.val) (List.mem_map.2 ⟨e, he, rfl⟩)
  rw [List.getElem?_map] at hj
  obtain ⟨e1, he1, hkr⟩ := Option.map_eq_some_iff.1 hj
  obtain ⟨u, h1⟩ : ∃ u, (Instr.findKey kt key es.toList).run P w = .ok (some (j, u)) w := by
    rcases K.find w hlk es.toList hes with ⟨_, h2⟩ | ⟨n, e, h1, h2, h3⟩
    · exact absurd (congrArg Prod.fst hkr) (h2 e1 (List.mem_of_getElem? he1))
    · have := hone n (e.key, e.val) (by rw [List.getElem?_map, h2]; rfl) h3
      subst this
      exact ⟨_, h1⟩
  have hjl : j < es.toList.length := (List.getElem?_eq_some_iff.1 he1).1
  have hjs : j < es.size := by simpa using hjl
  have hsub : (es.eraseIdxIfInBounds j).toList = es.toList.eraseIdx j := by
    unfold Array.eraseIdxIfInBounds
    rw [dif_pos hjs]
    simp
  have hr : (execOp (evE E) { dst := d, op := .call { callee := .builtin .delete, args := #[x, y], argTypes := #[t, ats1] }, type := ty, pos := pos, after := aft, guard := g }).run P w = .ok (.value (.tuple #[])) { w with heap := w.heap.setIfInBounds b (.map (es.eraseIdxIfInBounds j) clock) } := by
    simp [execOp, resolve, invoke, builtin, hx, hy, Builtin.delete_, run_underlying hu, MapKept.run_getObj_map hb, K.check w _ hlk, h1, Result.andThen, MapKept.run_setObj_map _ hb]
  rw [hr]
  have hlt : b < w.heap.size := (Array.getElem?_eq_some_iff.1 hb).1
  refine ⟨(), trivial, rfl, st_set hi (st_head (p := own b (.map (es.eraseIdxIfInBounds j) clock)) (fun _ hp => ⟨_, _, hp, by rw [hsub]; exact map_eraseIdx_of _ _ _, stamped_erase hst0 j⟩) (st_upd hown rfl rfl rfl (by simp) ?_ ?_))⟩
  · simp [hlt]
  · intro k hk _
    simp [Ne.symm hk]
theorem e_mapSet {t kt el b i j : Nat} {kvs : List (Value × Value)} {key val old : Value} (hu : P.underlying t = some (.map kt el)) (K : Maps.Keyed P kt) (hx : evE E x = .map (some b)) (hy : evE E y = key) (hz : evE E z = val)
    (hi : L[i]? = some (mp b kvs)) (hk : ∃ l, keyOf P kt key = some l) (hks : ∀ p ∈ kvs, ∃ l, keyOf P kt p.1 = some l) (hj : kvs[j]? = some (key, old)) (hone : ∀ (n : Nat) (p : Value × Value), kvs[n]? = some p → p.1 = key → n = j) :
    Eff P W0 E L (.mapUpdate t x y z) ty (X := Unit) (fun _ => True) (fun _ => undef) (fun _ => L.set i (mp b (kvs.set j (key, val)))) := fun w d pos aft g hst => by
  obtain ⟨lk, hlk⟩ := hk
  have hat := st_at hst hi
  obtain ⟨hB, h0, ⟨a, c, g1, g2, g3, ⟨es, clock, hb0, hkv, hst0⟩, g5⟩, hx0⟩ := hat
  have hb := (hx0 _ _ (g2 _ _ hb0)).2
  have hown : st W0 w (own b (.map es clock) :: L.eraseIdx i) := ⟨hB, h0, ⟨a, c, g1, g2, g3, hb0, g5⟩, hx0⟩
  subst hkv
  have hes : ∀ e ∈ es.toList, ∃ l, keyOf P kt e.key = some l := fun e he => hks (e.key, e.val) (List.mem_map.2 ⟨e, he, rfl⟩)
  rw [List.getElem?_map] at hj
  obtain ⟨e1, he1, hkr⟩ := Option.map_eq_some_iff.1 hj
  obtain ⟨u, h1⟩ : ∃ u, (Instr.findKey kt key es.toList).run P w = .ok (some (j, u)) w := by
    rcases K.find w hlk es.toList hes with ⟨_, h2⟩ | ⟨n, e, h1, h2, h3⟩
    · exact absurd (congrArg Prod.fst hkr) (h2 e1 (List.mem_of_getElem? he1))
    · have := hone n (e.key, e.val) (by rw [List.getElem?_map, h2]; rfl) h3
      subst this
      exact ⟨_, h1⟩
  have hek : e1.key = key := congrArg Prod.fst hkr
  have hej : es[j]? = some e1 := by rw [← Array.getElem?_toList]; exact he1
  have hr : (execOp (evE E) { dst := d, op := .mapUpdate t x y z, type := ty, pos := pos, after := aft, guard := g }).run P w = .ok .skip { w with heap := w.heap.setIfInBounds b (.map (es.modify j fun e => { e with key := key, val := val }) clock) } := by
    have hkey : ((es[j]?).map (·.key)).getD key = key := by rw [hej]; exact hek
    simp [execOp, Instr.mapUpdate, hx, hy, hz, run_underlying hu, MapKept.run_getObj_map hb, K.check w _ hlk, h1, hkey, K.stays w hlk, Result.andThen, MapKept.run_setObj_map _ hb]
  rw [hr]
  have hlt : b < w.heap.size := (Array.getElem?_eq_some_iff.1 hb).1
  have hlist : (es.modify j fun e => { e with key := key, val := val }).toList.map (fun e => (e.key, e.val)) = (es.toList.map fun e => (e.key, e.val)).set j (key, val) := by
    apply List.ext_getElem?
    intro n
    rw [List.getElem?_map, Array.getElem?_toList, Array.getElem?_modify, List.getElem?_set, List.getElem?_map, Array.getElem?_toList, List.length_map]
    by_cases e : j = n
    · subst e
      have hl : j < es.toList.length := (List.getElem?_eq_some_iff.1 he1).1
      rw [if_pos rfl, if_pos rfl, if_pos hl, hej]; rfl
    · rw [if_neg e, if_neg e]
  refine ⟨(), trivial, rfl, st_set hi (st_head (p := own b (.map (es.modify j fun e => { e with key := key, val := val }) clock)) (fun _ hp => ⟨_, _, hp, hlist, stamped_modify hst0 j _ (fun _ _ => rfl) (fun e _ he => by rw [hej] at he; cases he; exact hek.symm)⟩) (st_upd hown rfl rfl rfl (by simp) ?_ ?_))⟩
  · simp [hlt]
  · intro k hk _
    simp [Ne.symm hk]
end
end Go.SL
namespace Go.SL
open Go Go.RowKit
section
variable {P : Program} {W0 : World} {E : Nat → Value} {L : List HP} {x y : Operand} {v : Value} {ty : TypeId}
theorem run_append_empty {t ty e : TypeId} {k n cap c : Nat} {base a : Option Addr} (w : World) (hu : P.underlying t = some (.slice e)) (hs : sizeIs P e = some k) (hc : n ≤ cap) :
  (Builtin.append_ #[t, t] ty #[.slice base n cap, .slice a 0 c]).run P w = .ok (.slice base n cap) w := by
 cases a <;> cases base <;> simp [Builtin.append_, run_underlying hu, sizeOf_run hs, Builtin.lenOf, Builtin.firstCells, loadCells, loadCellsFrom, storeCells, hc, Result.andThen]
theorem e_append_any {t e k bt n m i : Nat} {z vy : Value} {xs news : List Value} (hu : P.underlying t = some (.slice e)) (hs : sizeIs P e = some k) (hb : (P.info? e).map (·.bytes) = some bt) (hz : zeroOf P e = some z) (hzk : z.cells.size = k)
    (hx : evE E x = v) (hi : L[i]? = some (sl e k v n xs)) (hy : evE E y = vy) (hsh : ∃ a c, vy = .slice a m c) (hsome : 0 < m → ∃ b off c, vy = .slice (some ⟨b, off, none⟩) m c ∧ ∀ j u, news[j]? = some u → Has W0 L b (off + j) u)
    (hl : news.length = m * k) (h1 : news.all (·.oneCell') = true) (h63 : n + m ≤ maxLen) (hbytes : (n + m) * bt ≤ 140737488355328) :
    Eff P W0 E L (.call { callee := .builtin .append, args := #[x, y], argTypes := #[t, t] }) ty (X := Value) (fun _ => True) (fun v' => v') (fun v' => L.set i (sl e k v' (n + m) (xs ++ news))) := fun w d pos aft g hst => by
  rcases Nat.eq_zero_or_pos m with h0 | h0
  · subst h0
    obtain ⟨a, c, rfl⟩ := hsh
    obtain rfl : news = [] := List.eq_nil_of_length_eq_zero (by rw [hl]; omega)
    obtain ⟨base, cap, rfl, hc⟩ : ∃ base cap, v = .slice base n cap ∧ n ≤ cap := by
      rcases st_sl_cases (st_at hst hi) with ⟨e1, e2, _⟩ | ⟨b, cap, e1, e2, _⟩
      · exact ⟨none, 0, by rw [e1, e2], by omega⟩
      · exact ⟨_, cap, e1, e2⟩
    have : (execOp (evE E) { dst := d, op := .call { callee := .builtin .append, args := #[x, y], argTypes := #[t, t] }, type := ty, pos := pos, after := aft, guard := g }).run P w = .ok (.value (.slice base n cap)) w := by
      simp [execOp, resolve, invoke, builtin, hx, hy, run_append_empty w hu hs hc]
    rw [this]
    exact ⟨_, trivial, rfl, by rw [List.append_nil, Nat.add_zero]; exact st_set hi (st_at hst hi)⟩
  · obtain ⟨b, off, c, rfl, hn⟩ := hsome h0
    exact e_append hu hs hb hz hzk hx hi hy hl hn h1 h0 h63 hbytes w d pos aft g hst
theorem e_append_rdk {t e k bt n m i : Nat} {z vy : Value} {xs news : List Value} (hu : P.underlying t = some (.slice e)) (hs : sizeIs P e = some k) (hb : (P.info? e).map (·.bytes) = some bt) (hz : zeroOf P e = some z) (hzk : z.cells.size = k)
  (hx : evE E x = v) (hi : L[i]? = some (sl e k v n xs)) (hy : evE E y = vy) (hrd : Rd W0 vy m news) (hl : news.length = m * k) (h1 : news.all (·.oneCell') = true) (h63 : n + m ≤ maxLen) (hbytes : (n + m) * bt ≤ 140737488355328) :
  Eff P W0 E L (.call { callee := .builtin .append, args := #[x, y], argTypes := #[t, t] }) ty (X := Value) (fun _ => True) (fun v' => v') (fun v' => L.set i (sl e k v' (n + m) (xs ++ news))) :=
 e_append_any hu hs hb hz hzk hx hi hy hrd.shape (fun h0 => by
  obtain ⟨b, off, c, e⟩ := hrd.some_ h0
  refine ⟨b, off, c, e, fun j u hj => ?_⟩
  have := hrd.cell j u hj
  rw [e] at this
  exact .old this) hl h1 h63 hbytes
theorem e_buildSlice0 {t e k : Nat} (hu : sliceElem P t = some (e, k)) : Eff P W0 E L (.buildSlice t 0 #[]) ty (X := Nat) (fun _ => True) (fun b => .slice (some ⟨b, 0, none⟩) 0 0) (fun b => sl e k (.slice (some ⟨b, 0, none⟩) 0 0) 0 [] :: L) := fun w d pos aft g hst => by
 obtain ⟨hu, hs⟩ := sliceElem_parts hu
 have hr : (execOp (evE E) { dst := d, op := .buildSlice t 0 #[], type := ty, pos := pos, after := aft, guard := g }).run P w = .ok (.value (.slice (some ⟨w.heap.size, 0, none⟩) 0 0)) (w.alloc (.cells #[] e (0, 0))) := by
  simp only [execOp, Instr.buildSlice]
  simp [run_underlying hu, sizeOf_run hs, Instr.fill, newRow, Result.andThen, show Array.range 0 = (#[] : Array Nat) from Array.ext (by simp) (by simp)]
 rw [hr]
 exact ⟨w.heap.size, trivial, rfl, st_sl_mk (by simp) (Nat.le_refl _) (st_slp_pt (by simp) (by simp [maxLen]) (st_new (o := .cells #[] e (0, 0)) hst))⟩
end
end Go.SL
