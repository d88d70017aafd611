import Derived.Test.YtkndmgfahghcjaaGreatSLR
import Derived.Maps.Keyed
import Derived.DeepKeys4
import Derived.LoopN
/- Maps, for the small separation logic. -/
namespace Go.SL
open Go Go.RowKit Go.MapKept

/-- A map's block: its entries, in the order in which they came. -/
def mp (b : Nat) (kvs : List (Value × Value)) : HP := fun h => ∃ (es : Array MapEntry) (clock : Nat), h b = some (.map es clock) ∧ es.toList.map (fun e => (e.key, e.val)) = kvs ∧ Stamped es clock

section
variable {P : Program} {W0 w : World} {E : Nat → Value} {L : List HP} {ty : TypeId} {x y z : Operand} {v : Value}
theorem st_mp {b i : Nat} {kvs : List (Value × Value)} (h : st W0 w L) (hi : L[i]? = some (mp b kvs)) : ∃ (es : Array MapEntry) (clock : Nat), w.heap[b]? = some (.map es clock) ∧ es.toList.map (fun e => (e.key, e.val)) = kvs := by
 obtain ⟨_, x, hL, hx⟩ := h
 obtain ⟨a, ha, es, clock, h5, h6, _⟩ := stL_get hL hi
 exact ⟨es, clock, (hx _ _ (ha _ _ h5)).2, h6⟩

theorem e_makeMap {t : TypeId} : Eff P W0 E L (.makeMap t none) ty (X := Nat) (fun _ => True) (fun b => .map (some b)) (fun b => mp b [] :: L) := fun w d pos aft g hst => by
 have hr : (execOp (evE E) { dst := d, op := .makeMap t none, type := ty, pos := pos, after := aft, guard := g }).run P w = .ok (.value (.map (some w.heap.size))) (w.alloc (.map #[] 0)) := by
  simp [execOp, Instr.makeMap, Result.andThen]
 rw [hr]
 exact ⟨w.heap.size, trivial, rfl, st_head (p := own w.heap.size (.map #[] 0)) (fun _ hp => ⟨#[], 0, hp, rfl, stamped_empty 0⟩) (st_new hst)⟩

/-- 'v, ok := m[k]'. -/
theorem q_lookup {t kt el b i : Nat} {kvs : List (Value × Value)} {key zv r : Value} {ok : Bool} (hu : P.underlying t = some (.map kt el)) (K : Maps.Keyed P kt) (hz : zeroOf P el = some zv) (hx : evE E x = .map (some b)) (hy : evE E y = key)
    (hi : L[i]? = some (mp b kvs)) (hk : ∃ l, keyOf P kt key = some l) (hks : ∀ p ∈ kvs, ∃ l, keyOf P kt p.1 = some l)
    (hr : ((∀ p ∈ kvs, p.1 ≠ key) ∧ r = zv ∧ ok = false) ∨ ((key, r) ∈ kvs ∧ (∀ v', (key, v') ∈ kvs → v' = r) ∧ ok = true)) : Quiet P W0 E L (.lookup t x y true) ty (.tuple #[r, .bool ok]) := fun w d pos aft g hst => by
  obtain ⟨es, clock, hb, hkv⟩ := st_mp hst hi
  obtain ⟨lk, hlk⟩ := hk
  subst hkv
  have hes : ∀ e ∈ es.toList, ∃ l, keyOf P kt e.key = some l := fun e he => hks (e.key, e.val) (List.mem_map.2 ⟨e, he, rfl⟩)
  rcases K.find w hlk es.toList hes with ⟨h1, h2⟩ | ⟨j, e, h1, h2, h3⟩
  · rcases hr with ⟨_, rfl, rfl⟩ | ⟨h4, _, _⟩
    · simp [execOp, Instr.lookup, hx, hy, run_underlying hu, MapKept.run_getObj_map hb, K.check w _ hlk, h1, zero_run hz, Result.andThen]
    · obtain ⟨e, he, h5⟩ := List.mem_map.1 h4
      simp only [Prod.mk.injEq] at h5
      exact absurd h5.1 (h2 e he)
  · have hm := List.mem_of_getElem? h2
    rcases hr with ⟨h4, _, _⟩ | ⟨_, h5, rfl⟩
    · exact absurd h3 (h4 (e.key, e.val) (List.mem_map.2 ⟨e, hm, rfl⟩))
    · have : e.val = r := h5 _ (by rw [← h3]; exact List.mem_map.2 ⟨e, hm, rfl⟩)
      subst this
      simp [execOp, Instr.lookup, hx, hy, run_underlying hu, MapKept.run_getObj_map hb, K.check w _ hlk, h1, Result.andThen]

/-- 'm[k] = v' where k is not there. -/
theorem e_mapNew {t kt el b i : Nat} {kvs : List (Value × Value)} {key val : Value} (hu : P.underlying t = some (.map kt el)) (K : Maps.Keyed P kt) (hx : evE E x = .map (some b)) (hy : evE E y = key) (hz : evE E z = val)
    (hi : L[i]? = some (mp b kvs)) (hk : ∃ l, keyOf P kt key = some l) (hks : ∀ p ∈ kvs, ∃ l, keyOf P kt p.1 = some l) (hn : ∀ p ∈ kvs, p.1 ≠ key) :
    Eff P W0 E L (.mapUpdate t x y z) ty (X := Unit) (fun _ => True) (fun _ => undef) (fun _ => L.set i (mp b (kvs ++ [(key, val)]))) := fun w d pos aft g hst => by
  obtain ⟨lk, hlk⟩ := hk
  have hat := st_at hst hi
  obtain ⟨hB, h0, ⟨a, c, g1, g2, g3, ⟨es, clock, hb0, hkv, hst0⟩, g5⟩, hx0⟩ := hat
  have hb := (hx0 _ _ (g2 _ _ hb0)).2
  have hown : st W0 w (own b (.map es clock) :: L.eraseIdx i) := ⟨hB, h0, ⟨a, c, g1, g2, g3, hb0, g5⟩, hx0⟩
  subst hkv
  have hes : ∀ e ∈ es.toList, ∃ l, keyOf P kt e.key = some l := fun e he => hks (e.key, e.val) (List.mem_map.2 ⟨e, he, rfl⟩)
  have h1 : (Instr.findKey kt key es.toList).run P w = .ok none w := by
    rcases K.find w hlk es.toList hes with ⟨h1, _⟩ | ⟨j, e, _, h2, h3⟩
    · exact h1
    · exact absurd h3 (hn (e.key, e.val) (List.mem_map.2 ⟨e, List.mem_of_getElem? h2, rfl⟩))
  have hr : (execOp (evE E) { dst := d, op := .mapUpdate t x y z, type := ty, pos := pos, after := aft, guard := g }).run P w = .ok .skip { w with heap := w.heap.setIfInBounds b (.map (es.push { key := key, val := val, born := clock }) (clock + 1)) } := by
    simp [execOp, Instr.mapUpdate, hx, hy, hz, run_underlying hu, MapKept.run_getObj_map hb, K.check w _ hlk, h1, Result.andThen, MapKept.run_setObj_map _ hb]
  rw [hr]
  have hlt : b < w.heap.size := (Array.getElem?_eq_some_iff.1 hb).1
  refine ⟨(), trivial, rfl, st_set hi (st_head (p := own b (.map (es.push { key := key, val := val, born := clock }) (clock + 1))) (fun _ hp => ⟨_, _, hp, by simp, stamped_push hst0 (fun x hx => hn (x.key, x.val) (List.mem_map.2 ⟨x, hx, rfl⟩))⟩) (st_upd hown rfl rfl rfl (by simp) ?_ ?_))⟩
  · simp [hlt]
  · intro k hk _
    simp [Ne.symm hk]

/-- Structs, compared. -/
theorem q_eql_agg {t t' : TypeId} {a b : Array Value} {r : Bool} (hx : evE E x = .agg a) (hy : evE E y = .agg b) (hg : P.eqGuardType P.depth t = false) (hr : ∀ w, (Op.equal t (.agg a) (.agg b)).run P w = .ok r w) : Quiet P W0 E L (.binOp .eql t x y t') ty (.bool r) := fun w d pos aft g _ => by
 simp [execOp, eqGuard, hx, hy, binOp, hg, hr w, Result.andThen]

end
end Go.SL

/- Loops walked round by round, for the small separation logic. -/
namespace Go.SL
open Go Go.RowKit
section
variable (P : Program) (W0 : World) (Q : Exit → Act → World → Prop) (n : Nat) (D : List Deferred)
/-- So many rounds of c at most are still to come. -/
def Wn (k : Nat) (c : Code) (E : Nat → Value) (L : List HP) : Prop := ∀ a w, Is n D E a → st W0 w L → Code.rounds P c Q k a w
end
section
variable {P : Program} {W0 : World} {Q : Exit → Act → World → Prop} {n : Nat} {D : List Deferred} {E : Nat → Value} {L : List HP} {c : Code}
theorem Wc.rounds (k : Nat) (h : Wn P W0 Q n D k c E L) : Wc P W0 Q n D (.loop c) E L := fun a w ha hs => wp_loop_rounds k (h a w ha hs)
theorem Wn.round {k : Nat} (h : Wc P W0 (Exit.then (Code.rounds P c Q k) Q) n D c E L) : Wn P W0 Q n D (k + 1) c E L := fun a w ha hs => h a w ha hs
theorem Wx.again {k : Nat} (h : Wn P W0 Q n D k c E L) : Wx (Exit.then (Code.rounds P c Q k) Q) n D .normal E L (W0 := W0) := fun a w ha hs => h a w ha hs
end
section
variable {P : Program} {W0 w : World} {E : Nat → Value} {L : List HP} {ty : TypeId} {x y z : Operand} {v : Value}
theorem Wx.imp {Q : Exit → Act → World → Prop} {n : Nat} {D : List Deferred} {e : Exit} {L' : List HP} (hL : ∀ w, st W0 w L → st W0 w L') (k : Wx Q n D e E L' (W0 := W0)) : Wx Q n D e E L (W0 := W0) := fun a w ha hs => k a w ha (hL w hs)
/-- '&a[i]' of an array's address. -/
theorem q_idx_arr {t e n k b off m : Nat} {ik : IntKind} {i : Int} (hu : P.underlying t = some (.array n e)) (hs : sizeIs P e = some k) (hx : evE E x = .pointer (some ⟨b, off, none⟩)) (hy : evE E y = .int ik i)
  (h0 : 0 ≤ i) (h1 : i < n) (hm : off + i.toNat * k = m) : Quiet P W0 E L (.indexAddr t x y) ty (.pointer (some ⟨b, m, none⟩)) := fun w d pos aft g _ => by
 subst hm
 simp [execOp, Instr.indexAt, Instr.sureAddr, asIntOf, hx, hy, run_underlying hu, h0, h1, sizeOf_run hs, add_mk]
/-- 'm[k]'. -/
theorem q_lookup1 {t kt el b i : Nat} {kvs : List (Value × Value)} {key zv r : Value} (hu : P.underlying t = some (.map kt el)) (K : Maps.Keyed P kt) (hz : zeroOf P el = some zv) (hx : evE E x = .map (some b)) (hy : evE E y = key)
    (hi : L[i]? = some (mp b kvs)) (hk : ∃ l, keyOf P kt key = some l) (hks : ∀ p ∈ kvs, ∃ l, keyOf P kt p.1 = some l)
    (hr : ((∀ p ∈ kvs, p.1 ≠ key) ∧ r = zv) ∨ ((key, r) ∈ kvs ∧ (∀ v', (key, v') ∈ kvs → v' = r))) : Quiet P W0 E L (.lookup t x y false) ty r := fun w d pos aft g hst => by
  obtain ⟨es, clock, hb, hkv⟩ := st_mp hst hi
  obtain ⟨lk, hlk⟩ := hk
  subst hkv
  have hes : ∀ e ∈ es.toList, ∃ l, keyOf P kt e.key = some l := fun e he => hks (e.key, e.val) (List.mem_map.2 ⟨e, he, rfl⟩)
  rcases K.find w hlk es.toList hes with ⟨h1, h2⟩ | ⟨j, e, h1, h2, h3⟩
  · rcases hr with ⟨_, rfl⟩ | ⟨h4, _⟩
    · simp [execOp, Instr.lookup, hx, hy, run_underlying hu, MapKept.run_getObj_map hb, K.check w _ hlk, h1, zero_run hz, Result.andThen]
    · obtain ⟨e, he, h5⟩ := List.mem_map.1 h4
      simp only [Prod.mk.injEq] at h5
      exact absurd h5.1 (h2 e he)
  · have hm := List.mem_of_getElem? h2
    rcases hr with ⟨h4, _⟩ | ⟨_, h5⟩
    · exact absurd h3 (h4 (e.key, e.val) (List.mem_map.2 ⟨e, hm, rfl⟩))
    · have : e.val = r := h5 _ (by rw [← h3]; exact List.mem_map.2 ⟨e, hm, rfl⟩)
      subst this
      simp [execOp, Instr.lookup, hx, hy, run_underlying hu, MapKept.run_getObj_map hb, K.check w _ hlk, h1, Result.andThen]
end
end Go.SL

