import Derived.Test.YtkndmgfahghcjaaGreatSLM
import Derived.LoopN
/- Loops walked round by round, for the small separation logic. -/
namespace Go.SL
open Go Go.RowKit
section
variable (P : Program) (W0 : World) (Q : Exit → Act → World → Prop) (n : Nat) (D : List Deferred)
/-- So many rounds of c at most are still to come. -/
def Wn (k : Nat) (c : Code) (E : Nat → Value) (L : List HP) : Prop := ∀ a w, Is n D E a → st W0 w L → Code.rounds P c Q k a w
end
section
variable {P : Program} {W0 : World} {Q : Exit → Act → World → Prop} {n : Nat} {D : List Deferred} {E : Nat → Value} {L : List HP} {c : Code}
theorem Wc.rounds (k : Nat) (h : Wn P W0 Q n D k c E L) : Wc P W0 Q n D (.loop c) E L := fun a w ha hs => wp_loop_rounds k (h a w ha hs)
theorem Wn.round {k : Nat} (h : Wc P W0 (Exit.then (Code.rounds P c Q k) Q) n D c E L) : Wn P W0 Q n D (k + 1) c E L := fun a w ha hs => h a w ha hs
theorem Wx.again {k : Nat} (h : Wn P W0 Q n D k c E L) : Wx (Exit.then (Code.rounds P c Q k) Q) n D .normal E L (W0 := W0) := fun a w ha hs => h a w ha hs
end
section
variable {P : Program} {W0 w : World} {E : Nat → Value} {L : List HP} {ty : TypeId} {x y z : Operand} {v : Value}
theorem Wx.imp {Q : Exit → Act → World → Prop} {n : Nat} {D : List Deferred} {e : Exit} {L' : List HP} (hL : ∀ w, st W0 w L → st W0 w L') (k : Wx Q n D e E L' (W0 := W0)) : Wx Q n D e E L (W0 := W0) := fun a w ha hs => k a w ha (hL w hs)
/-- '&a[i]' of an array's address. -/
theorem q_idx_arr {t e n k b off m : Nat} {ik : IntKind} {i : Int} (hu : P.underlying t = some (.array n e)) (hs : sizeIs P e = some k) (hx : evE E x = .pointer (some ⟨b, off, none⟩)) (hy : evE E y = .int ik i)
  (h0 : 0 ≤ i) (h1 : i < n) (hm : off + i.toNat * k = m) : Quiet P W0 E L (.indexAddr t x y) ty (.pointer (some ⟨b, m, none⟩)) := fun w d pos aft g _ => by
 subst hm
 simp [execOp, Instr.indexAt, Instr.sureAddr, asIntOf, hx, hy, run_underlying hu, h0, h1, sizeOf_run hs, add_mk]
/-- 'm[k]'. -/
theorem q_lookup1 {t kt el b i : Nat} {kvs : List (Value × Value)} {key zv r : Value} (hu : P.underlying t = some (.map kt el)) (K : Maps.Keyed P kt) (hz : zeroOf P el = some zv) (hx : evE E x = .map (some b)) (hy : evE E y = key)
    (hi : L[i]? = some (mp b kvs)) (hk : ∃ l, keyOf P kt key = some l) (hks : ∀ p ∈ kvs, ∃ l, keyOf P kt p.1 = some l)
    (hr : ((∀ p ∈ kvs, p.1 ≠ key) ∧ r = zv) ∨ ((key, r) ∈ kvs ∧ (∀ v', (key, v') ∈ kvs → v' = r))) : Quiet P W0 E L (.lookup t x y false) ty r := fun w d pos aft g hst => by
  obtain ⟨es, clock, hb, hkv⟩ := st_mp hst hi
  obtain ⟨lk, hlk⟩ := hk
  subst hkv
  have hes : ∀ e ∈ es.toList, ∃ l, keyOf P kt e.key = some l := fun e he => hks (e.key, e.val) (List.mem_map.2 ⟨e, he, rfl⟩)
  rcases K.find w hlk es.toList hes with ⟨h1, h2⟩ | ⟨j, e, h1, h2, h3⟩
  · rcases hr with ⟨_, rfl⟩ | ⟨h4, _⟩
    · simp [execOp, Instr.lookup, hx, hy, run_underlying hu, MapKept.run_getObj_map hb, K.check w _ hlk, h1, zero_run hz, Result.andThen]
    · obtain ⟨e, he, h5⟩ := List.mem_map.1 h4
      simp only [Prod.mk.injEq] at h5
      exact absurd h5.1 (h2 e he)
  · have hm := List.mem_of_getElem? h2
    rcases hr with ⟨h4, _⟩ | ⟨_, h5⟩
    · exact absurd h3 (h4 (e.key, e.val) (List.mem_map.2 ⟨e, hm, rfl⟩))
    · have : e.val = r := h5 _ (by rw [← h3]; exact List.mem_map.2 ⟨e, hm, rfl⟩)
      subst this
      simp [execOp, Instr.lookup, hx, hy, run_underlying hu, MapKept.run_getObj_map hb, K.check w _ hlk, h1, Result.andThen]
end
end Go.SL

