/- A part of the proof. -/
import Derived.Maps.Keyed
import Derived.DeepKeys4
import Derived.LoopN
import Derived.Test.YtjnejkdamhefgaaGreatDoorJnA
import Derived.ChangeKeysEq
namespace Go.SL
open Go Go.RowKit Go.MapKept
def mp (b : Nat) (kvs : List (Value × Value)) : HP := fun h => ∃ (es : Array MapEntry) (clock : Nat), h b = some (.map es clock) ∧ es.toList.map (fun e => (e.key, e.val)) = kvs ∧ Stamped es clock
section
variable {P : Program} {W0 w : World} {E : Nat → Value} {L : List HP} {ty : TypeId} {x y z : Operand} {v : Value}
theorem st_mp {b i : Nat} {kvs : List (Value × Value)} (h : st W0 w L) (hi : L[i]? = some (mp b kvs)) : ∃ (es : Array MapEntry) (clock : Nat), w.heap[b]? = some (.map es clock) ∧ es.toList.map (fun e => (e.key, e.val)) = kvs := by
 obtain ⟨_, x, hL, hx⟩ := h
 obtain ⟨a, ha, es, clock, h5, h6, _⟩ := stL_get hL hi
 exact ⟨es, clock, (hx _ _ (ha _ _ h5)).2, h6⟩
theorem e_makeMap {t : TypeId} : Eff P W0 E L (.makeMap t none) ty (X := Nat) (fun _ => True) (fun b => .map (some b)) (fun b => mp b [] :: L) := fun w d pos aft g hst => by
 have hr : (execOp (evE E) { dst := d, op := .makeMap t none, type := ty, pos := pos, after := aft, guard := g }).run P w = .ok (.value (.map (some w.heap.size))) (w.alloc (.map #[] 0)) := by
  simp [execOp, Instr.makeMap, Result.andThen]
 rw [hr]
 exact ⟨w.heap.size, trivial, rfl, st_head (p := own w.heap.size (.map #[] 0)) (fun _ hp => ⟨#[], 0, hp, rfl, stamped_empty 0⟩) (st_new hst)⟩
theorem q_lookup {t kt el b i : Nat} {kvs : List (Value × Value)} {key zv r : Value} {ok : Bool} (hu : P.underlying t = some (.map kt el)) (K : Maps.Keyed P kt) (hz : zeroOf P el = some zv) (hx : evE E x = .map (some b)) (hy : evE E y = key)
    (hi : L[i]? = some (mp b kvs)) (hk : ∃ l, keyOf P kt key = some l) (hks : ∀ p ∈ kvs, ∃ l, keyOf P kt p.1 = some l)
    (hr : ((∀ p ∈ kvs, p.1 ≠ key) ∧ r = zv ∧ ok = false) ∨ ((key, r) ∈ kvs ∧ (∀ v', (key, v') ∈ kvs → v' = r) ∧ ok = true)) : Quiet P W0 E L (.lookup t x y true) ty (.tuple #[r, .bool ok]) := fun w d pos aft g hst => by
  obtain ⟨es, clock, hb, hkv⟩ := st_mp hst hi
  obtain ⟨lk, hlk⟩ := hk
  subst hkv
  have hes : ∀ e ∈ es.toList, ∃ l, keyOf P kt e.key = some l := fun e he => hks (e.key, e.val) (List.mem_map.2 ⟨e, he, rfl⟩)
  rcases K.find w hlk es.toList hes with ⟨h1, h2⟩ | ⟨j, e, h1, h2, h3⟩
  · rcases hr with ⟨_, rfl, rfl⟩ | ⟨h4, _, _⟩
    · simp [execOp, Instr.lookup, hx, hy, run_underlying hu, MapKept.run_getObj_map hb, K.check w _ hlk, h1, zero_run hz, Result.andThen]
    · obtain ⟨e, he, h5⟩ := List.mem_map.1 h4
      simp only [Prod.mk.injEq] at h5
      exact absurd h5.1 (h2 e he)
  · have hm := List.mem_of_getElem? h2
    rcases hr with ⟨h4, _, _⟩ | ⟨_, h5, rfl⟩
    · exact absurd h3 (h4 (e.key, e.val) (List.mem_map.2 ⟨e, hm, rfl⟩))
    · have : e.val = r := h5 _ (by rw [← h3]; exact List.mem_map.2 ⟨e, hm, rfl⟩)
      subst this
      simp [execOp, Instr.lookup, hx, hy, run_underlying hu, MapKept.run_getObj_map hb, K.check w _ hlk, h1, Result.andThen]
theorem e_mapNew {t kt el b i : Nat} {kvs : List (Value × Value)} {key val : Value} (hu : P.underlying t = some (.map kt el)) (K : Maps.Keyed P kt) (hx : evE E x = .map (some b)) (hy : evE E y = key) (hz : evE E z = val)
    (hi : L[i]? = some (mp b kvs)) (hk : ∃ l, keyOf P kt key = some l) (hks : ∀ p ∈ kvs, ∃ l, keyOf P kt p.1 = some l) (hn : ∀ p ∈ kvs, p.1 ≠ key) :
    Eff P W0 E L (.mapUpdate t x y z) ty (X := Unit) (fun _ => True) (fun _ => undef) (fun _ => L.set i (mp b (kvs ++ [(key, val)]))) := fun w d pos aft g hst => by
  obtain ⟨lk, hlk⟩ := hk
  have hat := st_at hst hi
  obtain ⟨hB, h0, ⟨a, c, g1, g2, g3, ⟨es, clock, hb0, hkv, hst0⟩, g5⟩, hx0⟩ := hat
  have hb := (hx0 _ _ (g2 _ _ hb0)).2
  have hown : st W0 w (own b (.map es clock) :: L.eraseIdx i) := ⟨hB, h0, ⟨a, c, g1, g2, g3, hb0, g5⟩, hx0⟩
  subst hkv
  have hes : ∀ e ∈ es.toList, ∃ l, keyOf P kt e.key = some l := fun e he => hks (e.key, e.val) (List.mem_map.2 ⟨e, he, rfl⟩)
  have h1 : (Instr.findKey kt key es.toList).run P w = .ok none w := by
    rcases K.find w hlk es.toList hes with ⟨h1, _⟩ | ⟨j, e, _, h2, h3⟩
    · exact h1
    · exact absurd h3 (hn (e.key, e.val) (List.mem_map.2 ⟨e, List.mem_of_getElem? h2, rfl⟩))
  have hr : (execOp (evE E) { dst := d, op := .mapUpdate t x y z, type := ty, pos := pos, after := aft, guard := g }).run P w = .ok .skip { w with heap := w.heap.setIfInBounds b (.map (es.push { key := key, val := val, born := clock }) (clock + 1)) } := by
    simp [execOp, Instr.mapUpdate, hx, hy, hz, run_underlying hu, MapKept.run_getObj_map hb, K.check w _ hlk, h1, Result.andThen, MapKept.run_setObj_map _ hb]
  rw [hr]
  have hlt : b < w.heap.size := (Array.getElem?_eq_some_iff.1 hb).1
  refine ⟨(), trivial, rfl, st_set hi (st_head (p := own b (.map (es.push { key := key, val := val, born := clock }) (clock + 1))) (fun _ hp => ⟨_, _, hp, by simp, stamped_push hst0 (fun x hx => hn (x.key, x.val) (List.mem_map.2 ⟨x, hx, rfl⟩))⟩) (st_upd hown rfl rfl rfl (by simp) ?_ ?_))⟩
  · simp [hlt]
  · intro k hk _
    simp [Ne.symm hk]
theorem q_eql_agg {t t' : TypeId} {a b : Array Value} {r : Bool} (hx : evE E x = .agg a) (hy : evE E y = .agg b) (hg : P.eqGuardType P.depth t = false) (hr : ∀ w, (Op.equal t (.agg a) (.agg b)).run P w = .ok r w) : Quiet P W0 E L (.binOp .eql t x y t') ty (.bool r) := fun w d pos aft g _ => by
 simp [execOp, eqGuard, hx, hy, binOp, hg, hr w, Result.andThen]
end
end Go.SL
namespace Go.SL
open Go Go.RowKit
abbrev pv (b : Nat) : Value := .pointer (some ⟨b, 0, none⟩)
section
variable (P : Program) (W0 : World) (Q : Exit → Act → World → Prop) (n : Nat) (D : List Deferred)
def Wn (k : Nat) (c : Code) (E : Nat → Value) (L : List HP) : Prop := ∀ a w, Is n D E a → st W0 w L → Code.rounds P c Q k a w
end
section
variable {P : Program} {W0 : World} {Q : Exit → Act → World → Prop} {n : Nat} {D : List Deferred} {E : Nat → Value} {L : List HP} {c : Code}
theorem Wc.rounds (k : Nat) (h : Wn P W0 Q n D k c E L) : Wc P W0 Q n D (.loop c) E L := fun a w ha hs => wp_loop_rounds k (h a w ha hs)
theorem Wn.round {k : Nat} (h : Wc P W0 (Exit.then (Code.rounds P c Q k) Q) n D c E L) : Wn P W0 Q n D (k + 1) c E L := fun a w ha hs => h a w ha hs
theorem Wx.again {k : Nat} (h : Wn P W0 Q n D k c E L) : Wx (Exit.then (Code.rounds P c Q k) Q) n D .normal E L (W0 := W0) := fun a w ha hs => h a w ha hs
end
section
variable {P : Program} {W0 w : World} {E : Nat → Value} {L : List HP} {ty : TypeId} {x y z : Operand} {v : Value}
theorem Wx.imp {Q : Exit → Act → World → Prop} {n : Nat} {D : List Deferred} {e : Exit} {L' : List HP} (hL : ∀ w, st W0 w L → st W0 w L') (k : Wx Q n D e E L' (W0 := W0)) : Wx Q n D e E L (W0 := W0) := fun a w ha hs => k a w ha (hL w hs)
theorem q_idx_arr {t e n k b off m : Nat} {ik : IntKind} {i : Int} (hu : P.underlying t = some (.array n e)) (hs : sizeIs P e = some k) (hx : evE E x = .pointer (some ⟨b, off, none⟩)) (hy : evE E y = .int ik i)
  (h0 : 0 ≤ i) (h1 : i < n) (hm : off + i.toNat * k = m) : Quiet P W0 E L (.indexAddr t x y) ty (.pointer (some ⟨b, m, none⟩)) := fun w d pos aft g _ => by
 subst hm
 simp [execOp, Instr.indexAt, Instr.sureAddr, asIntOf, hx, hy, run_underlying hu, h0, h1, sizeOf_run hs, add_mk]
theorem q_lookup1 {t kt el b i : Nat} {kvs : List (Value × Value)} {key zv r : Value} (hu : P.underlying t = some (.map kt el)) (K : Maps.Keyed P kt) (hz : zeroOf P el = some zv) (hx : evE E x = .map (some b)) (hy : evE E y = key)
    (hi : L[i]? = some (mp b kvs)) (hk : ∃ l, keyOf P kt key = some l) (hks : ∀ p ∈ kvs, ∃ l, keyOf P kt p.1 = some l)
    (hr : ((∀ p ∈ kvs, p.1 ≠ key) ∧ r = zv) ∨ ((key, r) ∈ kvs ∧ (∀ v', (key, v') ∈ kvs → v' = r))) : Quiet P W0 E L (.lookup t x y false) ty r := fun w d pos aft g hst => by
  obtain ⟨es, clock, hb, hkv⟩ := st_mp hst hi
  obtain ⟨lk, hlk⟩ := hk
  subst hkv
  have hes : ∀ e ∈ es.toList, ∃ l, keyOf P kt e.key = some l := fun e he => hks (e.key, e.val) (List.mem_map.2 ⟨e, he, rfl⟩)
  rcases K.find w hlk es.toList hes with ⟨h1, h2⟩ | ⟨j, e, h1, h2, h3⟩
  · rcases hr with ⟨_, rfl⟩ | ⟨h4, _⟩
    · simp [execOp, Instr.lookup, hx, hy, run_underlying hu, MapKept.run_getObj_map hb, K.check w _ hlk, h1, zero_run hz, Result.andThen]
    · obtain ⟨e, he, h5⟩ := List.mem_map.1 h4
      simp only [Prod.mk.injEq] at h5
      exact absurd h5.1 (h2 e he)
  · have hm := List.mem_of_getElem? h2
    rcases hr with ⟨h4, _⟩ | ⟨_, h5⟩
    · exact absurd h3 (h4 (e.key, e.val) (List.mem_map.2 ⟨e, hm, rfl⟩))
    · have : e.val = r := h5 _ (by rw [← h3]; exact List.mem_map.2 ⟨e, hm, rfl⟩)
      subst this
      simp [execOp, Instr.lookup, hx, hy, run_underlying hu, MapKept.run_getObj_map hb, K.check w _ hlk, h1, Result.andThen]
end
end Go.SL
namespace Go.Proofs.YtjnejkdamhefgaaGreatDoor
open Tryz
open Go Go.SL Go.Dk Go.Jn Go.RowKit
set_option linter.unusedVariables false
set_option maxRecDepth 8000
theorem fo_144_0 : fieldOff prog 144 0 = some 0 := by kernel_rfl
theorem fo_144_3 : fieldOff prog 144 3 = some 3 := by kernel_rfl
theorem fo_144_1 : fieldOff prog 144 1 = some 1 := by kernel_rfl
theorem fo_144_2 : fieldOff prog 144 2 = some 2 := by kernel_rfl
theorem zo_431 : zeroOf prog 431 = some (Value.agg #[Value.pointer none, Value.slice none 0 0]) := by kernel_rfl
@[reducible] def isJ (j dp : Nat) (s : JS) : HP := pt j 144 [.pointer (some ⟨dp, 0, none⟩), .string s.text, .int .i64 s.seq, .bool s.dead]
theorem cI : prog.cellsOf 3 = 1 := by kernel_rfl
theorem eqIn (d : Nat) (a b : Int) (w : World) : (Op.equalIn (d + 1) 3 (.int .i64 a) (.int .i64 b)).run prog w = .ok (a == b) w := by
 simp [Op.equalIn, run_underlying underlying3]
theorem eqI2 (a b : Int) (w : World) : (Op.equal 138 (.agg #[.int .i64 a, .int .i64 b]) (.agg #[.int .i64 0, .int .i64 0])).run prog w = .ok (decide (a = 0 ∧ b = 0)) w := by
 obtain ⟨i, hi⟩ := info_of_underlying underlying3
 have h : ∀ d : Nat, (Op.equalIn (d + 1 + 1) 138 (.agg #[.int .i64 a, .int .i64 b]) (.agg #[.int .i64 0, .int .i64 0])).run prog w = .ok (decide (a = 0 ∧ b = 0)) w := fun d => by
  rw [run_equalIn_array w (d + 1) _ _ underlying138 hi, cI, show List.range 2 = [0, 1] from rfl]
  simp [Op.eqItems, part, eqIn]
  by_cases ha : a = 0 <;> by_cases hb : b = 0 <;> simp [ha, hb]
 exact h 9998
theorem jthere_c (W0 : World) (j dp : Nat) (t : ByteArray) (q : Int) (dead : Bool) :
  Con1 prog W0 164 #[Vp j] [pt j 144 [Vp dp, Vs t, Vi q, Value.bool dead]] (.bool true) [pt j 144 [Vp dp, Vs t, Vi q, Value.bool dead]] := by
 refine Con.of func164 rfl ntmps164 rfl (fun F => ?_)
 refine Wc.a 1 rfl (Wc.b 1 rfl (Wl.q (q_neq_nil (r := false) rfl rfl underlying109 rfl) (Wl.run 3 rfl (Wl.q (q_field fo_144_0 rfl rfl) (Wl.q (q_c 0 sc_25 rfl rfl rfl) (Wl.q (q_neq_nil (r := false) rfl rfl underlying25 rfl) (Wl.rg 2 rfl (Wc.ret (Wx.f1 rfl (fun w hs => ?_))))))))))
 exact ⟨(), trivial, rfl, hs⟩
theorem jstate_dead (W0 : World) (j dp : Nat) (t : ByteArray) (q : Int) (d : DS) :
  Con1 prog W0 165 #[Vp j] [pt j 144 [Vp dp, Vs t, Vi q, Vt], isDisk dp d] (.int .i64 6) [pt j 144 [Vp dp, Vs t, Vi q, Vt], isDisk dp d] := by
 refine Con.of func165 rfl ntmps165 rfl (fun F => ?_)
 show Wc _ W0 _ _ _ _ _ ((pt j 144 [Vp dp, Vs t, Vi q, Vt]) :: (isDisk dp d) :: F)
 refine Wc.a 1 rfl (Wc.seq (Wc.block (Wc.b 1 rfl (Wl.e (e_c call164 (jthere_c W0 j dp t q true)) (fun _ _ => Wl.q (q_not rfl rfl) (Wl.rg 1 rfl (Wc.no rfl (Wc.b 2 rfl (Wl.q (q_field fo_144_3 rfl rfl) (Wl.q (q_c 0 sc_4 rfl rfl rfl) (Wl.rg 9 rfl (Wc.yes rfl (Wc.a 1 rfl (Wc.ret (Wx.blockRet (Wx.thenRet (Wx.f1 rfl (fun w hs => ?_))))))))))))))))))
 exact ⟨(), trivial, rfl, hs⟩
theorem jstate_down (W0 : World) (j dp : Nat) (t : ByteArray) (q : Int) (d : DS) (hd : d.down = true) :
  Con1 prog W0 165 #[Vp j] [pt j 144 [Vp dp, Vs t, Vi q, Vf], isDisk dp d] (.int .i64 6) [pt j 144 [Vp dp, Vs t, Vi q, Vf], isDisk dp d] := by
 refine Con.of func165 rfl ntmps165 rfl (fun F => ?_)
 show Wc _ W0 _ _ _ _ _ ((pt j 144 [Vp dp, Vs t, Vi q, Vf]) :: (isDisk dp d) :: F)
 refine Wc.a 1 rfl (Wc.seq (Wc.block (Wc.b 1 rfl (Wl.e (e_c call164 (jthere_c W0 j dp t q false)) (fun _ _ => Wl.q (q_not rfl rfl) (Wl.rg 1 rfl (Wc.no rfl (Wc.b 2 rfl (Wl.q (q_field fo_144_3 rfl rfl) (Wl.q (q_c 0 sc_4 rfl rfl rfl) (Wl.run 3 rfl (Wl.q (q_field fo_144_0 rfl rfl) (Wl.q (q_c 0 sc_25 rfl rfl rfl) (Wl.pull [1] (Wl.e (e_c call159 (Con.eqs (val' := fun _ => Vf) (post' := fun _ => [isDisk dp d]) (up_c W0 dp d ) (fun _ => (by rw [hd]; rfl)) (fun _ => rfl))) (fun _ _ => Wl.q (q_not rfl rfl) (Wl.rg 2 rfl (Wc.yes rfl (Wc.a 1 rfl (Wc.ret (Wx.blockRet (Wx.thenRet (Wx.f1 rfl (fun w hs => ?_))))))))))))))))))))))))
 exact ⟨(), trivial, rfl, (st_pull [1, 0] (hs))⟩
theorem jstate_on (W0 : World) (j dp : Nat) (t : ByteArray) (q : Int) (d : DS) (hd : d.down = false) :
  Con1 prog W0 165 #[Vp j] [pt j 144 [Vp dp, Vs t, Vi q, Vf], isDisk dp d] (.int .i64 0) [pt j 144 [Vp dp, Vs t, Vi q, Vf], isDisk dp d] := by
 refine Con.of func165 rfl ntmps165 rfl (fun F => ?_)
 show Wc _ W0 _ _ _ _ _ ((pt j 144 [Vp dp, Vs t, Vi q, Vf]) :: (isDisk dp d) :: F)
 refine Wc.a 1 rfl (Wc.seq (Wc.block (Wc.b 1 rfl (Wl.e (e_c call164 (jthere_c W0 j dp t q false)) (fun _ _ => Wl.q (q_not rfl rfl) (Wl.rg 1 rfl (Wc.no rfl (Wc.b 2 rfl (Wl.q (q_field fo_144_3 rfl rfl) (Wl.q (q_c 0 sc_4 rfl rfl rfl) (Wl.run 3 rfl (Wl.q (q_field fo_144_0 rfl rfl) (Wl.q (q_c 0 sc_25 rfl rfl rfl) (Wl.pull [1] (Wl.e (e_c call159 (Con.eqs (val' := fun _ => Vt) (post' := fun _ => [isDisk dp d]) (up_c W0 dp d ) (fun _ => (by rw [hd]; rfl)) (fun _ => rfl))) (fun _ _ => Wl.q (q_not rfl rfl) (Wl.rg 2 rfl (Wc.no rfl (Wc.skip (Wx.blockEnd (Wx.go (Wc.a 1 rfl (Wc.ret ?_)))))))))))))))))))))))
 refine Wx.f1 rfl (fun w hs => ?_)
 exact ⟨(), trivial, rfl, (st_pull [1, 0] (hs))⟩
theorem jstate_off (W0 : World) (j dp : Nat) (t : ByteArray) (q : Int) (d : DS) (dead : Bool) (h : dead = true ∨ d.down = true) : Con1 prog W0 165 #[.pointer (some ⟨j, 0, none⟩)] [pt j 144 [Vp dp, Vs t, Vi q, Value.bool dead], isDisk dp d] (.int .i64 6) [pt j 144 [Vp dp, Vs t, Vi q, Value.bool dead], isDisk dp d] := by
 cases dead
 · exact jstate_down W0 j dp t q d (h.resolve_left (by simp))
 · exact jstate_dead W0 j dp t q d
theorem get_on (W0 : World) (j dp : Nat) (t : ByteArray) (q : Int) (d : DS) (hd : d.down = false) :
  Con1 prog W0 35 #[Vp j] [pt j 144 [Vp dp, Vs t, Vi q, Vf], isDisk dp d] (.tuple #[.string t, .int .i64 0]) [pt j 144 [Vp dp, Vs t, Vi q, Vf], isDisk dp d] := by
 refine Con.of func35 rfl ntmps35 rfl (fun F => ?_)
 show Wc _ W0 _ _ _ _ _ ((pt j 144 [Vp dp, Vs t, Vi q, Vf]) :: (isDisk dp d) :: F)
 refine Wc.a 2 rfl (Wc.seq (Wc.b 1 rfl (Wl.e (e_c call165 (jstate_on W0 j dp t q d hd)) (fun _ _ => Wl.rg 1 rfl (Wc.b 1 rfl (Wl.q (q_neq rfl rfl (dt (by decide))) (Wl.dg (Wc.no rfl (Wc.skip (Wx.go (Wc.b 2 rfl (Wl.q (q_field fo_144_1 rfl rfl) (Wl.q (q_c 0 sc_9 rfl rfl rfl) (Wl.rg 2 rfl (Wc.ret (Wx.f2 rfl (fun w hs => ?_)))))))))))))))))
 exact ⟨(), trivial, rfl, hs⟩
theorem seq_in (W0 : World) (j dp : Nat) (t : ByteArray) (q : Int) (dead : Bool) :
  Con1 prog W0 34 #[Vp j] [pt j 144 [Vp dp, Vs t, Vi q, Value.bool dead]] (.int .i64 q) [pt j 144 [Vp dp, Vs t, Vi q, Value.bool dead]] := by
 refine Con.of func34 rfl ntmps34 rfl (fun F => ?_)
 show Wc _ W0 _ _ _ _ _ ((pt j 144 [Vp dp, Vs t, Vi q, Value.bool dead]) :: F)
 refine Wc.a 1 rfl (Wc.seq (Wc.b 1 rfl (Wl.e (e_c call164 (jthere_c W0 j dp t q dead)) (fun _ _ => Wl.q (q_not rfl rfl) (Wl.dg (Wc.no rfl (Wc.skip (Wx.go (Wc.b 2 rfl (Wl.q (q_field fo_144_2 rfl rfl) (Wl.q (q_c 0 sc_3 rfl rfl rfl) (Wl.rg 1 rfl (Wc.ret (Wx.f1 rfl (fun w hs => ?_)))))))))))))))
 exact ⟨(), trivial, rfl, hs⟩
theorem room_in (W0 : World) (j dp : Nat) (t : ByteArray) (q : Int) (d : DS) (dead : Bool) (h1 : 1 ≤ d.secs.length) (hm : d.secs.length ≤ 4096) :
  Con1 prog W0 180 #[Vp j] [pt j 144 [Vp dp, Vs t, Vi q, Value.bool dead], isDisk dp d] (.int .i64 ((half d.secs * 64 : Nat) : Int)) [pt j 144 [Vp dp, Vs t, Vi q, Value.bool dead], isDisk dp d] := by
 refine Con.of func180 rfl ntmps180 rfl (fun F => ?_)
 show Wc _ W0 _ _ _ _ _ ((pt j 144 [Vp dp, Vs t, Vi q, Value.bool dead]) :: (isDisk dp d) :: F)
 refine Wc.a 1 rfl (Wc.seq (Wc.b 1 rfl (Wl.e (e_c call164 (jthere_c W0 j dp t q dead)) (fun _ _ => Wl.q (q_not rfl rfl) (Wl.dg (Wc.no rfl (Wc.skip (Wx.go (Wc.b 2 rfl (Wl.q (q_field fo_144_0 rfl rfl) (Wl.q (q_c 0 sc_25 rfl rfl rfl) (Wl.pull [1] (Wl.e (e_c call162 (sectors_c W0 dp d h1 hm)) (fun _ _ => ?_))))))))))))))
 have hh : half d.secs ≤ 4096 := by unfold half; omega
 refine Wl.q (q_mul (c := (((half d.secs) * 64 : Nat) : Int)) rfl rfl (by rw [wrap_i64] <;> omega)) (Wl.rg 1 rfl (Wc.ret (Wx.f1 rfl (fun w hs => ?_))))
 exact ⟨(), trivial, rfl, (st_pull [1, 0] (hs))⟩
theorem st_swap4 {W0 w : World} {a b c x : HP} {L : List HP} (h : st W0 w (x :: a :: b :: c :: L)) : st W0 w (a :: b :: c :: x :: L) := st_pull [1, 1, 1] h
theorem load_c (W0 : World) (j dp : Nat) (t : ByteArray) (q l : Int) (dead : Bool) (d : DS) (hw : WF d) (hd : d.down = false) (h4 : 4 ≤ d.secs.length) (hsn : d.since.length < 1099511627776) (h0 : 0 ≤ l) (hl : l ≤ ((half d.secs * 64 : Nat) : Int)) (hq : 0 ≤ q) :
    Con1 prog W0 163 #[Vp j, Vi l] [pt j 144 [Vp dp, Vs t, Vi q, Value.bool dead], isDisk dp d] (.int .i64 0) [isDisk dp d, pt j 144 [Vp dp, Vs (textR (rd d) (first d.secs q) l), Vi q, Value.bool dead]] := by
  refine Con.of func163 rfl ntmps163 rfl (fun F => ?_)
  have hm := hw.l.len
  have hh : half d.secs ≤ 2047 := by unfold half; omega
  have hf2 : first d.secs q ≤ 4096 := by unfold first; split <;> omega
  show Wc _ W0 _ _ _ _ _ ((pt j 144 [Vp dp, Vs t, Vi q, Value.bool dead]) :: (isDisk dp d) :: F)
  refine Wc.a 1 rfl (Wc.sr (Wl.e (e_alloc (vs := [Vz, Vn]) zo_431 rfl) (fun bb _ => Wl.dg (Wc.seq (Wc.seq (Wc.drawsS [8] ((pt bb 431 [Vz, Vn]) :: (pt j 144 [Vp dp, Vs t, Vi q, Value.bool dead]) :: (isDisk dp d) :: []) (by kernel_rfl) (Wr.p 0 oo3 rfl (q_move rfl) (Wr.p 1 oo3 rfl (q_nil_ptr rfl) (Wr.p 2 oo3 rfl (q_field fo_144_0 rfl rfl) (Wr.t 3 oo3 rfl (q_c 1 sc_25 rfl rfl rfl) (Wr.p 4 oo3 rfl (q_move rfl) (Wr.p 5 oo3 rfl (q_nil_ptr rfl) (Wr.p 6 oo3 rfl (q_field fo_144_2 rfl rfl) (Wr.t 7 oo3 rfl (q_c 1 sc_3 rfl rfl rfl) (Wr.pull [2] (Wr.x0 8 rfl (e_c call262 (first_c W0 dp d q hq (by omega) hm)) (fun _ _ => Wr.rebaseS [] ((isDisk dp d) :: (pt bb 431 [Vz, Vn]) :: (pt j 144 [Vp dp, Vs t, Vi q, Value.bool dead]) :: []) (by kernel_rfl) (Wr.p 9 oo3 rfl (q_assign rfl) (Wr.z (Wx.go (Wc.block ?_)))))))))))))))))))))
  refine Wc.loop (X := Nat × Value × Value) (fun (k, a, v) E => E 6 = Vi (((first d.secs q + k) : Nat) : Int) ∧ E 0 = Vp j ∧ E 1 = Vi l ∧ E 5 = Vp bb ∧ (a = .pointer none ∨ a = .pointer (some ⟨bb, 0, none⟩)) ∧ k ≤ (l.toNat + 63) / 64 ∧ (k = 0 → v = .slice none 0 0)) (fun (k, a, v) => (isDisk dp d) :: (pt j 144 [Vp dp, Vs t, Vi q, Value.bool dead]) :: (pt bb 431 [a, v]) :: (sl 5 1 v ((catR (rd d) (first d.secs q) k).size) (Lib.strCells (catR (rd d) (first d.secs q) k))) :: F) (fun (k, a, v) => (l.toNat + 63) / 64 - k) (0, .pointer none, .slice none 0 0) ?_ ?_ ?_
  · exact ⟨rfl, rfl, rfl, rfl, (.inl rfl), (by omega), (fun _ => rfl)⟩
  · exact fun w hs => by have h2 := (st_pull [0, 1, 0] (hs)); exact st_swap4 (st_sl_nil h2)
  · rintro ⟨k, a, v⟩ E2 ⟨hE6_0, hE0_0, hE1_0, hE5_0, ha, hk, hv⟩
    dsimp only at *
    have hcs : (catR (rd d) (first d.secs q) k).size = k * 64 := catR_size k (fun i hi => rd_size hw (first_le h4 q (by omega)))
    refine Wc.seq (Wc.sr (Wl.pull [2, 2] (Wl.e (e_c call263 (blen_c W0 bb ((catR (rd d) (first d.secs q) k).size) a v (Lib.strCells (catR (rd d) (first d.secs q) k))) (mcons (by exact hE5_0) mnil)) (fun _ _ => Wl.q (v := Vi l) (q_move hE1_0) ?_))))
    by_cases hlt : (((catR (rd d) (first d.secs q) k).size : Nat) : Int) < l
    ·
      refine Wl.q (q_lss rfl rfl (dt hlt)) (Wl.dg (Wc.yes rfl (Wc.skip (Wx.go (Wc.seq (Wc.block (Wc.sr (Wl.q (v := Vp j) (q_move hE0_0) (Wl.run 1 rfl (Wl.q (q_field fo_144_0 rfl rfl) (Wl.q (q_c 3 sc_25 rfl rfl rfl) (Wl.q (v := Vi (((first d.secs q + k) : Nat) : Int)) (q_move hE6_0) (Wl.pull [2] (Wl.e (e_c call160 (Con.eqs (val' := fun _ => Value.tuple #[Vs (rd d (first d.secs q + k)), Vi 0]) (post' := fun _ => [isDisk dp d]) (read_c W0 dp d (((first d.secs q + k) : Nat) : Int) hsn) (fun _ => (by rw [rd_read hd (first_le h4 q (by omega))])) (fun _ => rfl))) (fun _ _ => Wl.rg 5 rfl (Wc.seq (Wc.b 1 rfl (Wl.q (q_neq rfl rfl (dt (by decide))) (Wl.dg (Wc.no rfl (Wc.skip (Wx.go (Wc.region ?_)))))))))))))))))))))))
      refine Wl.run 1 rfl (Wl.pull [1, 1] (Wl.e (e_c call264 (bwrite_c W0 bb ((catR (rd d) (first d.secs q) k).size) a v (Lib.strCells (catR (rd d) (first d.secs q) k)) (rd d (first d.secs q + k)) ha (by rw [rd_size hw (first_le h4 q (by omega))]; omega)) (mcons (by exact hE5_0) (mcons rfl mnil))) (fun v2 _ => Wl.done (Wx.blockEnd (Wx.go (Wc.region (Wl.q (v := Vi (((first d.secs q + k) : Nat) : Int)) (q_move hE6_0) (Wl.q (q_add (c := (((first d.secs q + k) + 1 : Nat) : Int)) rfl rfl (by rw [wrap_i64] <;> omega)) (Wl.run 1 rfl (Wl.done ?_))))))))))
      refine Wx.at (k + 1, .pointer (some ⟨bb, 0, none⟩), v2) ⟨(by simp only; omega), rfl, hE0_0, hE1_0, hE5_0, (.inr rfl), (by omega), (fun h => absurd h (Nat.succ_ne_zero k))⟩ (fun w hs => by have h2 : st W0 w ((isDisk dp d) :: (pt j 144 [Vp dp, Vs t, Vi q, Value.bool dead]) :: (pt bb 431 [Vp bb, v2]) :: (sl 5 1 v2 ((catR (rd d) (first d.secs q) (k + 1)).size) (Lib.strCells (catR (rd d) (first d.secs q) (k + 1)))) :: F) := (by rw [catR, ByteArray.size_append, strCells_app]; exact (st_pull [2, 2, 0, 0] (hs))); exact h2)
    ·
      refine Wl.q (q_lss rfl rfl (df hlt)) (Wl.dg (Wc.no rfl (Wc.exit (Wx.thenExit (Wx.thenExit (Wx.out (Wx.go (Wc.sr (Wl.q (v := Vp j) (q_move hE0_0) (Wl.e (e_c call265 (bstr_c W0 bb a v (catR (rd d) (first d.secs q) k) (by omega) (fun h => hv (by omega))) (mcons (by exact hE5_0) mnil)) (fun _ _ => Wl.q (v := Vi ((l.toNat : Nat) : Int)) (q_move (Eq.trans hE1_0 (congrArg (Value.int .i64) (Int.toNat_of_nonneg h0).symm))) (Wl.q (q_slice_str (l := 0) (h := l.toNat) underlying9 rfl rfl ⟨_, rfl⟩ (by omega) (by omega) rfl) (Wl.run 1 rfl (Wl.q (q_field fo_144_1 rfl rfl) (Wl.e (e_store (i := 2) (v := Vs ((catR (rd d) (first d.secs q) k).extract 0 l.toNat)) sz_9 rfl rfl (fun _ _ => rfl) rfl (by simp)) (fun _ _ => Wl.dg (Wc.a 1 rfl (Wc.ret (Wx.f1 rfl (fun w hs => ?_))))))))))))))))))))
      have he : k = (l.toNat + 63) / 64 := by omega
      exact ⟨(), trivial, rfl, by unfold textR; rw [← he]; exact (st_drop (st_pull [0] hs))⟩
end Go.Proofs.YtjnejkdamhefgaaGreatDoor
