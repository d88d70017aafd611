/- A part of the proof. -/
import Derived.Test.YtjnejkdamhefgaaGreatDoorSLD
import Derived.TacticsIn
import Derived.RangeFuncRecord
import Derived.RangeFuncLeaves
namespace Go.SL
open Go Go.RowKit
def Fr (ro : Option Nat) : Fence := { Fence.wide with round := ro }
theorem callsIn_fr {ro : Option Nat} {n : Nat} {P : Program} {f : FuncId} {args : Array Value} {w : World} {R : Ending → World → Prop} (h : Calls P f args w R) : CallsIn (Fr ro) n P f args w R := callsIn_wide.2 h
theorem roundIn_fr {ro : Option Nat} {n : Nat} {P : Program} {l : Nat} {f : FuncId} {tmps : Array Value} {assign body : Code} {w : World} {R : Ending → World → Prop} (h : RoundIn Fence.wide n P l f tmps assign body w R) : RoundIn (Fr ro) n P l f tmps assign body w R := h
def UponI (P : Program) (R : Value → World → Prop) : Result Next → Prop
 | .ok (.value v) w' => R v w'
 | .ok .skip w' => R undef w'
 | .ok (.enter f args) w' => Calls P f args w' (Ret R)
 | .ok (.round l f tmps assign body) w' => RoundIn Fence.wide 0 P l f tmps assign body w' (Ret R)
 | _ => False
def EffI (P : Program) (W0 : World) (E : Nat → Value) (L : List HP) (op : Op) (ty : TypeId) {X : Type} (φ : X → Prop) (v : X → Value) (L' : X → List HP) : Prop :=
 ∀ (w : World) (d : Option Tmp) (pos : String) (aft : Array Edge) (g : Option (Nat × Bool)), st W0 w L →
  UponI P (fun u w' => ∃ x, φ x ∧ u = v x ∧ st W0 w' (L' x)) ((execOp (evE E) { dst := d, op := op, type := ty, pos := pos, after := aft, guard := g }).run P w)
def ConY (P : Program) (W0 : World) (l : Nat) (args : Array Value) (pre : List HP) {X : Type} (φ : X → Prop) (val : X → Value) (post : X → List HP) : Prop :=
 ∀ (w : World) (F : List HP), st W0 w (pre ++ F) → ∃ f tmps assign body, (Instr.yield l args).run P w = .ok (.round l f tmps assign body) w ∧
  RoundIn Fence.wide 0 P l f tmps assign body w (Ret fun v w' => ∃ x, φ x ∧ v = val x ∧ st W0 w' (post x ++ F))
section
variable {P : Program} {W0 : World} {E : Nat → Value} {L : List HP} {op : Op} {ty : TypeId} {Q : Exit → Act → World → Prop}
theorem Eff.toI {X : Type} {φ : X → Prop} {v : X → Value} {L' : X → List HP} (h : Eff P W0 E L op ty φ v L') : EffI P W0 E L op ty φ v L' := fun w d pos aft g hs => by
 have := h w d pos aft g hs
 generalize (execOp (evE E) { dst := d, op := op, type := ty, pos := pos, after := aft, guard := g }).run P w = r at *
 cases r with
 | ok n w' => cases n <;> first | exact this | exact this.elim
 | halt x w' => exact this
theorem UponI.wpIn {ro : Option Nat} {o : Oper} {a : Act} {w : World} {next : Act → World → Prop} {R : Value → World → Prop} (hnd : ∀ c, o.op ≠ .defer c) (h : UponI P R ((execOp a.eval o).run P w))
  (hk : ∀ v w', R v w' → next (a.put o.dst v) w') : o.wpIn (Fr ro) 0 P a w next Q := by
 refine ⟨fun _ _ => trivial, ?_⟩
 rw [Oper.semAt_eq _ _ _ hnd]
 generalize (execOp a.eval o).run P w = r at *
 cases r with
 | ok n w' =>
  cases n <;> simp only [UponI] at h <;> simp only [Oper.uponIn]
  case value u => exact hk _ _ h
  case skip => exact hk _ _ h
  case enter f args =>
   refine ⟨(fun h => by cases h), callsIn_fr (Calls.mono h fun e w'' he => ?_)⟩
   cases e with
   | returned v => exact hk _ _ he
   | panicked c => exact he.elim
   | outgrown => exact he.elim
  case round l f tmps assign body =>
   refine ⟨(fun h => by cases h), roundIn_fr (RoundIn.mono h fun e w'' he => ?_)⟩
   cases e with
   | returned v => exact hk _ _ he
   | panicked c => exact he.elim
   | outgrown => exact he.elim
 | halt x w' => exact h.elim
theorem e_yield {l : Nat} {y : Operand} {az : Array Operand} {ats : Array TypeId} {args : List Value} {pre F : List HP} {X : Type} {φ : X → Prop} {val : X → Value} {post : X → List HP}
  (hy : evE E y = .func (.yield l) #[] #[]) (ha : az.toList.map (evE E) = args) (hc : ConY P W0 l args.toArray pre φ val post) :
  EffI P W0 E (pre ++ F) (.call { callee := .value y, args := az, argTypes := ats }) ty φ val (fun x => post x ++ F) := fun w d pos aft g hs => by
 obtain ⟨f, tmps, assign, body, h1, h2⟩ := hc w F hs
 have he : (execOp (evE E) { dst := d, op := .call { callee := .value y, args := az, argTypes := ats }, type := ty, pos := pos, after := aft, guard := g }).run P w = .ok (.round l f tmps assign body) w := by
  simp only [execOp, resolve, hy, map_of_list ha]
  simpa [Deferred.ofValue, invoke, Sem.run_bind, Result.andThen, go_sem] using h1
 rw [he]
 exact h2
end
section
variable (P : Program) (W0 : World) (Q : Exit → Act → World → Prop) (n : Nat) (ro : Option Nat) (ops : Array Oper)
def Rl (os : List Oper) (E : Nat → Value) (L : List HP) : Prop := ∀ a w, Is n [] E a → st W0 w L → wpListIn (Fr ro) 0 P ops Q os a w
def Ri (c : Code) (E : Nat → Value) (L : List HP) : Prop := ∀ a w, Is n [] E a → st W0 w L → c.wpIn (Fr ro) 0 P Q a w
end
section
variable {P : Program} {W0 : World} {Q : Exit → Act → World → Prop} {n : Nat} {ro : Option Nat} {ops : Array Oper} {E : Nat → Value} {L : List HP}
 {d : Option Tmp} {op : Op} {ty : TypeId} {pos : String} {aft : Array Edge} {g : Option (Nat × Bool)} {os : List Oper}
theorem Rl.q {v : Value} (hq : Quiet P W0 E L op ty v) (k : Rl P W0 Q n ro ops os (updO E d v) L) (hg : wantedE ops g E = true := by rfl) (hd : dOk n d = true := by rfl) (hnd : ∀ c, op ≠ .defer c := by exact fun _ h => nomatch h) :
  Rl P W0 Q n ro ops ({ dst := d, op := op, type := ty, pos := pos, after := aft, guard := g } :: os) E L := fun a w ha hs => by
 unfold wpListIn
 rw [if_pos (by rw [ha.wanted]; exact hg)]
 refine UponI.wpIn (R := fun u w' => u = v ∧ w' = w) hnd ?_ ?_
 · rw [ha.eval, hq w d pos aft g hs]; exact ⟨rfl, rfl⟩
 · rintro u w' ⟨rfl, rfl⟩; exact k _ _ (ha.put hd _) hs
theorem Rl.no (k : Rl P W0 Q n ro ops os (updO E d undef) L) (hg : wantedE ops g E = false := by rfl) (hd : dOk n d = true := by rfl) :
  Rl P W0 Q n ro ops ({ dst := d, op := op, type := ty, pos := pos, after := aft, guard := g } :: os) E L := fun a w ha hs => by
 unfold wpListIn
 rw [if_neg (by rw [ha.wanted]; simp [hg])]
 exact ⟨fun _ _ => trivial, k _ _ (ha.put hd undef) hs⟩
theorem Rl.ei {X : Type} {φ : X → Prop} {v : X → Value} {L' : X → List HP} (he : EffI P W0 E L op ty φ v L') (k : ∀ x, φ x → Rl P W0 Q n ro ops os (updO E d (v x)) (L' x))
  (hg : wantedE ops g E = true := by rfl) (hd : dOk n d = true := by rfl) (hnd : ∀ c, op ≠ .defer c := by exact fun _ h => nomatch h) :
  Rl P W0 Q n ro ops ({ dst := d, op := op, type := ty, pos := pos, after := aft, guard := g } :: os) E L := fun a w ha hs => by
 unfold wpListIn
 rw [if_pos (by rw [ha.wanted]; exact hg)]
 refine UponI.wpIn (R := fun u w' => ∃ x, φ x ∧ u = v x ∧ st W0 w' (L' x)) hnd ?_ ?_
 · rw [ha.eval]; exact he w d pos aft g hs
 · rintro u w' ⟨x, hx, rfl, hs'⟩; exact k x hx _ _ (ha.put hd _) hs'
theorem Rl.e {X : Type} {φ : X → Prop} {v : X → Value} {L' : X → List HP} (he : Eff P W0 E L op ty φ v L') (k : ∀ x, φ x → Rl P W0 Q n ro ops os (updO E d (v x)) (L' x))
  (hg : wantedE ops g E = true := by rfl) (hd : dOk n d = true := by rfl) (hnd : ∀ c, op ≠ .defer c := by exact fun _ h => nomatch h) :
  Rl P W0 Q n ro ops ({ dst := d, op := op, type := ty, pos := pos, after := aft, guard := g } :: os) E L := Rl.ei he.toI k hg hd hnd
theorem Rl.done (k : Wx Q n [] .normal E L (W0 := W0)) : Rl P W0 Q n ro ops [] E L := fun a w ha hs => k a w ha hs
theorem Rl.imp {L' : List HP} (hL : ∀ w, st W0 w L → st W0 w L') (k : Rl P W0 Q n ro ops os E L') : Rl P W0 Q n ro ops os E L := fun a w ha hs => k a w ha (hL w hs)
theorem Ri.imp {c : Code} {L' : List HP} (hL : ∀ w, st W0 w L → st W0 w L') (k : Ri P W0 Q n ro c E L') : Ri P W0 Q n ro c E L := fun a w ha hs => k a w ha (hL w hs)
theorem Ri.seq {x y : Code} (k : Ri P W0 (Exit.then (fun a w => y.wpIn (Fr ro) 0 P Q a w) Q) n ro x E L) : Ri P W0 Q n ro (.seq x y) E L := fun a w ha hs => wpIn_seq (k a w ha hs)
theorem Ri.region {id : Nat} {l : List Oper} (k : Rl P W0 Q n ro l.toArray l E L) : Ri P W0 Q n ro (.region id l.toArray false) E L := fun a w ha hs => wpIn_region_lit (k a w ha hs)
theorem Ri.yes {c : Operand} {x y : Code} (hc : evE E c = .bool true) (k : Ri P W0 Q n ro x E L) : Ri P W0 Q n ro (.cond c x y) E L := fun a w ha hs => wpIn_cond_true (by rw [ha.eval]; exact hc) (k a w ha hs)
theorem Ri.no {c : Operand} {x y : Code} (hc : evE E c = .bool false) (k : Ri P W0 Q n ro y E L) : Ri P W0 Q n ro (.cond c x y) E L := fun a w ha hs => wpIn_cond_false (by rw [ha.eval]; exact hc) (k a w ha hs)
theorem Ri.skip (k : Wx Q n [] .normal E L (W0 := W0)) : Ri P W0 Q n ro .skip E L := fun a w ha hs => wpIn_skip (k a w ha hs)
theorem Ri.exit {id : Nat} (k : Wx Q n [] (.exit id) E L (W0 := W0)) : Ri P W0 Q n ro (.exit id) E L := fun a w ha hs => wpIn_exit (k a w ha hs)
theorem Ri.ret (k : Wx Q n [] .ret E L (W0 := W0)) : Ri P W0 Q n ro .ret E L := fun a w ha hs => wpIn_ret (k a w ha hs)
theorem Ri.block {id : Nat} {c : Code} (k : Ri P W0 (Exit.inBlock id Q) n ro c E L) : Ri P W0 Q n ro (.block id c) E L := fun a w ha hs => wpIn_block (k a w ha hs)
theorem Wx.goI {y : Code} (k : Ri P W0 Q n ro y E L) : Wx (Exit.then (fun a w => y.wpIn (Fr ro) 0 P Q a w) Q) n [] .normal E L (W0 := W0) := k
theorem Wc.inn {c : Code} (k : Ri P W0 Q n none c E L) : Wc P W0 Q n [] c E L := fun a w ha hs => wpIn_wide.1 (k a w ha hs)
end
structure LpS where
 n : Nat
 E : Nat → Value
 ps : List Nat
 assign : Code
 body : Code
def lp (s : LpS) (l : Nat) (st : LoopState) (pe : Option Code) : HP := fun h => ∃ r : Loop, h l = some (.loop r) ∧ r.state = st ∧ r.pending = pe ∧ r.params = s.ps.toArray ∧ r.assign = s.assign ∧ r.body = s.body ∧ Is s.n [] s.E ⟨r.tmps, []⟩
def updL (E : Nat → Value) : List (Nat × Value) → Nat → Value
 | [] => E
 | p :: r => updL (upd E p.1 p.2) r
theorem Is.fold {n : Nat} : ∀ (l : List (Nat × Value)) {E : Nat → Value} {tmps : Array Value}, Is n [] E ⟨tmps, []⟩ → (∀ p ∈ l, p.1 < n) → Is n [] (updL E l) ⟨l.foldl (fun t p => t.setIfInBounds p.1 p.2) tmps, []⟩
 | [], _, _, h, _ => h
 | p :: r, E, tmps, h, hl => Is.fold r (h.put (d := some p.1) (by simpa [dOk] using hl p List.mem_cons_self) p.2) (fun q hq => hl q (List.mem_cons_of_mem _ hq))
section
variable {P : Program} {W0 w : World} {L F : List HP} {s : LpS} {l : Nat}
theorem st_lp {i : Nat} {z : LoopState} {pe : Option Code} (h : st W0 w L) (hi : L[i]? = some (lp s l z pe)) : ∃ r : Loop, w.heap[l]? = some (.loop r) ∧ r.state = z ∧ r.pending = pe ∧ r.params = s.ps.toArray ∧ r.assign = s.assign ∧ r.body = s.body ∧ Is s.n [] s.E ⟨r.tmps, []⟩ := by
 obtain ⟨_, x, hs, h3⟩ := h
 obtain ⟨a, ha, r, hr, hx⟩ := stL_get hs hi
 exact ⟨r, (h3 _ _ (ha _ _ hr)).2, hx⟩
theorem st_lp_open {z : LoopState} {pe : Option Code} (h : st W0 w (lp s l z pe :: L)) : ∃ r : Loop, st W0 w (own l (.loop r) :: L) ∧ r.state = z ∧ r.pending = pe ∧ r.params = s.ps.toArray ∧ r.assign = s.assign ∧ r.body = s.body ∧ Is s.n [] s.E ⟨r.tmps, []⟩ := by
 obtain ⟨r, hr⟩ := (st_ex (W0 := W0) (w := w) (L := L) (p := fun r : Loop => grp [pr (r.state = z ∧ r.pending = pe ∧ r.params = s.ps.toArray ∧ r.assign = s.assign ∧ r.body = s.body ∧ Is s.n [] s.E ⟨r.tmps, []⟩), own l (.loop r)])).1 (st_head (fun h ⟨r, h1, h2⟩ => ⟨r, Hp.emp, h, Hp.emp_disj h, Hp.emp_le h, Hp.le_refl h, h2, h, Hp.emp, fun _ _ _ => rfl, Hp.le_refl h, Hp.emp_le h, h1, trivial⟩) h)
 obtain ⟨h1, h2⟩ := st_pr.1 (st_grp.1 hr)
 exact ⟨r, h2, h1⟩
theorem st_lp_put {z z' : LoopState} {pe pe' : Option Code} (h : st W0 w (lp s l z pe :: L)) : ∃ r : Loop, w.heap[l]? = some (.loop r) ∧ r.state = z ∧ r.pending = pe ∧ st W0 (w.putObj l (.loop { r with state := z', pending := pe' })) (lp s l z' pe' :: L) := by
 obtain ⟨r, h1, h2, h3, h4, h5, h6, h7⟩ := st_lp_open h
 have hl := (st_own (i := 0) h1 rfl).2
 have hlt : l < w.heap.size := (Array.getElem?_eq_some_iff.1 hl).1
 refine ⟨r, hl, h2, h3, ?_⟩
 have := st_upd (w' := w.putObj l (.loop { r with state := z', pending := pe' })) (o' := .loop { r with state := z', pending := pe' }) h1 rfl rfl rfl (by simp) (World.putObj_heap_same hlt) (fun k hk _ => World.putObj_heap_other hk)
 exact st_head (fun h ho => ⟨{ r with state := z', pending := pe' }, ho, rfl, rfl, h4, h5, h6, h7⟩) this
def Rp (P : Program) (W0 : World) (l : Nat) {X : Type} (φ : X → Prop) (val : X → Value) (post : X → List HP) (F : List HP) : Exit → Act → World → Prop := roundPost P l (Ret fun v w' => ∃ x, φ x ∧ v = val x ∧ st W0 w' (post x ++ F))
section
variable {X : Type} {φ : X → Prop} {val : X → Value} {post : X → List HP} {n : Nat} {E : Nat → Value} {D : List Deferred}
theorem Wx.roundEnd (x : X) (hx : φ x) (hv : val x = .bool true) {M : List HP} (hp : post x = lp s l .ready none :: M) (hL : ∀ w, st W0 w L → st W0 w (lp s l .busy none :: (M ++ F))) : Wx (Rp P W0 l φ val post F) n D .normal E L (W0 := W0) := fun a w ha hs => by
 obtain ⟨r, h1, h2, h3, h4⟩ := st_lp_put (z' := .ready) (pe' := none) (hL w hs)
 exact ⟨_, _, run_endRound none h1, x, hx, hv.symm, by rw [hp]; exact h4⟩
theorem Wx.roundRet (x : X) (hx : φ x) (hv : val x = .bool false) {M : List HP} (hp : post x = lp s l .done (some .ret) :: M) (hL : ∀ w, st W0 w L → st W0 w (lp s l .busy none :: (M ++ F))) : Wx (Rp P W0 l φ val post F) n D .ret E L (W0 := W0) := fun a w ha hs => by
 obtain ⟨r, h1, h2, h3, h4⟩ := st_lp_put (z' := .done) (pe' := some .ret) (hL w hs)
 exact ⟨_, _, run_endRound (some .ret) h1, x, hx, hv.symm, by rw [hp]; exact h4⟩
def Qb (P : Program) (W0 : World) (s : LpS) (l : Nat) {X : Type} (φ : X → Prop) (val : X → Value) (post : X → List HP) (F : List HP) : Exit → Act → World → Prop :=
 Exit.then (fun a w => ∃ w₂, (Instr.beginRound l).run P w = .ok () w₂ ∧ s.body.wpIn (Fr (some l)) 0 P (Rp P W0 l φ val post F) a w₂) (fun _ _ _ => False)
theorem ConY.of {args : List Value} {pre : List HP} (hn : args.length = s.ps.length) (hps : s.ps.all (fun p => Nat.blt p s.n) = true)
  (k : ∀ F, Ri P W0 (Qb P W0 s l φ val post F) s.n (some l) s.assign (updL s.E (s.ps.zip args)) (lp s l .ready none :: (pre ++ F))) : ConY P W0 l args.toArray (lp s l .ready none :: pre) φ val post := fun w F hs => by
 obtain ⟨r, h1, h2, h3, h4, h5, h6, h7⟩ := st_lp (i := 0) hs rfl
 have hy := run_yield (P := P) (args := args.toArray) h1 (by rw [h4]; simpa using hn)
 refine ⟨_, _, _, _, hy, roundIn_of_wpIn trivial ?_⟩
 rw [h5, h6]
 refine k F _ _ ?_ hs
 have hf := Is.fold (s.ps.zip args) h7 (fun p hp => by
  have := List.all_eq_true.1 hps p.1 (List.of_mem_zip hp).1
  simpa using this)
 rw [h4, show s.ps.toArray.zip args.toArray = (s.ps.zip args).toArray from by simp, List.foldl_toArray]
 exact hf
theorem Wx.begin {M : List HP} (k : Ri P W0 (Rp P W0 l φ val post F) n (some l) s.body E (lp s l .busy none :: M)) : Wx (Qb P W0 s l φ val post F) n [] .normal E (lp s l .ready none :: M) (W0 := W0) := fun a w ha hs => by
 obtain ⟨r, h1, h2, h3, g4⟩ := st_lp_put (z' := .busy) (pe' := none) hs
 have hb := run_beginRound (P := P) h1 h2
 refine ⟨_, hb, ?_⟩
 have e : ({ r with state := .busy } : Loop) = { r with state := .busy, pending := none } := by cases r; simp only [Loop.mk.injEq]; exact ⟨trivial, h3, trivial, trivial, trivial, trivial, trivial, trivial⟩
 rw [e]
 exact k _ _ ha g4
end
end
def mark (b : Nat) : List Deferred := [{ target := .collected b, args := #[] }]
def dfr (b : Nat) : HP := own b (.deferred (some []))
section
variable {P : Program} {W0 : World} {Q : Exit → Act → World → Prop} {n : Nat} {E : Nat → Value} {L : List HP}
theorem Wc.rangeFunc {g : Operand} {ps : List Nat} {assign body : Code} {gf : Nat} {lb : List Value} {pre F : List HP} {X : Type} {φ : X → Prop} {val : X → Value} {z : X → LoopState} {pe : X → Option Code} {post : X → List HP}
    (hg : evE E g = .func (.func gf) #[] lb.toArray) (eg : ∀ args w, (callFunc gf args).run P w = .ok (.enter gf args) w) (hz : ∀ x, z x ≠ .busy)
    (hc : ∀ l, Con P W0 gf (.func (.yield l) #[] #[] :: lb).toArray (lp ⟨n, E, ps, assign, body⟩ l .ready none :: pre) φ val (fun x => lp ⟨n, E, ps, assign, body⟩ l (z x) (pe x) :: post x))
    (k : ∀ b x, φ x → pe x = none → Wx Q n (mark b) .normal E (dfr b :: (post x ++ F)) (W0 := W0))
    (k' : ∀ b x c, φ x → pe x = some c → Wc P W0 Q n (mark b) c E (dfr b :: (post x ++ F))) :
    Wc P W0 Q n [] (.rangeFunc g ps.toArray assign body) E (pre ++ F) := fun a w ha hs => by
  refine (wpIn_wide (n := 0)).1 (wpIn_rangeFunc ?_)
  intro fn hfn
  have h1 := st_new (o := .deferred (some [])) hs
  have h2 := st_new (o := .loop { state := .ready, pending := none, fn, tmps := a.tmps, params := ps.toArray, assign, body, defers := w.heap.size }) h1
  have hlp : st W0 _ (lp ⟨n, E, ps, assign, body⟩ (w.alloc (.deferred (some []))).heap.size .ready none :: own w.heap.size (.deferred (some [])) :: (pre ++ F)) := st_head (fun h ho => ⟨_, ho, rfl, rfl, rfl, rfl, rfl, ⟨ha.size, rfl, ha.val⟩⟩) h2
  rw [World.size_alloc] at hlp
  obtain ⟨W2, hW2⟩ : ∃ W2, (w.alloc (.deferred (some []))).alloc (.loop { state := .ready, pending := none, fn, tmps := a.tmps, params := ps.toArray, assign, body, defers := w.heap.size }) = W2 := ⟨_, rfl⟩
  rw [hW2] at hlp
  have hev : a.eval g = .func (.func gf) #[] lb.toArray := by rw [ha.eval]; exact hg
  refine ⟨w.heap.size + 1, mark w.heap.size, W2, { target := .fn (.func gf) lb.toArray, args := #[.func (.yield (w.heap.size + 1)) #[] #[]] }, W2, gf, (.func (.yield (w.heap.size + 1)) #[] #[] :: lb).toArray, W2,
    (by rw [← hW2]; exact run_enterLoop_outer _ _ _ _ _), ?_, fun _ _ => trivial, ?_, (fun h => by cases h), callsIn_wide.2 ?_⟩
  · simp only [resolve, hev]
    simp [go_sem]
  · simp [invoke, go_sem, eg]
  · have hs3 : st W0 W2 ((lp ⟨n, E, ps, assign, body⟩ (w.heap.size + 1) .ready none :: pre) ++ (own w.heap.size (.deferred (some [])) :: F)) := by
      refine st_perm ?_ hlp
      show List.Perm (_ :: own w.heap.size _ :: (pre ++ F)) (_ :: (pre ++ (own w.heap.size _ :: F)))
      exact List.Perm.cons _ (List.perm_middle.symm)
    refine Calls.mono (hc _ _ _ hs3) fun e w' he => ?_
    cases e with
    | panicked c => exact he.elim
    | outgrown => exact he.elim
    | returned v =>
      obtain ⟨x, hx, _, hs4⟩ := he
      obtain ⟨r, g1, g2, g3, g4⟩ := st_lp_put (z' := .exhausted) (pe' := pe x) hs4
      have hend := run_endLoop (P := P) g1 (by rw [g2]; exact hz x)
      have er : ({ r with state := .exhausted } : Loop) = { r with state := .exhausted, pending := pe x } := by cases r; simp only [Loop.mk.injEq]; exact ⟨trivial, g3, trivial, trivial, trivial, trivial, trivial, trivial⟩
      rw [er] at hend
      have hs5 := st_perm (L' := dfr w.heap.size :: (post x ++ F)) List.perm_middle (st_drop g4)
      have hA : Is n (mark w.heap.size) E { a with defers := mark w.heap.size ++ a.defers } := ⟨ha.size, by show _ ++ a.defers = _; rw [ha.defers, List.append_nil], ha.val⟩
      refine ⟨r.pending, _, hend, ?_⟩
      rw [g3]
      cases hpe : pe x with
      | none => exact k _ x hx hpe _ _ hA (by rw [hpe] at hs5; exact hs5)
      | some c => exact wpIn_wide.2 (k' _ x c hx hpe _ _ hA (by rw [hpe] at hs5; exact hs5))
def bodyM (P : Program) (fn : Func) (R : Ending → World → Prop) : Exit → Act → World → Prop
 | .normal, a, w => LeavesInM Fence.wide 0 P fn a.tmps R a.defers .returning w
 | .ret, a, w => LeavesInM Fence.wide 0 P fn a.tmps R a.defers .returning w
 | _, _, _ => False
theorem bodyM_sub {fn : Func} {R : Ending → World → Prop} (e : Exit) (a : Act) (w : World) (h : bodyM P fn R e a w) : bodyPostM Fence.wide 0 P fn R e a w := by
 cases e <;> first | exact h | exact h.elim
theorem Con.ofM {f : FuncId} {fn : Func} {c : Code} {args : List Value} {pre : List HP} {X : Type} {φ : X → Prop} {val : X → Value} {post : X → List HP} {n : Nat}
    (hf : P.funcs[f]? = some fn) (hb : fn.body = some c) (hn : fn.ntmps = n) (hle : Nat.ble args.length n = true)
    (k : ∀ F, Wc P W0 (bodyM P fn (Ret fun v w' => ∃ x, φ x ∧ v = val x ∧ st W0 w' (post x ++ F))) n [] c (fun t => args.getD t undef) (pre ++ F)) :
    Con P W0 f args.toArray pre φ val post := fun w F hs => by
  have hle' : args.length ≤ n := Nat.le_of_ble_eq_true hle
  refine (callsIn_wide (n := 0)).1 (callsIn_of_wp_marks hf hb trivial (wpIn_mono (wpIn_wide.2 (k F _ w ⟨?_, rfl, fun t => ?_⟩ hs)) bodyM_sub))
  · simp [hn]; omega
  · simp only [Array.getD_eq_getD_getElem?, List.getD_eq_getElem?_getD, Array.getElem?_append, hn]
    by_cases ht : t < args.length
    · rw [if_pos (by simpa using ht)]; simp [ht]
    · rw [if_neg (by simpa using ht)]
      simp [List.getElem?_eq_none (Nat.le_of_not_lt ht), Array.getElem?_replicate]
      split <;> rfl
theorem Wx.finM1 {fn : Func} {b t ty' bb off : Nat} {v : Value} {X : Type} {φ : X → Prop} {val : X → Value} {M : X → List HP} {F : List HP} {e : Exit} (hr : fn.results = #[.cell t ty']) (he : e = .ret ∨ e = .normal) (hsc : scalar P ty' = true)
  (hp : E t = .pointer (some ⟨bb, off, none⟩)) (hc : Has W0 L bb off v) (h : ∀ w, st W0 w L → ∃ x, φ x ∧ v = val x ∧ st W0 w (M x ++ F)) :
  Wx (bodyM P fn (Ret fun v w' => ∃ x, φ x ∧ v = val x ∧ st W0 w' (M x ++ F))) n (mark b) e E (dfr b :: L) (W0 := W0) := fun a w ha hs => by
 have hb := (st_own (i := 0) hs rfl).2
 have hlt : b < w.heap.size := (Array.getElem?_eq_some_iff.1 hb).1
 have hs2 : st W0 (w.putObj b (.deferred none)) (own b (.deferred none) :: L) := st_upd hs rfl rfl rfl (by simp) (World.putObj_heap_same hlt) (fun k hk _ => World.putObj_heap_other hk)
 have hl : LeavesInM Fence.wide 0 P fn a.tmps (Ret fun v w' => ∃ x, φ x ∧ v = val x ∧ st W0 w' (M x ++ F)) a.defers .returning w := by
  rw [ha.defers]
  refine ⟨(fun h => by cases h), .inl ⟨b, _, rfl, run_takeDeferred hb, ?_⟩⟩
  exact ⟨v, results_cell hr hsc (by rw [ha.val]; exact hp) (hc.cell (st_drop hs2)), h _ (st_drop hs2)⟩
 rcases he with rfl | rfl
 all_goals exact hl
end
end Go.SL
