/- A part of the proof. -/
import Derived.Test.YtjnejkdamhefgaaGreatDoorSL
import Derived.Deep.LoopGhost
namespace Go.SL
open Go Go.RowKit
def upd (E : Nat → Value) (d : Nat) (v : Value) : Nat → Value := fun t => bif Nat.beq t d then v else E t
def updO (E : Nat → Value) : Option Nat → Value → Nat → Value
 | some d, v => upd E d v
 | none, _ => E
structure Is (n : Nat) (D : List Deferred) (E : Nat → Value) (a : Act) : Prop where
 size : a.tmps.size = n
 defers : a.defers = D
 val : ∀ t, a.tmps.getD t undef = E t
def evE (E : Nat → Value) : Operand → Value
 | .tmp t => E t
 | .const v => v
 | .global g => .pointer (some ⟨g, 0, none⟩)
 | .func f => .func (.func f) #[] #[]
def dOk (n : Nat) : Option Nat → Bool
 | some d => Nat.blt d n
 | none => true
theorem Is.eval {n : Nat} {D : List Deferred} {E : Nat → Value} {a : Act} (h : Is n D E a) : a.eval = evE E := by
 funext x
 cases x <;> simp only [Act.eval, evE]
 exact h.val _
theorem Is.put {n : Nat} {D : List Deferred} {E : Nat → Value} {a : Act} (h : Is n D E a) {d : Option Nat} (hd : dOk n d = true) (v : Value) : Is n D (updO E d v) (a.put d v) := by
  cases d with
  | none => exact h
  | some d =>
    have hd' : d < n := by simpa [dOk] using hd
    refine ⟨by simp [Act.put, h.size], h.defers, fun t => ?_⟩
    have := h.val t
    simp only [Act.put, updO, upd]
    by_cases ht : t = d
    · subst ht
      simp [h.size, hd']
    · have hb : Nat.beq t d = false := by
        cases h : Nat.beq t d with
        | false => rfl
        | true => exact absurd (Nat.eq_of_beq_eq_true h) ht
      simp only [hb, cond_false]
      rw [← this]
      simp [Array.getD_eq_getD_getElem?, Ne.symm ht]
def yE (ops : Array Oper) (E : Nat → Value) (j : Nat) : Option Bool :=
 match (ops[j]?).bind (·.dst) with
 | some t => match E t with
  | .bool b => some b
  | _ => none
 | none => none
def wantedE (ops : Array Oper) (g : Option (Nat × Bool)) (E : Nat → Value) : Bool :=
 match g with
 | none => true
 | some (j, want) => yE ops E j == some want
theorem Is.yields {n : Nat} {D : List Deferred} {E : Nat → Value} {a : Act} (h : Is n D E a) (ops : Array Oper) (j : Nat) : yielded ops a.tmps j = yE ops E j := by
 unfold yielded yE
 cases (ops[j]?).bind (·.dst) with
 | none => rfl
 | some t =>
  simp only [Option.bind_some]
  have := h.val t
  rw [← this]
  cases ht : a.tmps[t]? with
  | none => simp [ht, undef]
  | some v => simp [ht]; cases v <;> rfl
theorem Is.wanted {n : Nat} {D : List Deferred} {E : Nat → Value} {a : Act} (h : Is n D E a) (ops : Array Oper) (o : Oper) : Region.wanted o (yielded ops a.tmps) = wantedE ops o.guard E := by
 unfold Region.wanted wantedE
 cases o.guard with
 | none => rfl
 | some g => obtain ⟨j, want⟩ := g; simp only [h.yields]
def Ret (R : Value → World → Prop) : Ending → World → Prop
 | .returned v, w => R v w
 | .panicked _, _ => False
 | .outgrown, _ => False
def Con (P : Program) (W0 : World) (f : FuncId) (args : Array Value) (pre : List HP) {X : Type} (φ : X → Prop) (val : X → Value) (post : X → List HP) : Prop :=
 ∀ (w : World) (F : List HP), st W0 w (pre ++ F) → Calls P f args w (Ret fun v w' => ∃ x, φ x ∧ v = val x ∧ st W0 w' (post x ++ F))
def Quiet (P : Program) (W0 : World) (E : Nat → Value) (L : List HP) (op : Op) (ty : TypeId) (v : Value) : Prop :=
 ∀ (w : World) (d : Option Tmp) (pos : String) (aft : Array Edge) (g : Option (Nat × Bool)), st W0 w L →
  (execOp (evE E) { dst := d, op := op, type := ty, pos := pos, after := aft, guard := g }).run P w = .ok (.value v) w
def Upon (P : Program) (R : Value → World → Prop) : Result Next → Prop
 | .ok (.value v) w' => R v w'
 | .ok .skip w' => R undef w'
 | .ok (.enter f args) w' => Calls P f args w' (Ret R)
 | _ => False
def Eff (P : Program) (W0 : World) (E : Nat → Value) (L : List HP) (op : Op) (ty : TypeId) {X : Type} (φ : X → Prop) (v : X → Value) (L' : X → List HP) : Prop :=
 ∀ (w : World) (d : Option Tmp) (pos : String) (aft : Array Edge) (g : Option (Nat × Bool)), st W0 w L →
  Upon P (fun u w' => ∃ x, φ x ∧ u = v x ∧ st W0 w' (L' x)) ((execOp (evE E) { dst := d, op := op, type := ty, pos := pos, after := aft, guard := g }).run P w)
section
variable {P : Program} {W0 : World} {E : Nat → Value} {L : List HP} {op : Op} {ty : TypeId} {Q : Exit → Act → World → Prop}
theorem Upon.wp {o : Oper} {a : Act} {w : World} {next : Act → World → Prop} {R : Value → World → Prop} (h : Upon P R ((execOp a.eval o).run P w))
  (hk : ∀ v w', R v w' → next (a.put o.dst v) w') : o.wp P a w next Q := by
 unfold Oper.wp
 generalize (execOp a.eval o).run P w = r at *
 cases r with
 | ok n w' =>
  cases n <;> simp only [Upon] at h <;> simp only [Oper.upon]
  case value u => exact hk _ _ h
  case skip => exact hk _ _ h
  case enter f args =>
   exact Calls.mono h fun e w'' he => by
    cases e with
    | returned v => exact hk _ _ he
    | panicked c => exact he.elim
    | outgrown => exact he.elim
 | halt x w' => simp only [Upon] at h
end
section
variable (P : Program) (W0 : World) (Q : Exit → Act → World → Prop) (n : Nat) (D : List Deferred) (ops : Array Oper)
def Wl (os : List Oper) (E : Nat → Value) (L : List HP) : Prop := ∀ a w, Is n D E a → st W0 w L → wpList P ops Q os a w
def Wc (c : Code) (E : Nat → Value) (L : List HP) : Prop := ∀ a w, Is n D E a → st W0 w L → c.wp P Q a w
def Wx (e : Exit) (E : Nat → Value) (L : List HP) : Prop := ∀ a w, Is n D E a → st W0 w L → Q e a w
end
section
variable {P : Program} {W0 : World} {Q : Exit → Act → World → Prop} {n : Nat} {D : List Deferred} {ops : Array Oper} {E : Nat → Value} {L : List HP}
 {d : Option Tmp} {op : Op} {ty : TypeId} {pos : String} {aft : Array Edge} {g : Option (Nat × Bool)} {os : List Oper}
theorem Wl.q {v : Value} (hq : Quiet P W0 E L op ty v) (k : Wl P W0 Q n D ops os (updO E d v) L) (hg : wantedE ops g E = true := by rfl) (hd : dOk n d = true := by rfl) :
  Wl P W0 Q n D ops ({ dst := d, op := op, type := ty, pos := pos, after := aft, guard := g } :: os) E L := fun a w ha hs => by
 unfold wpList
 rw [if_pos (by rw [ha.wanted]; exact hg)]
 refine .inl ?_
 unfold Oper.wp
 rw [ha.eval, hq w d pos aft g hs]
 exact k _ _ (ha.put hd v) hs
theorem Wl.no (k : Wl P W0 Q n D ops os (updO E d undef) L) (hg : wantedE ops g E = false := by rfl) (hd : dOk n d = true := by rfl) :
  Wl P W0 Q n D ops ({ dst := d, op := op, type := ty, pos := pos, after := aft, guard := g } :: os) E L := fun a w ha hs => by
 unfold wpList
 rw [if_neg (by rw [ha.wanted]; simp [hg])]
 exact k _ _ (ha.put hd undef) hs
theorem Wl.e {X : Type} {φ : X → Prop} {v : X → Value} {L' : X → List HP} (he : Eff P W0 E L op ty φ v L') (k : ∀ x, φ x → Wl P W0 Q n D ops os (updO E d (v x)) (L' x))
    (hg : wantedE ops g E = true := by rfl) (hd : dOk n d = true := by rfl) :
    Wl P W0 Q n D ops ({ dst := d, op := op, type := ty, pos := pos, after := aft, guard := g } :: os) E L := fun a w ha hs => by
  unfold wpList
  rw [if_pos (by rw [ha.wanted]; exact hg)]
  refine .inl (Upon.wp (R := fun u w' => ∃ x, φ x ∧ u = v x ∧ st W0 w' (L' x)) ?_ ?_)
  · rw [ha.eval]; exact he w d pos aft g hs
  · rintro u w' ⟨x, hx, rfl, hs'⟩
    exact k x hx _ _ (ha.put hd _) hs'
theorem Wl.done (k : Wx Q n D .normal E L (W0 := W0)) : Wl P W0 Q n D ops [] E L := fun a w ha hs => k a w ha hs
theorem Wl.imp {L' : List HP} (hL : ∀ w, st W0 w L → st W0 w L') (k : Wl P W0 Q n D ops os E L') : Wl P W0 Q n D ops os E L := fun a w ha hs => k a w ha (hL w hs)
theorem Wl.pull (is : List Nat) (k : Wl P W0 Q n D ops os E (pull is L)) : Wl P W0 Q n D ops os E L := k.imp fun _ => st_pull is
def pvE (E : Nat → Value) : Op → Option Value
 | .move x => some (evE E x)
 | .assign x => some (evE E x)
 | .pick c a b => match evE E c with
  | .bool true => some (evE E a)
  | .bool false => some (evE E b)
  | _ => none
 | .extract x i => match evE E x with
  | .tuple vs => vs[i]?
  | _ => none
 | .nilCheck x => match evE E x with
  | .pointer (some a) => some (.pointer (some a))
  | _ => none
 | _ => none
theorem pvE_quiet {v : Value} (h : pvE E op = some v) : Quiet P W0 E L op ty v := by
 intro w d pos aft g _
 cases op <;> simp only [pvE, reduceCtorEq] at h
 case move x => cases h; simp [execOp]
 case assign x => cases h; simp [execOp]
 case pick c a b =>
  cases hc : evE E c with
  | bool t =>
   rw [hc] at h
   cases t <;> (simp only [Option.some.injEq] at h; subst h; simp [execOp, hc, asBool])
  | _ => rw [hc] at h; cases h
 case extract x i =>
  cases hc : evE E x with
  | tuple vs => rw [hc] at h; simp only at h; simp [execOp, Instr.extract, hc, h]
  | _ => rw [hc] at h; cases h
 case nilCheck x =>
  cases hc : evE E x with
  | pointer p =>
   cases p with
   | none => rw [hc] at h; cases h
   | some a => rw [hc] at h; simp only [Option.some.injEq] at h; subst h; simp [execOp, hc]
  | _ => rw [hc] at h; cases h
def runE (n : Nat) (ops : Array Oper) : Nat → List Oper → (Nat → Value) → Option (List Oper × (Nat → Value))
 | 0, os, E => some (os, E)
 | _ + 1, [], _ => none
 | k + 1, o :: os, E => match dOk n o.dst with
  | true => match wantedE ops o.guard E with
   | true => match pvE E o.op with
    | some v => runE n ops k os (updO E o.dst v)
    | none => none
   | false => runE n ops k os (updO E o.dst undef)
  | false => none
theorem Wl.run : ∀ (k : Nat) {os os' : List Oper} {E E' : Nat → Value}, runE n ops k os E = some (os', E') → Wl P W0 Q n D ops os' E' L → Wl P W0 Q n D ops os E L
 | 0, os, os', E, E', h, kk => by
  simp only [runE, Option.some.injEq, Prod.mk.injEq] at h
  obtain ⟨rfl, rfl⟩ := h
  exact kk
 | k + 1, [], os', E, E', h, kk => by simp [runE] at h
 | k + 1, o :: os, os', E, E', h, kk => by
  rw [runE] at h
  cases hd : dOk n o.dst with
  | false => rw [hd] at h; cases h
  | true =>
   rw [hd] at h
   cases hw : wantedE ops o.guard E with
   | false => rw [hw] at h; exact Wl.no (Wl.run k h kk) hw hd
   | true =>
    rw [hw] at h
    cases hv : pvE E o.op with
    | none => rw [hv] at h; cases h
    | some v => rw [hv] at h; exact Wl.q (pvE_quiet hv) (Wl.run k h kk) hw hd
theorem Wc.imp {c : Code} {L' : List HP} (hL : ∀ w, st W0 w L → st W0 w L') (k : Wc P W0 Q n D c E L') : Wc P W0 Q n D c E L := fun a w ha hs => k a w ha (hL w hs)
theorem Wc.ex {c : Code} {X : Type} {p : X → HP} (k : ∀ x, Wc P W0 Q n D c E (p x :: L)) : Wc P W0 Q n D c E (ex p :: L) := fun a w ha hs => let ⟨x, hx⟩ := st_ex.1 hs; k x a w ha hx
theorem Wc.pr {c : Code} {φ : Prop} (k : φ → Wc P W0 Q n D c E L) : Wc P W0 Q n D c E (pr φ :: L) := fun a w ha hs => let ⟨h1, h2⟩ := st_pr.1 hs; k h1 a w ha h2
theorem Wc.grp {c : Code} {M : List HP} (k : Wc P W0 Q n D c E (M ++ L)) : Wc P W0 Q n D c E (grp M :: L) := k.imp fun _ => st_grp.1
theorem Wc.seq {x y : Code} (k : Wc P W0 (Exit.then (fun a w => y.wp P Q a w) Q) n D x E L) : Wc P W0 Q n D (.seq x y) E L := fun a w ha hs => wp_seq (k a w ha hs)
theorem Wc.cut {x y : Code} (J : Act → World → Prop) (k : Wc P W0 (Exit.then J Q) n D x E L) (k' : ∀ a w, J a w → y.wp P Q a w) : Wc P W0 Q n D (.seq x y) E L :=
 fun a w ha hs => wp_seq (Code.wp_mono (fun e a w h => by cases e <;> first | exact k' _ _ h | exact h) (k a w ha hs))
theorem Wc.region {id : Nat} {l : List Oper} (k : Wl P W0 Q n D l.toArray l E L) : Wc P W0 Q n D (.region id l.toArray false) E L := fun a w ha hs => wp_region_lit (k a w ha hs)
theorem Wc.yes {c : Operand} {x y : Code} (hc : evE E c = .bool true) (k : Wc P W0 Q n D x E L) : Wc P W0 Q n D (.cond c x y) E L := fun a w ha hs => wp_cond_true (by rw [ha.eval]; exact hc) (k a w ha hs)
theorem Wc.no {c : Operand} {x y : Code} (hc : evE E c = .bool false) (k : Wc P W0 Q n D y E L) : Wc P W0 Q n D (.cond c x y) E L := fun a w ha hs => wp_cond_false (by rw [ha.eval]; exact hc) (k a w ha hs)
theorem Wc.skip (k : Wx Q n D .normal E L (W0 := W0)) : Wc P W0 Q n D .skip E L := fun a w ha hs => wp_skip (k a w ha hs)
theorem Wc.exit {id : Nat} (k : Wx Q n D (.exit id) E L (W0 := W0)) : Wc P W0 Q n D (.exit id) E L := fun a w ha hs => wp_exit (k a w ha hs)
theorem Wc.ret (k : Wx Q n D .ret E L (W0 := W0)) : Wc P W0 Q n D .ret E L := fun a w ha hs => wp_ret (k a w ha hs)
theorem Wc.block {id : Nat} {c : Code} (k : Wc P W0 (Exit.inBlock id Q) n D c E L) : Wc P W0 Q n D (.block id c) E L := fun a w ha hs => wp_block (k a w ha hs)
theorem Wx.go {y : Code} (k : Wc P W0 Q n D y E L) : Wx (Exit.then (fun a w => y.wp P Q a w) Q) n D .normal E L (W0 := W0) := k
theorem Wx.thenExit {J : Act → World → Prop} {id : Nat} (k : Wx Q n D (.exit id) E L (W0 := W0)) : Wx (Exit.then J Q) n D (.exit id) E L (W0 := W0) := k
theorem Wx.thenRet {J : Act → World → Prop} (k : Wx Q n D .ret E L (W0 := W0)) : Wx (Exit.then J Q) n D .ret E L (W0 := W0) := k
theorem Wx.out {id : Nat} (k : Wx Q n D .normal E L (W0 := W0)) : Wx (Exit.inBlock id Q) n D (.exit id) E L (W0 := W0) := fun a w ha hs => by
 show (if id = id then Q .normal a w else Q (.exit id) a w); rw [if_pos rfl]; exact k a w ha hs
theorem Wx.blockEnd {id : Nat} (k : Wx Q n D .normal E L (W0 := W0)) : Wx (Exit.inBlock id Q) n D .normal E L (W0 := W0) := k
theorem Wx.blockRet {id : Nat} (k : Wx Q n D .ret E L (W0 := W0)) : Wx (Exit.inBlock id Q) n D .ret E L (W0 := W0) := k
def At (W0 : World) (n : Nat) (D : List Deferred) {X : Type} (I : X → (Nat → Value) → Prop) (M : X → List HP) (a : Act) (w : World) : Prop := ∃ x E, I x E ∧ Is n D E a ∧ st W0 w (M x)
theorem Wc.loop {X : Type} {c : Code} (I : X → (Nat → Value) → Prop) (M : X → List HP) (μ : X → Nat) (x0 : X) (h0 : I x0 E) (hL : ∀ w, st W0 w L → st W0 w (M x0))
  (round : ∀ x E, I x E → Wc P W0 (Exit.then (At W0 n D (fun x' E' => μ x' < μ x ∧ I x' E') M) Q) n D c E (M x)) : Wc P W0 Q n D (.loop c) E L := by
 intro _ w ha hs
 refine wp_loop_ghost (fun m a w => ∃ x E, μ x = m ∧ I x E ∧ Is n D E a ∧ st W0 w (M x)) (μ x0) ⟨x0, E, rfl, h0, ha, hL w hs⟩ ?_
 rintro m a w ⟨x, E, rfl, hI, ha, hs⟩
 refine Code.wp_mono (fun e a w h => ?_) (round x E hI a w ha hs)
 cases e <;> first | exact h | skip
 obtain ⟨x', E', ⟨hlt, hI'⟩, ha', hs'⟩ := h
 exact ⟨μ x', hlt, x', E', rfl, hI', ha', hs'⟩
theorem Wx.at {X : Type} {I : X → (Nat → Value) → Prop} {M : X → List HP} (x : X) (hI : I x E) (hL : ∀ w, st W0 w L → st W0 w (M x)) : Wx (Exit.then (At W0 n D I M) Q) n D .normal E L (W0 := W0) :=
 fun _ _ ha hs => ⟨x, E, hI, ha, hL _ hs⟩
theorem Wc.meet {x y : Code} {X : Type} (I : X → (Nat → Value) → Prop) (M : X → List HP) (k : Wc P W0 (Exit.then (At W0 n D I M) Q) n D x E L) (k' : ∀ z E, I z E → Wc P W0 Q n D y E (M z)) : Wc P W0 Q n D (.seq x y) E L :=
 Wc.cut _ k fun a w ⟨z, E, hI, ha, hs⟩ => k' z E hI a w ha hs
theorem Wx.fin1 {fn : Func} {t : Nat} {X : Type} {φ : X → Prop} {val : X → Value} {M : X → List HP} {F : List HP} {e : Exit} (hr : fn.results = #[.tmp t]) (he : e = .ret ∨ e = .normal)
  (h : ∀ w, st W0 w L → ∃ x, φ x ∧ E t = val x ∧ st W0 w (M x ++ F)) :
  Wx (bodyPost P fn (Ret fun v w' => ∃ x, φ x ∧ v = val x ∧ st W0 w' (M x ++ F))) n [] e E L (W0 := W0) := fun a w ha hs => by
 rcases he with rfl | rfl
 all_goals exact ⟨ha.defers, _, results_tmp hr _ _ _, by rw [ha.val]; exact h w hs⟩
theorem Wx.fin2 {fn : Func} {t u : Nat} {X : Type} {φ : X → Prop} {val : X → Value} {M : X → List HP} {F : List HP} {e : Exit} (hr : fn.results = #[.tmp t, .tmp u]) (he : e = .ret ∨ e = .normal)
  (h : ∀ w, st W0 w L → ∃ x, φ x ∧ Value.tuple #[E t, E u] = val x ∧ st W0 w (M x ++ F)) :
  Wx (bodyPost P fn (Ret fun v w' => ∃ x, φ x ∧ v = val x ∧ st W0 w' (M x ++ F))) n [] e E L (W0 := W0) := fun a w ha hs => by
 rcases he with rfl | rfl
 all_goals exact ⟨ha.defers, _, results_tmp2 hr _ _ _, by rw [ha.val, ha.val]; exact h w hs⟩
theorem Wx.fin3 {fn : Func} {t u x3 : Nat} {X : Type} {φ : X → Prop} {val : X → Value} {M : X → List HP} {F : List HP} {e : Exit} (hr : fn.results = #[.tmp t, .tmp u, .tmp x3]) (he : e = .ret ∨ e = .normal)
  (h : ∀ w, st W0 w L → ∃ x, φ x ∧ Value.tuple #[E t, E u, E x3] = val x ∧ st W0 w (M x ++ F)) :
  Wx (bodyPost P fn (Ret fun v w' => ∃ x, φ x ∧ v = val x ∧ st W0 w' (M x ++ F))) n [] e E L (W0 := W0) := fun a w ha hs => by
 rcases he with rfl | rfl
 all_goals exact ⟨ha.defers, .tuple #[E t, E u, E x3], by simp [results, hr, ← ha.val], h w hs⟩
theorem Wx.fin0 {fn : Func} {X : Type} {φ : X → Prop} {val : X → Value} {M : X → List HP} {F : List HP} {e : Exit} (hr : fn.results = #[]) (he : e = .ret ∨ e = .normal)
  (h : ∀ w, st W0 w L → ∃ x, φ x ∧ Value.tuple #[] = val x ∧ st W0 w (M x ++ F)) :
  Wx (bodyPost P fn (Ret fun v w' => ∃ x, φ x ∧ v = val x ∧ st W0 w' (M x ++ F))) n [] e E L (W0 := W0) := fun a w ha hs => by
 rcases he with rfl | rfl
 all_goals exact ⟨ha.defers, _, results_none hr _ _ _, h w hs⟩
theorem Con.of {f : FuncId} {fn : Func} {c : Code} {args : List Value} {pre : List HP} {X : Type} {φ : X → Prop} {val : X → Value} {post : X → List HP} {n : Nat}
    (hf : P.funcs[f]? = some fn) (hb : fn.body = some c) (hn : fn.ntmps = n) (hle : Nat.ble args.length n = true)
    (k : ∀ F, Wc P W0 (bodyPost P fn (Ret fun v w' => ∃ x, φ x ∧ v = val x ∧ st W0 w' (post x ++ F))) n [] c (fun t => args.getD t undef) (pre ++ F)) :
    Con P W0 f args.toArray pre φ val post := fun w F hs => by
  have hle' : args.length ≤ n := Nat.le_of_ble_eq_true hle
  refine calls_of_wp hf hb (k F _ w ⟨?_, rfl, fun t => ?_⟩ hs)
  · simp [hn]; omega
  · simp only [Array.getD_eq_getD_getElem?, List.getD_eq_getElem?_getD, Array.getElem?_append, hn]
    by_cases ht : t < args.length
    · simp [ht]
    · simp [ht, Array.getElem?_replicate]
      split <;> rfl
theorem Con.mono {f : FuncId} {args : Array Value} {pre : List HP} {X Y : Type} {φ : X → Prop} {val : X → Value} {post : X → List HP} {ψ : Y → Prop} {val' : Y → Value} {post' : Y → List HP}
  (h : Con P W0 f args pre φ val post) (hk : ∀ x, φ x → ∃ y, ψ y ∧ val x = val' y ∧ ∀ w F, st W0 w (post x ++ F) → st W0 w (post' y ++ F)) : Con P W0 f args pre ψ val' post' := fun w F hs =>
 (h w F hs).mono fun e w' he => by
  cases e with
  | returned v => obtain ⟨x, hx, rfl, hs'⟩ := he; obtain ⟨y, hy, hv, hp⟩ := hk x hx; exact ⟨y, hy, hv, hp _ _ hs'⟩
  | panicked c => exact he
  | outgrown => exact he
theorem Con.pre {f : FuncId} {args : Array Value} {pre pre' : List HP} {X : Type} {φ : X → Prop} {val : X → Value} {post : X → List HP}
  (h : Con P W0 f args pre φ val post) (hk : ∀ w F, st W0 w (pre' ++ F) → st W0 w (pre ++ F)) : Con P W0 f args pre' φ val post := fun w F hs => h w F (hk w F hs)
end
section
variable {P : Program} {ops : Array Oper} {Q : Exit → Act → World → Prop}
def early (Ks : List Nat) (l : Array Bool) : Bool := Ks.all fun k => !l.getD k false
def wpS (P : Program) (ops : Array Oper) (Q : Exit → Act → World → Prop) (Ks : List Nat) (S : World → Prop) : Nat → Array Bool → Act → World → Prop
 | 0, l, a, w => Region.ready .any ops l = [] ∧ Q .normal a w
 | f + 1, l, a, w => (Region.ready .any ops l = [] → Q .normal a w) ∧
   ∀ i ∈ Region.ready .any ops l, wpOp P ops Q i (fun a' w' => (early Ks (l.setIfInBounds i true) = true → S w') ∧ wpS P ops Q Ks S f (l.setIfInBounds i true) a' w') a w
theorem wpAny_of_wpS {Ks : List Nat} {S : World → Prop} : ∀ (f : Nat) (l : Array Bool) (a : Act) (w : World), wpS P ops Q Ks S f l a w → wpAny P .any ops Q f l a w
 | 0, _, _, _, h => h
 | f + 1, _, _, _, h => ⟨h.1, fun i hi => wpOp_mono (fun a' w' h' => wpAny_of_wpS f _ a' w' h'.2) (h.2 i hi)⟩
def lateFor (ops : Array Oper) (Ks : List Nat) (i : Nat) : Bool :=
 Ks.all fun k => Nat.beq k i == false && (match ops[k]? with | some o => o.after.any fun e => Region.binds .any e && (e.on == i || Ks.contains e.on) | none => false)
def waits (ops : Array Oper) (i : Nat) : List Nat :=
 (ops.toList.foldl (fun (acc : Nat × List Nat) o => (acc.1 + 1, if o.after.any (fun e => Region.binds .any e && (e.on == i || acc.2.contains e.on)) then acc.1 :: acc.2 else acc.2)) (0, [])).2
theorem early_set {Ks : List Nat} {l : Array Bool} {i : Nat} (hi : lateFor ops Ks i = true) : early Ks (l.setIfInBounds i true) = early Ks l := by
  unfold early
  rw [Bool.eq_iff_iff, List.all_eq_true, List.all_eq_true]
  have h := List.all_eq_true.1 hi
  constructor
  · intro h' k hk
    have := h' k hk
    have hk2 := h k hk
    simp only [Bool.and_eq_true, beq_iff_eq] at hk2
    have hne : i ≠ k := fun e => by subst e; simp at hk2
    rwa [getD_set_ne false hne] at this
  · intro h' k hk
    have := h' k hk
    have hk2 := h k hk
    simp only [Bool.and_eq_true, beq_iff_eq] at hk2
    have hne : i ≠ k := fun e => by subst e; simp at hk2
    rwa [getD_set_ne false hne]
theorem wpS_first {Ks C : List Nat} {S : World → Prop} {i : Nat} {oi : Oper} {v : Value} (hi : ops[i]? = some oi) (hsel : ∀ (j : Nat) (o : Oper) cs b, ops[j]? = some o → o.op ≠ .select cs b)
    (hQ : ∀ c a w, Q (.panic c) (a.put oi.dst v) w → Q (.panic c) a w) (hlate : lateFor ops C i = true) (hKC : ∀ k ∈ Ks, k ∈ C) :
    ∀ (f : Nat) (l : Array Bool) (a : Act) (w : World),
      (∀ j oj, ops[j]? = some oj → j ≠ i → l.getD j true = false → (∀ e ∈ oj.after, Region.binds .any e = true → e.on ≠ i) → oi.apart ops oj = true) →
      i ∈ Region.ready .any ops l → early C l = true → YieldsIf P ops S oi v a → S w →
      wpS P ops Q Ks S f (l.setIfInBounds i true) (a.put oi.dst v) w → wpS P ops Q Ks S (f + 1) l a w := by
  intro f
  induction f with
  | zero =>
    intro l a w _ hr hear hy hS H
    refine ⟨fun h => (by rw [h] at hr; cases hr), fun j hj => ?_⟩
    by_cases hji : j = i
    · subst hji; exact hy.wpOp hi hS ⟨fun _ => hS, H⟩
    · have := ready_mono hj hji
      rw [H.1] at this
      cases this
  | succ f ih =>
    intro l a w hfree hr hear hy hS H
    refine ⟨fun h => (by rw [h] at hr; cases hr), fun j hj => ?_⟩
    by_cases hji : j = i
    · subst hji; exact hy.wpOp hi hS ⟨fun _ => hS, H⟩
    · have h1 := H.2 j (ready_mono hj hji)
      obtain ⟨hjun, oj, hoj, hall⟩ := mem_ready.1 hj
      have hiun := (mem_ready.1 hr).1
      have hifalse : l.getD i false = false := by
        rcases Nat.lt_or_ge i l.size with h' | h'
        · simp [h'] at hiun ⊢; exact hiun
        · simp [Array.getElem?_eq_none h']
      have hnot : ∀ e ∈ oj.after, Region.binds .any e = true → e.on ≠ i := fun e he hb heq => by
        have h1 := hall e he hb
        rw [heq, hifalse] at h1
        cases h1
      have h2 := wpOp_putIf hoj (hfree j oj hoj hji hjun hnot) (fun cs b => hsel i oi cs b hi) (fun cs b => hsel j oj cs b hoj) hQ hy h1
      have hfree' : ∀ k ok, ops[k]? = some ok → k ≠ i → (l.setIfInBounds j true).getD k true = false →
          (∀ e ∈ ok.after, Region.binds .any e = true → e.on ≠ i) → oi.apart ops ok = true := fun k ok hk hki hun hno => by
        refine hfree k ok hk hki ?_ hno
        by_cases hjk : j = k
        · subst hjk; exact hjun
        · rw [getD_set_ne true hjk] at hun; exact hun
      have hjK : j ∉ C := fun hjK => by
        have := List.all_eq_true.1 hlate j hjK
        simp only [hoj, Bool.and_eq_true, Array.any_eq_true', beq_iff_eq, Bool.or_eq_true] at this
        obtain ⟨_, e, he, hb, hon⟩ := this
        rcases hon with hon | hon
        · exact hnot e he hb hon
        · have h1 := hall e he hb
          have h2 := List.all_eq_true.1 hear e.on (by simpa using hon)
          rw [h1] at h2; cases h2
      have hearj : early C (l.setIfInBounds j true) = true := by
        unfold early at hear ⊢
        rw [List.all_eq_true] at hear ⊢
        intro k hk
        rw [getD_set_ne false (fun e => hjK (by rw [e]; exact hk))]
        exact hear k hk
      refine wpOp_mono (fun a' w' h3 => ?_) h2
      have hS' : S w' := h3.2.1 (by
        have h5 : early C ((l.setIfInBounds j true).setIfInBounds i true) = true := (early_set hlate).trans hearj
        rw [Array.setIfInBounds_comm _ _ (Ne.symm hji)]
        exact List.all_eq_true.2 fun k hk => List.all_eq_true.1 h5 k (hKC k hk))
      refine ⟨fun _ => hS', ih (l.setIfInBounds j true) a' w' hfree' (ready_mono hr (Ne.symm hji)) hearj h3.1 hS' ?_⟩
      rw [Array.setIfInBounds_comm _ _ hji]
      exact h3.2.2
end
section
variable {P : Program} {ops : Array Oper} {Q : Exit → Act → World → Prop}
theorem wpS_first_pure {Ks : List Nat} {S : World → Prop} {i : Nat} {oi : Oper} {v : Value} (hi : ops[i]? = some oi) (hsel : ∀ (j : Nat) (o : Oper) cs b, ops[j]? = some o → o.op ≠ .select cs b)
    (hQ : ∀ c a w, Q (.panic c) (a.put oi.dst v) w → Q (.panic c) a w) (hiK : i ∉ Ks) :
    ∀ (f : Nat) (l : Array Bool) (a : Act) (w : World),
      (∀ j oj, ops[j]? = some oj → j ≠ i → l.getD j true = false → (∀ e ∈ oj.after, Region.binds .any e = true → e.on ≠ i) → oi.apart ops oj = true) →
      i ∈ Region.ready .any ops l → YieldsIf P ops (fun _ => True) oi v a → (early Ks l = true → S w) →
      wpS P ops Q Ks S f (l.setIfInBounds i true) (a.put oi.dst v) w → wpS P ops Q Ks S (f + 1) l a w := by
  have hset : ∀ l : Array Bool, early Ks (l.setIfInBounds i true) = early Ks l := fun l => by
    unfold early
    rw [Bool.eq_iff_iff, List.all_eq_true, List.all_eq_true]
    constructor
    · intro h' k hk
      have := h' k hk
      rwa [getD_set_ne false (fun e => hiK (by rw [e]; exact hk))] at this
    · intro h' k hk
      have := h' k hk
      rwa [getD_set_ne false (fun e => hiK (by rw [e]; exact hk))]
  intro f
  induction f with
  | zero =>
    intro l a w _ hr hy hS H
    refine ⟨fun h => (by rw [h] at hr; cases hr), fun j hj => ?_⟩
    by_cases hji : j = i
    · subst hji; exact hy.wpOp hi trivial ⟨fun h => hS (by rw [← hset]; exact h), H⟩
    · have := ready_mono hj hji
      rw [H.1] at this
      cases this
  | succ f ih =>
    intro l a w hfree hr hy hS H
    refine ⟨fun h => (by rw [h] at hr; cases hr), fun j hj => ?_⟩
    by_cases hji : j = i
    · subst hji; exact hy.wpOp hi trivial ⟨fun h => hS (by rw [← hset]; exact h), H⟩
    · have h1 := H.2 j (ready_mono hj hji)
      obtain ⟨hjun, oj, hoj, hall⟩ := mem_ready.1 hj
      have hiun := (mem_ready.1 hr).1
      have hifalse : l.getD i false = false := by
        rcases Nat.lt_or_ge i l.size with h' | h'
        · simp [h'] at hiun ⊢; exact hiun
        · simp [Array.getElem?_eq_none h']
      have hnot : ∀ e ∈ oj.after, Region.binds .any e = true → e.on ≠ i := fun e he hb heq => by
        have h1 := hall e he hb
        rw [heq, hifalse] at h1
        cases h1
      have h2 := wpOp_putIf hoj (hfree j oj hoj hji hjun hnot) (fun cs b => hsel i oi cs b hi) (fun cs b => hsel j oj cs b hoj) hQ hy h1
      have hfree' : ∀ k ok, ops[k]? = some ok → k ≠ i → (l.setIfInBounds j true).getD k true = false →
          (∀ e ∈ ok.after, Region.binds .any e = true → e.on ≠ i) → oi.apart ops ok = true := fun k ok hk hki hun hno => by
        refine hfree k ok hk hki ?_ hno
        by_cases hjk : j = k
        · subst hjk; exact hjun
        · rw [getD_set_ne true hjk] at hun; exact hun
      refine wpOp_mono (fun a' w' h3 => ?_) h2
      have hS' : early Ks (l.setIfInBounds j true) = true → S w' := fun h => h3.2.1 (by rw [Array.setIfInBounds_comm _ _ (Ne.symm hji), hset]; exact h)
      refine ⟨hS', ih (l.setIfInBounds j true) a' w' hfree' (ready_mono hr (Ne.symm hji)) h3.1 hS' ?_⟩
      rw [Array.setIfInBounds_comm _ _ hji]
      exact h3.2.2
theorem wpS_rebase {Ks Ks' : List Nat} {S S' : World → Prop} : ∀ (f : Nat) (l : Array Bool) (a : Act) (w : World), early Ks l = false → wpS P ops Q Ks' S' f l a w → wpS P ops Q Ks S f l a w
  | 0, _, _, _, _, h => h
  | f + 1, l, a, w, he, h => ⟨h.1, fun i hi => wpOp_mono (fun a' w' h' => by
      have he' : early Ks (l.setIfInBounds i true) = false := by
        unfold early at he ⊢
        rw [List.all_eq_false] at he ⊢
        obtain ⟨k, hk, hk2⟩ := he
        refine ⟨k, hk, ?_⟩
        by_cases hik : i = k
        · subst hik
          have hlt : i < l.size := by
            rcases Nat.lt_or_ge i l.size with h' | h'
            · exact h'
            · simp [Array.getElem?_eq_none h'] at hk2
          simp [hlt]
        · rw [getD_set_ne false hik]; exact hk2
      exact ⟨fun h => (by rw [he'] at h; cases h), wpS_rebase f _ a' w' he' h'.2⟩) (h.2 i hi)⟩
end
section
variable (P : Program) (W0 : World) (Q : Exit → Act → World → Prop) (n : Nat) (D : List Deferred) (ops : Array Oper)
def Wr (Ks : List Nat) (S : List HP) (f : Nat) (l : Array Bool) (E : Nat → Value) (L : List HP) : Prop :=
 ∀ a w, Is n D E a → st W0 w L → wpS P ops Q Ks (fun w => st W0 w S) f l a w
end
section
variable {P : Program} {W0 : World} {Q : Exit → Act → World → Prop} {n : Nat} {D : List Deferred} {ops : Array Oper} {E : Nat → Value} {L S : List HP}
 {Ks : List Nat} {f : Nat} {l : Array Bool}
theorem Wc.draws {id : Nat} (Ks : List Nat) (hm : P.follows .mixedOrders = true) (k : Wr P W0 Q n D ops Ks L ops.size (Array.replicate ops.size false) E L) : Wc P W0 Q n D (.region id ops true) E L :=
 fun a w ha hs => wp_region_any hm (wpAny_of_wpS _ _ _ _ (k a w.drew ha (st_drew hs)))
theorem Wc.drawsS {id : Nat} (Ks : List Nat) (S : List HP) (hm : P.follows .mixedOrders = true) (k : Wr P W0 Q n D ops Ks S ops.size (Array.replicate ops.size false) E L) : Wc P W0 Q n D (.region id ops true) E L :=
 fun a w ha hs => wp_region_any hm (wpAny_of_wpS _ _ _ _ (k a w.drew ha (st_drew hs)))
def takeB (ops : Array Oper) (Ks : List Nat) (l : Array Bool) (i : Nat) : Bool :=
 Region.noSelect ops && (Region.ready .any ops l).contains i && Region.free .any ops l i && ((early Ks l && lateFor ops Ks i) || (Ks.all (waits ops i).contains && early (waits ops i) l && lateFor ops (waits ops i) i))
theorem Wr.take {d : Option Tmp} {op : Op} {ty : TypeId} {pos : String} {aft : Array Edge} {g : Option (Nat × Bool)} {v : Value} (i : Nat)
    (hi : ops[i]? = some { dst := d, op := op, type := ty, pos := pos, after := aft, guard := g }) (hb : takeB ops Ks l i = true)
    (hL : ∀ w, st W0 w L → st W0 w S) (hq : (wantedE ops g E = true ∧ Quiet P W0 E S op ty v) ∨ (wantedE ops g E = false ∧ v = undef))
    (k : Wr P W0 Q n D ops Ks S f (l.setIfInBounds i true) (updO E d v) L) (hd : dOk n d = true := by rfl)
    (hQ : ∀ c a w, Q (.panic c) (a.put d v) w → Q (.panic c) a w := by exact fun _ _ _ h => h) :
    Wr P W0 Q n D ops Ks S (f + 1) l E L := fun a w ha hs => by
  simp only [takeB, Bool.and_eq_true] at hb
  obtain ⟨⟨⟨h1, h2⟩, h3⟩, h45⟩ := hb
  obtain ⟨C, h4, h5, h6⟩ : ∃ C, early C l = true ∧ lateFor ops C i = true ∧ ∀ k ∈ Ks, k ∈ C := by
    rcases Bool.or_eq_true_iff.1 h45 with h | h
    · exact ⟨Ks, (Bool.and_eq_true_iff.1 h).1, (Bool.and_eq_true_iff.1 h).2, fun _ h => h⟩
    · obtain ⟨h, h'⟩ := Bool.and_eq_true_iff.1 h
      obtain ⟨h, h''⟩ := Bool.and_eq_true_iff.1 h
      exact ⟨_, h'', h', fun k hk => by simpa using List.all_eq_true.1 h k hk⟩
  refine wpS_first hi (Region.noSelect_spec h1) hQ h5 h6 f l a w (Region.free_spec hi h3) (by simpa using h2) h4 ?_ (hL w hs) (k _ w (ha.put hd v) hs)
  rcases hq with ⟨hw, hq⟩ | ⟨hw, hv⟩
  · exact .inl ⟨by rw [ha.wanted]; exact hw, fun w hw => by rw [ha.eval]; exact hq w _ _ _ _ hw⟩
  · exact .inr ⟨by rw [ha.wanted]; exact hw, hv⟩
theorem Wr.rebaseS (Ks' : List Nat) (S' : List HP) (he : early Ks l = false) (k : Wr P W0 Q n D ops Ks' S' f l E L) : Wr P W0 Q n D ops Ks S f l E L := fun a w ha hs => wpS_rebase _ _ _ _ he (k a w ha hs)
def pureB (ops : Array Oper) (Ks : List Nat) (l : Array Bool) (i : Nat) : Bool :=
 Region.noSelect ops && (Region.ready .any ops l).contains i && Region.free .any ops l i && !Ks.contains i
theorem Wr.pure {d : Option Tmp} {op : Op} {ty : TypeId} {pos : String} {aft : Array Edge} {g : Option (Nat × Bool)} {v : Value} (i : Nat)
    (hi : ops[i]? = some { dst := d, op := op, type := ty, pos := pos, after := aft, guard := g }) (hb : pureB ops Ks l i = true)
    (hL : early Ks l = false ∨ ∀ w, st W0 w L → st W0 w S) (hq : (wantedE ops g E = true ∧ ∀ W, Quiet P W E [] op ty v) ∨ (wantedE ops g E = false ∧ v = undef))
    (k : Wr P W0 Q n D ops Ks S f (l.setIfInBounds i true) (updO E d v) L) (hd : dOk n d = true := by rfl)
    (hQ : ∀ c a w, Q (.panic c) (a.put d v) w → Q (.panic c) a w := by exact fun _ _ _ h => h) :
    Wr P W0 Q n D ops Ks S (f + 1) l E L := fun a w ha hs => by
  simp only [pureB, Bool.and_eq_true] at hb
  obtain ⟨⟨⟨h1, h2⟩, h3⟩, h4⟩ := hb
  refine wpS_first_pure hi (Region.noSelect_spec h1) hQ (by simpa using h4) f l a w (Region.free_spec hi h3) (by simpa using h2) ?_ (fun h => ?_) (k _ w (ha.put hd v) hs)
  · rcases hq with ⟨hw, hq⟩ | ⟨hw, hv⟩
    · exact .inl ⟨by rw [ha.wanted]; exact hw, fun w _ => by rw [ha.eval]; exact hq w w _ _ _ _ (st_refl w)⟩
    · exact .inr ⟨by rw [ha.wanted]; exact hw, hv⟩
  · rcases hL with hL | hL
    · rw [hL] at h; cases h
    · exact hL w hs
theorem Wr.e {d : Option Tmp} {op : Op} {ty : TypeId} {pos : String} {aft : Array Edge} {g : Option (Nat × Bool)} {X : Type} {φ : X → Prop} {v : X → Value} {L' : X → List HP} (i : Nat)
    (hr : Region.ready .any ops l = [i]) (hi : ops[i]? = some { dst := d, op := op, type := ty, pos := pos, after := aft, guard := g })
    (he : Eff P W0 E L op ty φ v L') (hS : early Ks (l.setIfInBounds i true) = false ∨ ∀ x w, φ x → st W0 w (L' x) → st W0 w S)
    (k : ∀ x, φ x → Wr P W0 Q n D ops Ks S f (l.setIfInBounds i true) (updO E d (v x)) (L' x))
    (hg : wantedE ops g E = true := by rfl) (hd : dOk n d = true := by rfl) :
    Wr P W0 Q n D ops Ks S (f + 1) l E L := fun a w ha hs => by
  refine ⟨fun h => (by rw [hr] at h; cases h), fun j hj => ?_⟩
  rw [hr] at hj
  obtain rfl : j = i := by simpa using hj
  unfold wpOp
  simp only [hi]
  rw [if_pos (by rw [ha.wanted]; exact hg)]
  refine .inl (Upon.wp (R := fun u w' => ∃ x, φ x ∧ u = v x ∧ st W0 w' (L' x)) ?_ ?_)
  · rw [ha.eval]; exact he w d pos aft g hs
  · rintro u w' ⟨x, hx, rfl, hs'⟩
    refine ⟨fun hh => ?_, k x hx _ _ (ha.put hd _) hs'⟩
    rcases hS with hS | hS
    · rw [hS] at hh; cases hh
    · exact hS x w' hx hs'
def Wo (P : Program) (W0 : World) (Q : Exit → Act → World → Prop) (n : Nat) (D : List Deferred) (ops : Array Oper) (Ks : List Nat) (S : List HP) (f : Nat) (l : Array Bool) (E : Nat → Value) (L : List HP) (i : Nat) : Prop :=
 ∀ a w, Is n D E a → st W0 w L → wpOp P ops Q i (fun a' w' => (early Ks (l.setIfInBounds i true) = true → st W0 w' S) ∧ wpS P ops Q Ks (fun w => st W0 w S) f (l.setIfInBounds i true) a' w') a w
theorem Wo.e {d : Option Tmp} {op : Op} {ty : TypeId} {pos : String} {aft : Array Edge} {g : Option (Nat × Bool)} {X : Type} {φ : X → Prop} {v : X → Value} {L' : X → List HP} (i : Nat)
    (hi : ops[i]? = some { dst := d, op := op, type := ty, pos := pos, after := aft, guard := g })
    (he : Eff P W0 E L op ty φ v L') (hS : early Ks (l.setIfInBounds i true) = false ∨ ∀ x w, φ x → st W0 w (L' x) → st W0 w S)
    (k : ∀ x, φ x → Wr P W0 Q n D ops Ks S f (l.setIfInBounds i true) (updO E d (v x)) (L' x))
    (hg : wantedE ops g E = true := by rfl) (hd : dOk n d = true := by rfl) :
    Wo P W0 Q n D ops Ks S f l E L i := fun a w ha hs => by
  unfold wpOp
  simp only [hi]
  rw [if_pos (by rw [ha.wanted]; exact hg)]
  refine .inl (Upon.wp (R := fun u w' => ∃ x, φ x ∧ u = v x ∧ st W0 w' (L' x)) ?_ ?_)
  · rw [ha.eval]; exact he w d pos aft g hs
  · rintro u w' ⟨x, hx, rfl, hs'⟩
    refine ⟨fun hh => ?_, k x hx _ _ (ha.put hd _) hs'⟩
    rcases hS with hS | hS
    · rw [hS] at hh; cases hh
    · exact hS x w' hx hs'
theorem Wr.some (rs : List Nat) (hr : Region.ready .any ops l = rs) (hne : rs ≠ []) (k : ∀ i ∈ rs, Wo P W0 Q n D ops Ks S f l E L i) : Wr P W0 Q n D ops Ks S (f + 1) l E L := fun a w ha hs =>
 ⟨fun h => absurd (hr.symm.trans h) hne, fun i hi => k i (hr ▸ hi) a w ha hs⟩
theorem Wo.imp {L' : List HP} {i : Nat} (hL : ∀ w, st W0 w L → st W0 w L') (k : Wo P W0 Q n D ops Ks S f l E L' i) : Wo P W0 Q n D ops Ks S f l E L i := fun a w ha hs => k a w ha (hL w hs)
theorem Wr.all (rs : List Nat) (hr : Region.ready .any ops l = rs) (hne : rs ≠ []) (k : ∀ i ∈ rs, ∀ a w, Is n D E a → st W0 w L → wpOp P ops Q i (fun a' w' => (early Ks (l.setIfInBounds i true) = true → st W0 w' S) ∧ wpS P ops Q Ks (fun w => st W0 w S) f (l.setIfInBounds i true) a' w') a w) :
  Wr P W0 Q n D ops Ks S (f + 1) l E L := fun a w ha hs => ⟨fun h => absurd (hr.symm.trans h) hne, fun i hi => k i (hr ▸ hi) a w ha hs⟩
theorem Wr.done (hr : Region.ready .any ops l = []) (k : Wx Q n D .normal E L (W0 := W0)) : Wr P W0 Q n D ops Ks S f l E L := fun a w ha hs => by
 cases f with
 | zero => exact ⟨hr, k a w ha hs⟩
 | succ f => exact ⟨fun _ => k a w ha hs, fun i hi => by rw [hr] at hi; cases hi⟩
theorem Wr.imp {L' : List HP} (hL : ∀ w, st W0 w L → st W0 w L') (k : Wr P W0 Q n D ops Ks S f l E L') : Wr P W0 Q n D ops Ks S f l E L := fun a w ha hs => k a w ha (hL w hs)
theorem wpS_mono {S S' : World → Prop} (h : ∀ w, S' w → S w) : ∀ (f : Nat) (l : Array Bool) (a : Act) (w : World), wpS P ops Q Ks S' f l a w → wpS P ops Q Ks S f l a w
 | 0, _, _, _, h' => h'
 | f + 1, _, _, _, h' => ⟨h'.1, fun i hi => wpOp_mono (fun a' w' h'' => ⟨fun he => h _ (h''.1 he), wpS_mono h f _ a' w' h''.2⟩) (h'.2 i hi)⟩
theorem Wr.more {S' : List HP} (h : ∀ w, st W0 w S' → st W0 w S) (k : Wr P W0 Q n D ops Ks S' f l E L) : Wr P W0 Q n D ops Ks S f l E L := fun a w ha hs => wpS_mono h _ _ _ _ (k a w ha hs)
variable {d : Option Tmp} {op : Op} {ty : TypeId} {pos : String} {aft : Array Edge} {g : Option (Nat × Bool)} {v : Value} {id : Nat} {y : Code} {os : List Oper}
theorem Wr.p (i : Nat) (is : List Nat) (hi : ops[i]? = Option.some { dst := d, op := op, type := ty, pos := pos, after := aft, guard := g }) (hq : ∀ {W}, Quiet P W E [] op ty v)
  (k : Wr P W0 Q n D ops Ks S f (l.setIfInBounds i true) (updO E d v) L) (hg : wantedE ops g E = true := by rfl) (hb : pureB ops Ks l i = true := by kernel_rfl) (hS : (pullT is L).1 = S := by rfl) (hd : dOk n d = true := by rfl)
  (hQ : ∀ c a w, Q (.panic c) (a.put d v) w → Q (.panic c) a w := by exact fun _ _ _ h => h) : Wr P W0 Q n D ops Ks S (f + 1) l E L := by
 subst hS; exact Wr.pure i hi hb (.inr fun _ h => st_take is h) (.inl ⟨hg, fun _ => hq⟩) k hd hQ
theorem Wr.p0 (i : Nat) (hi : ops[i]? = Option.some { dst := d, op := op, type := ty, pos := pos, after := aft, guard := g }) (hq : ∀ {W}, Quiet P W E [] op ty v)
  (k : Wr P W0 Q n D ops Ks S f (l.setIfInBounds i true) (updO E d v) L) (hg : wantedE ops g E = true := by rfl) (hb : pureB ops Ks l i = true := by kernel_rfl) (hL : early Ks l = false := by kernel_rfl) (hd : dOk n d = true := by rfl)
  (hQ : ∀ c a w, Q (.panic c) (a.put d v) w → Q (.panic c) a w := by exact fun _ _ _ h => h) : Wr P W0 Q n D ops Ks S (f + 1) l E L := Wr.pure i hi hb (.inl hL) (.inl ⟨hg, fun _ => hq⟩) k hd hQ
theorem Wr.u (i : Nat) (is : List Nat) (hi : ops[i]? = Option.some { dst := d, op := op, type := ty, pos := pos, after := aft, guard := g })
  (k : Wr P W0 Q n D ops Ks S f (l.setIfInBounds i true) (updO E d undef) L) (hg : wantedE ops g E = false := by rfl) (hb : pureB ops Ks l i = true := by kernel_rfl) (hS : (pullT is L).1 = S := by rfl) (hd : dOk n d = true := by rfl)
  (hQ : ∀ c a w, Q (.panic c) (a.put d undef) w → Q (.panic c) a w := by exact fun _ _ _ h => h) : Wr P W0 Q n D ops Ks S (f + 1) l E L := by
 subst hS; exact Wr.pure i hi hb (.inr fun _ h => st_take is h) (.inr ⟨hg, rfl⟩) k hd hQ
theorem Wr.u0 (i : Nat) (hi : ops[i]? = Option.some { dst := d, op := op, type := ty, pos := pos, after := aft, guard := g })
  (k : Wr P W0 Q n D ops Ks S f (l.setIfInBounds i true) (updO E d undef) L) (hg : wantedE ops g E = false := by rfl) (hb : pureB ops Ks l i = true := by kernel_rfl) (hL : early Ks l = false := by kernel_rfl) (hd : dOk n d = true := by rfl)
  (hQ : ∀ c a w, Q (.panic c) (a.put d undef) w → Q (.panic c) a w := by exact fun _ _ _ h => h) : Wr P W0 Q n D ops Ks S (f + 1) l E L := Wr.pure i hi hb (.inl hL) (.inr ⟨hg, rfl⟩) k hd hQ
theorem Wr.t (i : Nat) (is : List Nat) (hi : ops[i]? = Option.some { dst := d, op := op, type := ty, pos := pos, after := aft, guard := g }) (hq : Quiet P W0 E S op ty v)
  (k : Wr P W0 Q n D ops Ks S f (l.setIfInBounds i true) (updO E d v) L) (hg : wantedE ops g E = true := by rfl) (hb : takeB ops Ks l i = true := by kernel_rfl) (hS : (pullT is L).1 = S := by rfl) (hd : dOk n d = true := by rfl)
  (hQ : ∀ c a w, Q (.panic c) (a.put d v) w → Q (.panic c) a w := by exact fun _ _ _ h => h) : Wr P W0 Q n D ops Ks S (f + 1) l E L := Wr.take i hi hb (fun _ h => by subst hS; exact st_take is h) (.inl ⟨hg, hq⟩) k hd hQ
theorem Wr.x {X : Type} {φ : X → Prop} {v : X → Value} {L' : X → List HP} (i : Nat) (is : List Nat) (hi : ops[i]? = Option.some { dst := d, op := op, type := ty, pos := pos, after := aft, guard := g })
  (he : Eff P W0 E L op ty φ v L') (k : ∀ x, φ x → Wr P W0 Q n D ops Ks S f (l.setIfInBounds i true) (updO E d (v x)) (L' x)) (hr : Region.ready .any ops l = [i] := by kernel_rfl) (hS : ∀ x, (pullT is (L' x)).1 = S := by exact fun _ => rfl)
  (hg : wantedE ops g E = true := by rfl) (hd : dOk n d = true := by rfl) : Wr P W0 Q n D ops Ks S (f + 1) l E L := Wr.e i hr hi he (.inr fun x w _ h => by rw [← hS x]; exact st_take is h) k hg hd
theorem Wr.x0 {X : Type} {φ : X → Prop} {v : X → Value} {L' : X → List HP} (i : Nat) (hi : ops[i]? = Option.some { dst := d, op := op, type := ty, pos := pos, after := aft, guard := g })
  (he : Eff P W0 E L op ty φ v L') (k : ∀ x, φ x → Wr P W0 Q n D ops Ks S f (l.setIfInBounds i true) (updO E d (v x)) (L' x)) (hr : Region.ready .any ops l = [i] := by kernel_rfl) (hS : early Ks (l.setIfInBounds i true) = false := by kernel_rfl)
  (hg : wantedE ops g E = true := by rfl) (hd : dOk n d = true := by rfl) : Wr P W0 Q n D ops Ks S (f + 1) l E L := Wr.e i hr hi he (.inl hS) k hg hd
theorem Wr.z (k : Wx Q n D .normal E L (W0 := W0)) (hr : Region.ready .any ops l = [] := by kernel_rfl) : Wr P W0 Q n D ops Ks S f l E L := Wr.done hr k
theorem Wc.sr {l : List Oper} (k : Wl P W0 (Exit.then (fun a w => y.wp P Q a w) Q) n D l.toArray l E L) : Wc P W0 Q n D (.seq (.region id l.toArray false) y) E L := Wc.seq (Wc.region k)
theorem Wl.dg (k : Wc P W0 Q n D y E L) : Wl P W0 (Exit.then (fun a w => y.wp P Q a w) Q) n D ops [] E L := Wl.done (Wx.go k)
theorem Wl.rg {E' : Nat → Value} (m : Nat) (h : runE n ops m os E = Option.some ([], E')) (k : Wc P W0 Q n D y E' L) : Wl P W0 (Exit.then (fun a w => y.wp P Q a w) Q) n D ops os E L := Wl.run m h (Wl.dg k)
theorem Wc.b {l os' : List Oper} {E' : Nat → Value} (m : Nat) (h : runE n l.toArray m l E = Option.some (os', E')) (k : Wl P W0 (Exit.then (fun a w => y.wp P Q a w) Q) n D l.toArray os' E' L) : Wc P W0 Q n D (.seq (.region id l.toArray false) y) E L := Wc.sr (Wl.run m h k)
theorem Wc.a {l : List Oper} {E' : Nat → Value} (m : Nat) (h : runE n l.toArray m l E = Option.some ([], E')) (k : Wc P W0 Q n D y E' L) : Wc P W0 Q n D (.seq (.region id l.toArray false) y) E L := Wc.sr (Wl.rg m h k)
abbrev oo1 : List Nat := [0]
abbrev oo2 : List Nat := [0, 0]
abbrev oo3 : List Nat := [0, 0, 0]
abbrev oo4 : List Nat := [0, 0, 0, 0]
abbrev oo5 : List Nat := [0, 0, 0, 0, 0]
abbrev oo6 : List Nat := [0, 0, 0, 0, 0, 0]
abbrev oo7 : List Nat := [0, 0, 0, 0, 0, 0, 0]
abbrev oo8 : List Nat := [0, 0, 0, 0, 0, 0, 0, 0]
abbrev oo10 : List Nat := [0, 0, 0, 0, 0, 0, 0, 0, 0, 0]
theorem Wx.f1 {fn : Func} {t : Nat} {X : Type} {φ : X → Prop} {val : X → Value} {M : X → List HP} {F : List HP} (hr : fn.results = #[.tmp t]) (h : ∀ w, st W0 w L → ∃ x, φ x ∧ E t = val x ∧ st W0 w (M x ++ F)) : Wx (bodyPost P fn (Ret fun v w' => ∃ x, φ x ∧ v = val x ∧ st W0 w' (M x ++ F))) n [] .ret E L (W0 := W0) := Wx.fin1 hr (.inl rfl) h
theorem Wx.f2 {fn : Func} {t u : Nat} {X : Type} {φ : X → Prop} {val : X → Value} {M : X → List HP} {F : List HP} (hr : fn.results = #[.tmp t, .tmp u]) (h : ∀ w, st W0 w L → ∃ x, φ x ∧ Value.tuple #[E t, E u] = val x ∧ st W0 w (M x ++ F)) : Wx (bodyPost P fn (Ret fun v w' => ∃ x, φ x ∧ v = val x ∧ st W0 w' (M x ++ F))) n [] .ret E L (W0 := W0) := Wx.fin2 hr (.inl rfl) h
theorem Wr.pull (is : List Nat) (k : Wr P W0 Q n D ops Ks S f l E (pull is L)) : Wr P W0 Q n D ops Ks S f l E L := k.imp fun _ => st_pull is
abbrev Con1 (P : Program) (W0 : World) (f : FuncId) (args : Array Value) (pre : List HP) (v : Value) (post : List HP) : Prop := Con P W0 f args pre (X := Unit) (fun _ => True) (fun _ => v) (fun _ => post)
end
end Go.SL
