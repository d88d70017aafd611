/- A part of the proof. -/
import Derived.Test.YtjnejkdamhefgaaGreatDoorSLF
import Derived.OrdersIn
namespace Go.SL
open Go Go.RowKit
set_option linter.unusedVariables false
section
variable {P : Program} {ops : Array Oper} {Q : Exit → Act → World → Prop} {rr : Option Nat}
def noDeferB (ops : Array Oper) : Bool := ops.toList.all fun o => match o.op with | .defer _ => false | _ => true
theorem noDefer_spec {ops : Array Oper} (h : noDeferB ops = true) (j : Nat) (o : Oper) (c : Call) (hj : ops[j]? = some o) : o.op ≠ .defer c := fun e => by
 have := List.all_eq_true.1 h o (by rw [Array.mem_toList_iff]; exact Array.mem_of_getElem? hj)
 rw [e] at this
 cases this
def wpSI (P : Program) (rr : Option Nat) (ops : Array Oper) (Q : Exit → Act → World → Prop) (Ks : List Nat) (S : World → Prop) : Nat → Array Bool → Act → World → Prop
 | 0, l, a, w => Region.ready .any ops l = [] ∧ Q .normal a w
 | f + 1, l, a, w => (Region.ready .any ops l = [] → Q .normal a w) ∧
   ∀ i ∈ Region.ready .any ops l, wpOpIn (Fr rr) 0 P ops Q i (fun a' w' => (early Ks (l.setIfInBounds i true) = true → S w') ∧ wpSI P rr ops Q Ks S f (l.setIfInBounds i true) a' w') a w
theorem wpAnyIn_of_wpSI {Ks : List Nat} {S : World → Prop} : ∀ (f : Nat) (l : Array Bool) (a : Act) (w : World), wpSI P rr ops Q Ks S f l a w → wpAnyIn (Fr rr) 0 P .any ops Q f l a w
 | 0, _, _, _, h => h
 | f + 1, _, _, _, h => ⟨h.1, fun i hi => wpOpIn_mono (fun a' w' h' => wpAnyIn_of_wpSI f _ a' w' h'.2) (h.2 i hi)⟩
theorem yieldsIf_wpOpIn {S : World → Prop} {i : Nat} {o : Oper} {v : Value} {a : Act} (hi : ops[i]? = some o) (hnd : ∀ c, o.op ≠ .defer c) (hy : YieldsIf P ops S o v a)
  {K : Act → World → Prop} {w : World} (hS : S w) (h : K (a.put o.dst v) w) : wpOpIn (Fr rr) 0 P ops Q i K a w := by
 unfold Go.wpOpIn
 simp only [hi]
 rcases hy with ⟨hw, hv⟩ | ⟨hw, rfl⟩
 · simp only [hw, if_true, Oper.wpIn, Oper.semAt_eq _ _ _ hnd, hv w hS, Oper.uponIn]; exact ⟨fun _ _ => trivial, h⟩
 · simp only [hw, Bool.false_eq_true, if_false]; exact ⟨fun _ _ => trivial, h⟩
theorem wpOpIn_putIf {S : World → Prop} {j : Nat} {oi oj : Oper} {v : Value} (hj : ops[j]? = some oj) (hap : oi.apart ops oj = true) (hnd : ∀ c, oj.op ≠ .defer c)
    (hsi : ∀ cs b, oi.op ≠ .select cs b) (hsj : ∀ cs b, oj.op ≠ .select cs b)
    (hQ : ∀ c a w, Q (.panic c) (a.put oi.dst v) w → Q (.panic c) a w) {K : Act → World → Prop} {a : Act} {w : World}
    (hy : YieldsIf P ops S oi v a) (h : wpOpIn (Fr rr) 0 P ops Q j K (a.put oi.dst v) w) :
    wpOpIn (Fr rr) 0 P ops Q j (fun a' w' => YieldsIf P ops S oi v a' ∧ K (a'.put oi.dst v) w') a w := by
  obtain ⟨h1, h2, h3⟩ := Oper.apart_spec hap
  have keep : ∀ (a : Act), YieldsIf P ops S oi v a → ∀ u, YieldsIf P ops S oi v (a.put oj.dst u) := fun a hy u =>
    hy.of_same (execOp_put oi hsi a oj.dst u h3) (wanted_put oi a oj.dst u h3)
  unfold wpOpIn at *
  simp only [hj] at *
  rw [wanted_put oj a oi.dst v h1] at h
  split
  · rename_i hw
    simp only [hw, if_true] at h
    obtain ⟨_, h⟩ := h
    refine ⟨fun _ _ => trivial, ?_⟩
    rw [Oper.semAt_eq _ _ _ hnd] at h ⊢
    rw [execOp_put oj hsj a oi.dst v h1] at h
    generalize (execOp a.eval oj).run P w = r at *
    cases r with
    | ok n w' =>
      cases n <;> simp only [Oper.uponIn] at h ⊢
      case value u => exact ⟨keep a hy u, by rw [← Act.put_comm a v u h2]; exact h⟩
      case skip => exact ⟨keep a hy _, by rw [← Act.put_comm a v undef h2]; exact h⟩
      case defer d =>
        refine ⟨hy.of_same (execOp_put oi hsi _ oj.dst undef h3) (wanted_put oi _ oj.dst undef h3), ?_⟩
        rw [← Act.put_comm _ v undef h2, ← Act.put_defers]
        exact h
      case enter f args =>
        refine ⟨h.1, CallsIn.mono h.2 fun e w'' he => ?_⟩
        cases e with
        | returned u => exact ⟨keep a hy u, by rw [← Act.put_comm a v u h2]; exact he⟩
        | panicked c => exact hQ _ _ _ he
        | outgrown => exact he
      case row row args => exact ⟨h.1, RowsIn.mono h.2 fun u w'' he => ⟨keep a hy u, by rw [← Act.put_comm a v u h2]; exact he⟩⟩
      case round l f tmps assign body =>
        refine ⟨h.1, RoundIn.mono h.2 fun e w'' he => ?_⟩
        cases e with
        | returned u => exact ⟨keep a hy u, by rw [← Act.put_comm a v u h2]; exact he⟩
        | panicked c => exact hQ _ _ _ he
        | outgrown => exact he
    | halt x w' =>
      cases x <;> simp only [Oper.uponIn] at h ⊢
      case panic u => exact hQ _ _ _ h
  · rename_i hw
    simp only [hw] at h
    exact ⟨fun _ _ => trivial, keep a hy undef, by rw [← Act.put_comm a v undef h2]; exact h.2⟩
theorem wpSI_first {Ks C : List Nat} {S : World → Prop} {i : Nat} {oi : Oper} {v : Value} (hi : ops[i]? = some oi) (hsel : ∀ (j : Nat) (o : Oper) cs b, ops[j]? = some o → o.op ≠ .select cs b) (hnd : ∀ (j : Nat) (o : Oper) c, ops[j]? = some o → o.op ≠ .defer c)
    (hQ : ∀ c a w, Q (.panic c) (a.put oi.dst v) w → Q (.panic c) a w) (hlate : lateFor ops C i = true) (hKC : ∀ k ∈ Ks, k ∈ C) :
    ∀ (f : Nat) (l : Array Bool) (a : Act) (w : World),
      (∀ j oj, ops[j]? = some oj → j ≠ i → l.getD j true = false → (∀ e ∈ oj.after, Region.binds .any e = true → e.on ≠ i) → oi.apart ops oj = true) →
      i ∈ Region.ready .any ops l → early C l = true → YieldsIf P ops S oi v a → S w →
      wpSI P rr ops Q Ks S f (l.setIfInBounds i true) (a.put oi.dst v) w → wpSI P rr ops Q Ks S (f + 1) l a w := by
  intro f
  induction f with
  | zero =>
    intro l a w _ hr hear hy hS H
    refine ⟨fun h => (by rw [h] at hr; cases hr), fun j hj => ?_⟩
    by_cases hji : j = i
    · subst hji; exact yieldsIf_wpOpIn hi (fun c => hnd _ _ c hi) hy hS ⟨fun _ => hS, H⟩
    · have := ready_mono hj hji
      rw [H.1] at this
      cases this
  | succ f ih =>
    intro l a w hfree hr hear hy hS H
    refine ⟨fun h => (by rw [h] at hr; cases hr), fun j hj => ?_⟩
    by_cases hji : j = i
    · subst hji; exact yieldsIf_wpOpIn hi (fun c => hnd _ _ c hi) hy hS ⟨fun _ => hS, H⟩
    · have h1 := H.2 j (ready_mono hj hji)
      obtain ⟨hjun, oj, hoj, hall⟩ := mem_ready.1 hj
      have hiun := (mem_ready.1 hr).1
      have hifalse : l.getD i false = false := by
        rcases Nat.lt_or_ge i l.size with h' | h'
        · simp [h'] at hiun ⊢; exact hiun
        · simp [Array.getElem?_eq_none h']
      have hnot : ∀ e ∈ oj.after, Region.binds .any e = true → e.on ≠ i := fun e he hb heq => by
        have h1 := hall e he hb
        rw [heq, hifalse] at h1
        cases h1
      have h2 := wpOpIn_putIf hoj (hfree j oj hoj hji hjun hnot) (fun c => hnd j oj c hoj) (fun cs b => hsel i oi cs b hi) (fun cs b => hsel j oj cs b hoj) hQ hy h1
      have hfree' : ∀ k ok, ops[k]? = some ok → k ≠ i → (l.setIfInBounds j true).getD k true = false →
          (∀ e ∈ ok.after, Region.binds .any e = true → e.on ≠ i) → oi.apart ops ok = true := fun k ok hk hki hun hno => by
        refine hfree k ok hk hki ?_ hno
        by_cases hjk : j = k
        · subst hjk; exact hjun
        · rw [getD_set_ne true hjk] at hun; exact hun
      have hjK : j ∉ C := fun hjK => by
        have := List.all_eq_true.1 hlate j hjK
        simp only [hoj, Bool.and_eq_true, Array.any_eq_true', beq_iff_eq, Bool.or_eq_true] at this
        obtain ⟨_, e, he, hb, hon⟩ := this
        rcases hon with hon | hon
        · exact hnot e he hb hon
        · have h1 := hall e he hb
          have h2 := List.all_eq_true.1 hear e.on (by simpa using hon)
          rw [h1] at h2; cases h2
      have hearj : early C (l.setIfInBounds j true) = true := by
        unfold early at hear ⊢
        rw [List.all_eq_true] at hear ⊢
        intro k hk
        rw [getD_set_ne false (fun e => hjK (by rw [e]; exact hk))]
        exact hear k hk
      refine wpOpIn_mono (fun a' w' h3 => ?_) h2
      have hS' : S w' := h3.2.1 (by
        have h5 : early C ((l.setIfInBounds j true).setIfInBounds i true) = true := (early_set hlate).trans hearj
        rw [Array.setIfInBounds_comm _ _ (Ne.symm hji)]
        exact List.all_eq_true.2 fun k hk => List.all_eq_true.1 h5 k (hKC k hk))
      refine ⟨fun _ => hS', ih (l.setIfInBounds j true) a' w' hfree' (ready_mono hr (Ne.symm hji)) hearj h3.1 hS' ?_⟩
      rw [Array.setIfInBounds_comm _ _ hji]
      exact h3.2.2
end
section
variable {P : Program} {ops : Array Oper} {Q : Exit → Act → World → Prop} {rr : Option Nat}
theorem wpSI_first_pure {Ks : List Nat} {S : World → Prop} {i : Nat} {oi : Oper} {v : Value} (hi : ops[i]? = some oi) (hsel : ∀ (j : Nat) (o : Oper) cs b, ops[j]? = some o → o.op ≠ .select cs b) (hnd : ∀ (j : Nat) (o : Oper) c, ops[j]? = some o → o.op ≠ .defer c)
    (hQ : ∀ c a w, Q (.panic c) (a.put oi.dst v) w → Q (.panic c) a w) (hiK : i ∉ Ks) :
    ∀ (f : Nat) (l : Array Bool) (a : Act) (w : World),
      (∀ j oj, ops[j]? = some oj → j ≠ i → l.getD j true = false → (∀ e ∈ oj.after, Region.binds .any e = true → e.on ≠ i) → oi.apart ops oj = true) →
      i ∈ Region.ready .any ops l → YieldsIf P ops (fun _ => True) oi v a → (early Ks l = true → S w) →
      wpSI P rr ops Q Ks S f (l.setIfInBounds i true) (a.put oi.dst v) w → wpSI P rr ops Q Ks S (f + 1) l a w := by
  have hset : ∀ l : Array Bool, early Ks (l.setIfInBounds i true) = early Ks l := fun l => by
    unfold early
    rw [Bool.eq_iff_iff, List.all_eq_true, List.all_eq_true]
    constructor
    · intro h' k hk
      have := h' k hk
      rwa [getD_set_ne false (fun e => hiK (by rw [e]; exact hk))] at this
    · intro h' k hk
      have := h' k hk
      rwa [getD_set_ne false (fun e => hiK (by rw [e]; exact hk))]
  intro f
  induction f with
  | zero =>
    intro l a w _ hr hy hS H
    refine ⟨fun h => (by rw [h] at hr; cases hr), fun j hj => ?_⟩
    by_cases hji : j = i
    · subst hji; exact yieldsIf_wpOpIn hi (fun c => hnd _ _ c hi) hy trivial ⟨fun h => hS (by rw [← hset]; exact h), H⟩
    · have := ready_mono hj hji
      rw [H.1] at this
      cases this
  | succ f ih =>
    intro l a w hfree hr hy hS H
    refine ⟨fun h => (by rw [h] at hr; cases hr), fun j hj => ?_⟩
    by_cases hji : j = i
    · subst hji; exact yieldsIf_wpOpIn hi (fun c => hnd _ _ c hi) hy trivial ⟨fun h => hS (by rw [← hset]; exact h), H⟩
    · have h1 := H.2 j (ready_mono hj hji)
      obtain ⟨hjun, oj, hoj, hall⟩ := mem_ready.1 hj
      have hiun := (mem_ready.1 hr).1
      have hifalse : l.getD i false = false := by
        rcases Nat.lt_or_ge i l.size with h' | h'
        · simp [h'] at hiun ⊢; exact hiun
        · simp [Array.getElem?_eq_none h']
      have hnot : ∀ e ∈ oj.after, Region.binds .any e = true → e.on ≠ i := fun e he hb heq => by
        have h1 := hall e he hb
        rw [heq, hifalse] at h1
        cases h1
      have h2 := wpOpIn_putIf hoj (hfree j oj hoj hji hjun hnot) (fun c => hnd j oj c hoj) (fun cs b => hsel i oi cs b hi) (fun cs b => hsel j oj cs b hoj) hQ hy h1
      have hfree' : ∀ k ok, ops[k]? = some ok → k ≠ i → (l.setIfInBounds j true).getD k true = false →
          (∀ e ∈ ok.after, Region.binds .any e = true → e.on ≠ i) → oi.apart ops ok = true := fun k ok hk hki hun hno => by
        refine hfree k ok hk hki ?_ hno
        by_cases hjk : j = k
        · subst hjk; exact hjun
        · rw [getD_set_ne true hjk] at hun; exact hun
      refine wpOpIn_mono (fun a' w' h3 => ?_) h2
      have hS' : early Ks (l.setIfInBounds j true) = true → S w' := fun h => h3.2.1 (by rw [Array.setIfInBounds_comm _ _ (Ne.symm hji), hset]; exact h)
      refine ⟨hS', ih (l.setIfInBounds j true) a' w' hfree' (ready_mono hr (Ne.symm hji)) h3.1 hS' ?_⟩
      rw [Array.setIfInBounds_comm _ _ hji]
      exact h3.2.2
theorem wpSI_rebase {Ks Ks' : List Nat} {S S' : World → Prop} : ∀ (f : Nat) (l : Array Bool) (a : Act) (w : World), early Ks l = false → wpSI P rr ops Q Ks' S' f l a w → wpSI P rr ops Q Ks S f l a w
  | 0, _, _, _, _, h => h
  | f + 1, l, a, w, he, h => ⟨h.1, fun i hi => wpOpIn_mono (fun a' w' h' => by
      have he' : early Ks (l.setIfInBounds i true) = false := by
        unfold early at he ⊢
        rw [List.all_eq_false] at he ⊢
        obtain ⟨k, hk, hk2⟩ := he
        refine ⟨k, hk, ?_⟩
        by_cases hik : i = k
        · subst hik
          have hlt : i < l.size := by
            rcases Nat.lt_or_ge i l.size with h' | h'
            · exact h'
            · simp [Array.getElem?_eq_none h'] at hk2
          simp [hlt]
        · rw [getD_set_ne false hik]; exact hk2
      exact ⟨fun h => (by rw [he'] at h; cases h), wpSI_rebase f _ a' w' he' h'.2⟩) (h.2 i hi)⟩
end
section
variable (P : Program) (W0 : World) (Q : Exit → Act → World → Prop) (n : Nat) (rr : Option Nat) (ops : Array Oper)
def Rr (Ks : List Nat) (S : List HP) (f : Nat) (l : Array Bool) (E : Nat → Value) (L : List HP) : Prop :=
 ∀ a w, Is n [] E a → st W0 w L → wpSI P rr ops Q Ks (fun w => st W0 w S) f l a w
end
section
variable {P : Program} {W0 : World} {Q : Exit → Act → World → Prop} {n : Nat} {rr : Option Nat} {ops : Array Oper} {E : Nat → Value} {L S : List HP}
 {Ks : List Nat} {f : Nat} {l : Array Bool}
theorem Ri.draws {id : Nat} (Ks : List Nat) (hm : P.follows .mixedOrders = true) (k : Rr P W0 Q n rr ops Ks L ops.size (Array.replicate ops.size false) E L) : Ri P W0 Q n rr (.region id ops true) E L :=
 fun a w ha hs => wpIn_region_any hm (wpAnyIn_of_wpSI _ _ _ _ (k a w.drew ha (st_drew hs)))
theorem Ri.drawsS {id : Nat} (Ks : List Nat) (S : List HP) (hm : P.follows .mixedOrders = true) (k : Rr P W0 Q n rr ops Ks S ops.size (Array.replicate ops.size false) E L) : Ri P W0 Q n rr (.region id ops true) E L :=
 fun a w ha hs => wpIn_region_any hm (wpAnyIn_of_wpSI _ _ _ _ (k a w.drew ha (st_drew hs)))
theorem Rr.take {d : Option Tmp} {op : Op} {ty : TypeId} {pos : String} {aft : Array Edge} {g : Option (Nat × Bool)} {v : Value} (i : Nat)
    (hi : ops[i]? = some { dst := d, op := op, type := ty, pos := pos, after := aft, guard := g }) (hb : takeB ops Ks l i = true)
    (hL : ∀ w, st W0 w L → st W0 w S) (hq : (wantedE ops g E = true ∧ Quiet P W0 E S op ty v) ∨ (wantedE ops g E = false ∧ v = undef))
    (k : Rr P W0 Q n rr ops Ks S f (l.setIfInBounds i true) (updO E d v) L) (hd : dOk n d = true := by rfl)
    (hQ : ∀ c a w, Q (.panic c) (a.put d v) w → Q (.panic c) a w := by exact fun _ _ _ h => h) (hnd : noDeferB ops = true := by kernel_rfl) :
    Rr P W0 Q n rr ops Ks S (f + 1) l E L := fun a w ha hs => by
  simp only [takeB, Bool.and_eq_true] at hb
  obtain ⟨⟨⟨h1, h2⟩, h3⟩, h45⟩ := hb
  obtain ⟨C, h4, h5, h6⟩ : ∃ C, early C l = true ∧ lateFor ops C i = true ∧ ∀ k ∈ Ks, k ∈ C := by
    rcases Bool.or_eq_true_iff.1 h45 with h | h
    · exact ⟨Ks, (Bool.and_eq_true_iff.1 h).1, (Bool.and_eq_true_iff.1 h).2, fun _ h => h⟩
    · obtain ⟨h, h'⟩ := Bool.and_eq_true_iff.1 h
      obtain ⟨h, h''⟩ := Bool.and_eq_true_iff.1 h
      exact ⟨_, h'', h', fun k hk => by simpa using List.all_eq_true.1 h k hk⟩
  refine wpSI_first hi (Region.noSelect_spec h1) (noDefer_spec hnd) hQ h5 h6 f l a w (Region.free_spec hi h3) (by simpa using h2) h4 ?_ (hL w hs) (k _ w (ha.put hd v) hs)
  rcases hq with ⟨hw, hq⟩ | ⟨hw, hv⟩
  · exact .inl ⟨by rw [ha.wanted]; exact hw, fun w hw => by rw [ha.eval]; exact hq w _ _ _ _ hw⟩
  · exact .inr ⟨by rw [ha.wanted]; exact hw, hv⟩
theorem Rr.rebaseS (Ks' : List Nat) (S' : List HP) (he : early Ks l = false) (k : Rr P W0 Q n rr ops Ks' S' f l E L) : Rr P W0 Q n rr ops Ks S f l E L := fun a w ha hs => wpSI_rebase _ _ _ _ he (k a w ha hs)
theorem Rr.pure {d : Option Tmp} {op : Op} {ty : TypeId} {pos : String} {aft : Array Edge} {g : Option (Nat × Bool)} {v : Value} (i : Nat)
    (hi : ops[i]? = some { dst := d, op := op, type := ty, pos := pos, after := aft, guard := g }) (hb : pureB ops Ks l i = true)
    (hL : early Ks l = false ∨ ∀ w, st W0 w L → st W0 w S) (hq : (wantedE ops g E = true ∧ ∀ W, Quiet P W E [] op ty v) ∨ (wantedE ops g E = false ∧ v = undef))
    (k : Rr P W0 Q n rr ops Ks S f (l.setIfInBounds i true) (updO E d v) L) (hd : dOk n d = true := by rfl)
    (hQ : ∀ c a w, Q (.panic c) (a.put d v) w → Q (.panic c) a w := by exact fun _ _ _ h => h) (hnd : noDeferB ops = true := by kernel_rfl) :
    Rr P W0 Q n rr ops Ks S (f + 1) l E L := fun a w ha hs => by
  simp only [pureB, Bool.and_eq_true] at hb
  obtain ⟨⟨⟨h1, h2⟩, h3⟩, h4⟩ := hb
  refine wpSI_first_pure hi (Region.noSelect_spec h1) (noDefer_spec hnd) hQ (by simpa using h4) f l a w (Region.free_spec hi h3) (by simpa using h2) ?_ (fun h => ?_) (k _ w (ha.put hd v) hs)
  · rcases hq with ⟨hw, hq⟩ | ⟨hw, hv⟩
    · exact .inl ⟨by rw [ha.wanted]; exact hw, fun w _ => by rw [ha.eval]; exact hq w w _ _ _ _ (st_refl w)⟩
    · exact .inr ⟨by rw [ha.wanted]; exact hw, hv⟩
  · rcases hL with hL | hL
    · rw [hL] at h; cases h
    · exact hL w hs
theorem Rr.ei {d : Option Tmp} {op : Op} {ty : TypeId} {pos : String} {aft : Array Edge} {g : Option (Nat × Bool)} {X : Type} {φ : X → Prop} {v : X → Value} {L' : X → List HP} (i : Nat)
    (hr : Region.ready .any ops l = [i]) (hi : ops[i]? = some { dst := d, op := op, type := ty, pos := pos, after := aft, guard := g })
    (he : EffI P W0 E L op ty φ v L') (hS : early Ks (l.setIfInBounds i true) = false ∨ ∀ x w, φ x → st W0 w (L' x) → st W0 w S)
    (k : ∀ x, φ x → Rr P W0 Q n rr ops Ks S f (l.setIfInBounds i true) (updO E d (v x)) (L' x))
    (hg : wantedE ops g E = true := by rfl) (hd : dOk n d = true := by rfl) (hnd : ∀ c, op ≠ .defer c := by exact fun _ h => nomatch h) :
    Rr P W0 Q n rr ops Ks S (f + 1) l E L := fun a w ha hs => by
  refine ⟨fun h => (by rw [hr] at h; cases h), fun j hj => ?_⟩
  rw [hr] at hj
  obtain rfl : j = i := by simpa using hj
  unfold wpOpIn
  simp only [hi]
  rw [if_pos (by rw [ha.wanted]; exact hg)]
  refine UponI.wpIn (R := fun u w' => ∃ x, φ x ∧ u = v x ∧ st W0 w' (L' x)) hnd ?_ ?_
  · rw [ha.eval]; exact he w d pos aft g hs
  · rintro u w' ⟨x, hx, rfl, hs'⟩
    refine ⟨fun hh => ?_, k x hx _ _ (ha.put hd _) hs'⟩
    rcases hS with hS | hS
    · rw [hS] at hh; cases hh
    · exact hS x w' hx hs'
theorem Rr.e {d : Option Tmp} {op : Op} {ty : TypeId} {pos : String} {aft : Array Edge} {g : Option (Nat × Bool)} {X : Type} {φ : X → Prop} {v : X → Value} {L' : X → List HP} (i : Nat)
  (hr : Region.ready .any ops l = [i]) (hi : ops[i]? = some { dst := d, op := op, type := ty, pos := pos, after := aft, guard := g })
  (he : Eff P W0 E L op ty φ v L') (hS : early Ks (l.setIfInBounds i true) = false ∨ ∀ x w, φ x → st W0 w (L' x) → st W0 w S)
  (k : ∀ x, φ x → Rr P W0 Q n rr ops Ks S f (l.setIfInBounds i true) (updO E d (v x)) (L' x))
  (hg : wantedE ops g E = true := by rfl) (hd : dOk n d = true := by rfl) (hnd : ∀ c, op ≠ .defer c := by exact fun _ h => nomatch h) :
  Rr P W0 Q n rr ops Ks S (f + 1) l E L := Rr.ei i hr hi he.toI hS k hg hd hnd
def Ro (P : Program) (W0 : World) (Q : Exit → Act → World → Prop) (n : Nat) (rr : Option Nat) (ops : Array Oper) (Ks : List Nat) (S : List HP) (f : Nat) (l : Array Bool) (E : Nat → Value) (L : List HP) (i : Nat) : Prop :=
 ∀ a w, Is n [] E a → st W0 w L → wpOpIn (Fr rr) 0 P ops Q i (fun a' w' => (early Ks (l.setIfInBounds i true) = true → st W0 w' S) ∧ wpSI P rr ops Q Ks (fun w => st W0 w S) f (l.setIfInBounds i true) a' w') a w
theorem Ro.ei {d : Option Tmp} {op : Op} {ty : TypeId} {pos : String} {aft : Array Edge} {g : Option (Nat × Bool)} {X : Type} {φ : X → Prop} {v : X → Value} {L' : X → List HP} (i : Nat)
    (hi : ops[i]? = some { dst := d, op := op, type := ty, pos := pos, after := aft, guard := g })
    (he : EffI P W0 E L op ty φ v L') (hS : early Ks (l.setIfInBounds i true) = false ∨ ∀ x w, φ x → st W0 w (L' x) → st W0 w S)
    (k : ∀ x, φ x → Rr P W0 Q n rr ops Ks S f (l.setIfInBounds i true) (updO E d (v x)) (L' x))
    (hg : wantedE ops g E = true := by rfl) (hd : dOk n d = true := by rfl) (hnd : ∀ c, op ≠ .defer c := by exact fun _ h => nomatch h) :
    Ro P W0 Q n rr ops Ks S f l E L i := fun a w ha hs => by
  unfold wpOpIn
  simp only [hi]
  rw [if_pos (by rw [ha.wanted]; exact hg)]
  refine UponI.wpIn (R := fun u w' => ∃ x, φ x ∧ u = v x ∧ st W0 w' (L' x)) hnd ?_ ?_
  · rw [ha.eval]; exact he w d pos aft g hs
  · rintro u w' ⟨x, hx, rfl, hs'⟩
    refine ⟨fun hh => ?_, k x hx _ _ (ha.put hd _) hs'⟩
    rcases hS with hS | hS
    · rw [hS] at hh; cases hh
    · exact hS x w' hx hs'
theorem Ro.e {d : Option Tmp} {op : Op} {ty : TypeId} {pos : String} {aft : Array Edge} {g : Option (Nat × Bool)} {X : Type} {φ : X → Prop} {v : X → Value} {L' : X → List HP} (i : Nat)
  (hi : ops[i]? = some { dst := d, op := op, type := ty, pos := pos, after := aft, guard := g })
  (he : Eff P W0 E L op ty φ v L') (hS : early Ks (l.setIfInBounds i true) = false ∨ ∀ x w, φ x → st W0 w (L' x) → st W0 w S)
  (k : ∀ x, φ x → Rr P W0 Q n rr ops Ks S f (l.setIfInBounds i true) (updO E d (v x)) (L' x))
  (hg : wantedE ops g E = true := by rfl) (hd : dOk n d = true := by rfl) (hnd : ∀ c, op ≠ .defer c := by exact fun _ h => nomatch h) :
  Ro P W0 Q n rr ops Ks S f l E L i := Ro.ei i hi he.toI hS k hg hd hnd
theorem Rr.some (rs : List Nat) (hr : Region.ready .any ops l = rs) (hne : rs ≠ []) (k : ∀ i ∈ rs, Ro P W0 Q n rr ops Ks S f l E L i) : Rr P W0 Q n rr ops Ks S (f + 1) l E L := fun a w ha hs =>
 ⟨fun h => absurd (hr.symm.trans h) hne, fun i hi => k i (hr ▸ hi) a w ha hs⟩
theorem Ro.imp {L' : List HP} {i : Nat} (hL : ∀ w, st W0 w L → st W0 w L') (k : Ro P W0 Q n rr ops Ks S f l E L' i) : Ro P W0 Q n rr ops Ks S f l E L i := fun a w ha hs => k a w ha (hL w hs)
theorem Rr.all (rs : List Nat) (hr : Region.ready .any ops l = rs) (hne : rs ≠ []) (k : ∀ i ∈ rs, ∀ a w, Is n [] E a → st W0 w L → wpOpIn (Fr rr) 0 P ops Q i (fun a' w' => (early Ks (l.setIfInBounds i true) = true → st W0 w' S) ∧ wpSI P rr ops Q Ks (fun w => st W0 w S) f (l.setIfInBounds i true) a' w') a w) :
  Rr P W0 Q n rr ops Ks S (f + 1) l E L := fun a w ha hs => ⟨fun h => absurd (hr.symm.trans h) hne, fun i hi => k i (hr ▸ hi) a w ha hs⟩
theorem Rr.done (hr : Region.ready .any ops l = []) (k : Wx Q n [] .normal E L (W0 := W0)) : Rr P W0 Q n rr ops Ks S f l E L := fun a w ha hs => by
 cases f with
 | zero => exact ⟨hr, k a w ha hs⟩
 | succ f => exact ⟨fun _ => k a w ha hs, fun i hi => by rw [hr] at hi; cases hi⟩
theorem Rr.imp {L' : List HP} (hL : ∀ w, st W0 w L → st W0 w L') (k : Rr P W0 Q n rr ops Ks S f l E L') : Rr P W0 Q n rr ops Ks S f l E L := fun a w ha hs => k a w ha (hL w hs)
theorem wpSI_mono {S S' : World → Prop} (h : ∀ w, S' w → S w) : ∀ (f : Nat) (l : Array Bool) (a : Act) (w : World), wpSI P rr ops Q Ks S' f l a w → wpSI P rr ops Q Ks S f l a w
 | 0, _, _, _, h' => h'
 | f + 1, _, _, _, h' => ⟨h'.1, fun i hi => wpOpIn_mono (fun a' w' h'' => ⟨fun he => h _ (h''.1 he), wpSI_mono h f _ a' w' h''.2⟩) (h'.2 i hi)⟩
theorem Rr.more {S' : List HP} (h : ∀ w, st W0 w S' → st W0 w S) (k : Rr P W0 Q n rr ops Ks S' f l E L) : Rr P W0 Q n rr ops Ks S f l E L := fun a w ha hs => wpSI_mono h _ _ _ _ (k a w ha hs)
end
end Go.SL
