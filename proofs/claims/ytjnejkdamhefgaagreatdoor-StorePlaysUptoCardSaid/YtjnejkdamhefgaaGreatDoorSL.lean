/- A part of the proof. -/
import Derived.WalkKit
import Derived.OrdersHeld
import Derived.KernelRfl
namespace Go.SL
open Go Go.RowKit
abbrev Hp := Nat → Option Obj
abbrev HP := Hp → Prop
abbrev Vi (n : Int) : Value := .int .i64 n
abbrev Vp (b : Nat) : Value := .pointer (some ⟨b, 0, none⟩)
abbrev Vt : Value := .bool true
abbrev Vf : Value := .bool false
abbrev Vs (s : ByteArray) : Value := .string s
abbrev Vn : Value := .slice none 0 0
abbrev Vz : Value := .pointer none
abbrev Vl (b n c : Nat) : Value := .slice (some ⟨b, 0, none⟩) n c
theorem dt {p : Prop} [Decidable p] (h : p) : decide p = true := decide_eq_true h
theorem df {p : Prop} [Decidable p] (h : ¬ p) : decide p = false := decide_eq_false h
def Hp.le (a b : Hp) : Prop := ∀ k o, a k = some o → b k = some o
def Hp.disj (a b : Hp) : Prop := ∀ k o, a k = some o → b k = none
def Hp.un (a b : Hp) : Hp := fun k => match a k with | some o => some o | none => b k
theorem Hp.le_refl (a : Hp) : Hp.le a a := fun _ _ h => h
theorem Hp.le_trans {a b c : Hp} (h : Hp.le a b) (h' : Hp.le b c) : Hp.le a c := fun k o e => h' k o (h k o e)
theorem Hp.disj_symm {a b : Hp} (h : Hp.disj a b) : Hp.disj b a := fun k o e => by
 cases ha : a k with
 | none => rfl
 | some x => rw [h k x ha] at e; cases e
theorem Hp.un_some {a b : Hp} {k : Nat} {o : Obj} (h : Hp.un a b k = some o) : a k = some o ∨ b k = some o := by
 unfold Hp.un at h
 split at h
 · rename_i x hx; cases h; exact .inl hx
 · exact .inr h
theorem Hp.le_un_left (a b : Hp) : Hp.le a (Hp.un a b) := fun k o h => by simp [Hp.un, h]
theorem Hp.le_un_right {a b : Hp} (hd : Hp.disj a b) : Hp.le b (Hp.un a b) := fun k o h => by
 have := Hp.disj_symm hd k o h
 simp [Hp.un, this, h]
theorem Hp.un_le {a b c : Hp} (h : Hp.le a c) (h' : Hp.le b c) : Hp.le (Hp.un a b) c := fun k o e => (Hp.un_some e).elim (h k o) (h' k o)
def stL : List HP → Hp → Prop
 | [], _ => True
 | p :: L, h => ∃ a b, Hp.disj a b ∧ Hp.le a h ∧ Hp.le b h ∧ p a ∧ stL L b
theorem stL_mono {L : List HP} {h h' : Hp} (hs : stL L h) (hl : Hp.le h h') : stL L h' := by
 cases L with
 | nil => trivial
 | cons p L => obtain ⟨a, b, h1, h2, h3, h4, h5⟩ := hs; exact ⟨a, b, h1, Hp.le_trans h2 hl, Hp.le_trans h3 hl, h4, h5⟩
theorem stL_swap {p q : HP} {L : List HP} {h : Hp} (hs : stL (p :: q :: L) h) : stL (q :: p :: L) h := by
 obtain ⟨a, bc, h1, h2, h3, hp, b, c, h4, h5, h6, hq, hL⟩ := hs
 have hac : Hp.disj a c := fun k o e => by
  cases hc : c k with
  | none => rfl
  | some x => have := h6 k x hc; rw [h1 k o e] at this; cases this
 refine ⟨b, Hp.un a c, ?_, Hp.le_trans h5 h3, Hp.un_le h2 (Hp.le_trans h6 h3), hq, a, c, hac, Hp.le_un_left a c, Hp.le_un_right hac, hp, hL⟩
 intro k o e
 cases hu : Hp.un a c k with
 | none => rfl
 | some x =>
  rcases Hp.un_some hu with ha | hc
  · have := h5 k o e; rw [h1 k x ha] at this; cases this
  · rw [h4 k o e] at hc; cases hc
theorem stL_cons_mono {p : HP} {L L' : List HP} {h : Hp} (hL : ∀ h, stL L h → stL L' h) (hs : stL (p :: L) h) : stL (p :: L') h := by
 obtain ⟨a, b, h1, h2, h3, hp, hb⟩ := hs
 exact ⟨a, b, h1, h2, h3, hp, hL b hb⟩
theorem stL_head_mono {p q : HP} {L : List HP} {h : Hp} (hpq : ∀ h, p h → q h) (hs : stL (p :: L) h) : stL (q :: L) h := by
 obtain ⟨a, b, h1, h2, h3, hp, hb⟩ := hs
 exact ⟨a, b, h1, h2, h3, hpq a hp, hb⟩
theorem stL_perm {L L' : List HP} (hp : List.Perm L L') : ∀ h, stL L h → stL L' h := by
 induction hp with
 | nil => exact fun _ h => h
 | cons x _ ih => exact fun h hs => stL_cons_mono ih hs
 | swap x y l => exact fun h hs => stL_swap hs
 | trans _ _ ih1 ih2 => exact fun h hs => ih2 h (ih1 h hs)
def Hp.emp : Hp := fun _ => none
theorem Hp.emp_disj (h : Hp) : Hp.disj Hp.emp h := fun _ _ e => by cases e
theorem Hp.emp_le (h : Hp) : Hp.le Hp.emp h := fun _ _ e => by cases e
def Hp.one (b : Nat) (o : Obj) : Hp := fun k => if k = b then some o else none
theorem Hp.one_at (b : Nat) (o : Obj) : Hp.one b o b = some o := by simp [Hp.one]
theorem Hp.one_some {b k : Nat} {o u : Obj} (h : Hp.one b o k = some u) : k = b ∧ u = o := by
 unfold Hp.one at h
 split at h
 · rename_i hk; cases h; exact ⟨hk, rfl⟩
 · cases h
theorem stL_append {L M : List HP} : ∀ {h : Hp}, stL (L ++ M) h → ∃ a b, Hp.disj a b ∧ Hp.le a h ∧ Hp.le b h ∧ stL L a ∧ stL M b := by
 induction L with
 | nil => intro h hs; exact ⟨Hp.emp, h, Hp.emp_disj h, Hp.emp_le h, Hp.le_refl h, trivial, hs⟩
 | cons p L ih =>
  intro h hs
  obtain ⟨a, bc, h1, h2, h3, hp, hr⟩ := hs
  obtain ⟨b, c, h4, h5, h6, hb, hc⟩ := ih hr
  have hab : Hp.disj a b := fun k o e => by
   cases hx : b k with
   | none => rfl
   | some x => have := h5 k x hx; rw [h1 k o e] at this; cases this
  have hac : Hp.disj a c := fun k o e => by
   cases hx : c k with
   | none => rfl
   | some x => have := h6 k x hx; rw [h1 k o e] at this; cases this
  refine ⟨Hp.un a b, c, ?_, Hp.un_le h2 (Hp.le_trans h5 h3), Hp.le_trans h6 h3, ⟨a, b, hab, Hp.le_un_left a b, Hp.le_un_right hab, hp, hb⟩, hc⟩
  intro k o e
  rcases Hp.un_some e with ha | hb
  · exact hac k o ha
  · exact h4 k o hb
theorem stL_append_mk {L M : List HP} : ∀ {h a b : Hp}, Hp.disj a b → Hp.le a h → Hp.le b h → stL L a → stL M b → stL (L ++ M) h := by
 induction L with
 | nil => intro h a b _ _ hb _ hM; exact stL_mono hM hb
 | cons p L ih =>
  intro h a b hd ha hb hL hM
  obtain ⟨a1, a2, h1, h2, h3, hp, hr⟩ := hL
  have hd2 : Hp.disj a2 b := fun k o e => hd k o (h3 k o e)
  refine ⟨a1, Hp.un a2 b, ?_, Hp.le_trans h2 ha, Hp.un_le (Hp.le_trans h3 ha) hb, hp, ih hd2 (Hp.le_un_left _ _) (Hp.le_un_right hd2) hr hM⟩
  intro k o e
  cases hx : Hp.un a2 b k with
  | none => rfl
  | some x =>
   rcases Hp.un_some hx with h' | h'
   · rw [h1 k o e] at h'; cases h'
   · rw [hd k o (h2 k o e)] at h'; cases h'
def own (b : Nat) (o : Obj) : HP := fun h => h b = some o
def pt (b : Nat) (e : TypeId) (c : List Value) : HP := own b (.cells c.toArray e (0, 0))
def pr (φ : Prop) : HP := fun _ => φ
def ex {X : Type} (p : X → HP) : HP := fun h => ∃ x, p x h
def grp (L : List HP) : HP := stL L
def st (W0 w : World) (L : List HP) : Prop := Below W0.heap.size W0 w ∧ ∃ h, stL L h ∧ ∀ k o, h k = some o → W0.heap.size ≤ k ∧ w.heap[k]? = some o
section
variable {W0 w w' : World} {L L' M : List HP} {p q : HP}
theorem st_imp (hL : ∀ h, stL L h → stL L' h) (h : st W0 w L) : st W0 w L' := let ⟨h1, x, h2, h3⟩ := h; ⟨h1, x, hL x h2, h3⟩
theorem st_perm (hp : List.Perm L L') (h : st W0 w L) : st W0 w L' := st_imp (stL_perm hp) h
theorem st_drop (h : st W0 w (p :: L)) : st W0 w L := st_imp (fun _ hs => by obtain ⟨_, _, _, _, h3, _, h5⟩ := hs; exact stL_mono h5 h3) h
theorem st_swap (h : st W0 w (p :: q :: L)) : st W0 w (q :: p :: L) := st_imp (fun _ => stL_swap) h
theorem st_head (hpq : ∀ h, p h → q h) (h : st W0 w (p :: L)) : st W0 w (q :: L) := st_imp (fun _ => stL_head_mono hpq) h
theorem st_ex {X : Type} {p : X → HP} : st W0 w (ex p :: L) ↔ ∃ x, st W0 w (p x :: L) :=
  ⟨fun ⟨h1, h, ⟨a, b, g1, g2, g3, ⟨x, hx⟩, g5⟩, h3⟩ => ⟨x, h1, h, ⟨a, b, g1, g2, g3, hx, g5⟩, h3⟩,
   fun ⟨x, hs⟩ => st_head (fun _ hp => ⟨x, hp⟩) hs⟩
theorem st_pr {φ : Prop} : st W0 w (pr φ :: L) ↔ φ ∧ st W0 w L :=
  ⟨fun h => ⟨by obtain ⟨_, _, ⟨_, _, _, _, _, hp, _⟩, _⟩ := h; exact hp, st_drop h⟩,
   fun ⟨hφ, h1, h, h2, h3⟩ => ⟨h1, h, ⟨Hp.emp, h, Hp.emp_disj h, Hp.emp_le h, Hp.le_refl h, hφ, h2⟩, h3⟩⟩
theorem st_grp : st W0 w (grp M :: L) ↔ st W0 w (M ++ L) :=
  ⟨fun ⟨h1, h, ⟨_, _, g1, g2, g3, g4, g5⟩, h3⟩ => ⟨h1, h, stL_append_mk g1 g2 g3 g4 g5, h3⟩,
   fun ⟨h1, h, hs, h3⟩ => ⟨h1, h, (let ⟨a, b, g1, g2, g3, g4, g5⟩ := stL_append hs; ⟨a, b, g1, g2, g3, g4, g5⟩), h3⟩⟩
def pullT : List Nat → List HP → List HP × List HP
 | [], L => ([], L)
 | i :: is, L => ((L.getD i (fun _ => True)) :: (pullT is (L.eraseIdx i)).1, (pullT is (L.eraseIdx i)).2)
def pull (is : List Nat) (L : List HP) : List HP := (pullT is L).1 ++ (pullT is L).2
theorem perm_eraseIdx {α : Type} : ∀ {i : Nat} {L : List α} (hi : i < L.length), List.Perm L (L[i] :: L.eraseIdx i)
 | 0, _ :: _, _ => List.Perm.refl _
 | i + 1, a :: L, hi => by
  have := perm_eraseIdx (i := i) (L := L) (by simpa using hi)
  simp only [List.getElem_cons_succ, List.eraseIdx_cons_succ]
  exact (List.Perm.cons a this).trans (List.Perm.swap _ _ _)
theorem stL_pull1 {i : Nat} {h : Hp} (hs : stL L h) : stL (L.getD i (fun _ => True) :: L.eraseIdx i) h := by
  by_cases hi : i < L.length
  · refine stL_perm ?_ h hs
    rw [show L.getD i (fun _ => True) = L[i] from by simp [List.getD, hi]]
    exact perm_eraseIdx hi
  · rw [List.eraseIdx_of_length_le (by omega)]
    exact ⟨Hp.emp, h, Hp.emp_disj h, Hp.emp_le h, Hp.le_refl h, by simp [List.getD, List.getElem?_eq_none (Nat.le_of_not_lt hi)], hs⟩
theorem stL_pull (is : List Nat) : ∀ {L : List HP} {h : Hp}, stL L h → stL (pull is L) h := by
 induction is with
 | nil => exact fun hs => hs
 | cons i is ih =>
  intro L h hs
  exact stL_cons_mono (fun _ => ih) (stL_pull1 (i := i) hs)
theorem st_pull (is : List Nat) (h : st W0 w L) : st W0 w (pull is L) := st_imp (fun _ => stL_pull is) h
theorem stL_left {L M : List HP} {h : Hp} (hs : stL (L ++ M) h) : stL L h := let ⟨_, _, _, h2, _, h4, _⟩ := stL_append hs; stL_mono h4 h2
theorem st_take (is : List Nat) (h : st W0 w L) : st W0 w (pullT is L).1 := st_imp (fun _ => stL_left) (st_pull is h)
theorem stL_own {b : Nat} {o : Obj} : ∀ {i : Nat} {L : List HP} {h : Hp}, stL L h → L[i]? = some (own b o) → h b = some o := by
 intro i
 induction i with
 | zero => intro L h hs hi; cases L with
  | nil => cases hi
  | cons p L => simp at hi; subst hi; obtain ⟨a, b, _, h2, _, hp, _⟩ := hs; exact h2 _ _ hp
 | succ i ih => intro L h hs hi; cases L with
  | nil => cases hi
  | cons p L => simp at hi; obtain ⟨a, b, _, _, h3, _, hr⟩ := hs; exact h3 _ _ (ih hr hi)
theorem st_own {b i : Nat} {o : Obj} (h : st W0 w L) (hi : L[i]? = some (own b o)) : W0.heap.size ≤ b ∧ w.heap[b]? = some o := by
 obtain ⟨_, x, hs, h3⟩ := h
 exact h3 _ _ (stL_own hs hi)
theorem st_cell {b i off : Nat} {e : TypeId} {c : List Value} {v : Value} (h : st W0 w L) (hi : L[i]? = some (pt b e c)) (hc : c[off]? = some v) : w.cell? ⟨b, off, none⟩ = some v := by
 have := (st_own h hi).2
 simp [World.cell?, this, hc]
theorem st_ro {a : Addr} {v : Value} (h : st W0 w L) (hv : W0.cell? a = some v) : w.cell? a = some v := by
 rw [← hv]
 refine h.1.cell (p := a) ?_
 unfold World.cell? at hv
 split at hv
 · rename_i hb; exact (Array.getElem?_eq_some_iff.1 hb).1
 · cases hv
theorem st_upd {b : Nat} {o o' : Obj} (h : st W0 w (own b o :: L)) (hos : w'.os = w.os) (ht : w'.tape = w.tape) (hout : w'.output = w.output) (hsz : w.heap.size ≤ w'.heap.size)
    (hb : w'.heap[b]? = some o') (hne : ∀ k, k ≠ b → k < w.heap.size → w'.heap[k]? = w.heap[k]?) : st W0 w' (own b o' :: L) := by
  have hb0 := st_own (i := 0) h rfl
  obtain ⟨hB, x, ⟨a, r, h1, h2, h3, hp, hr⟩, hx⟩ := h
  have hlt : ∀ {k : Nat} {o : Obj}, w.heap[k]? = some o → k < w.heap.size := fun e => (Array.getElem?_eq_some_iff.1 e).1
  refine ⟨hB.trans ⟨hos, ht, hout, hsz, fun k hk => hne k (by omega) (by have := hB.size; omega)⟩, Hp.un (Hp.one b o') r, ⟨Hp.one b o', r, ?_, Hp.le_un_left _ _, Hp.le_un_right ?_, Hp.one_at b o', hr⟩, ?_⟩
  · intro k u e
    obtain ⟨rfl, rfl⟩ := Hp.one_some e; exact h1 _ _ hp
  · intro k u e
    obtain ⟨rfl, rfl⟩ := Hp.one_some e; exact h1 _ _ hp
  · intro k u e
    rcases Hp.un_some e with e1 | e1
    · obtain ⟨rfl, rfl⟩ := Hp.one_some e1; exact ⟨hb0.1, hb⟩
    · have hk := hx k u (h3 k u e1)
      have hkb : k ≠ b := fun hk' => by subst hk'; have e' := h1 _ _ hp; rw [e'] at e1; cases e1
      exact ⟨hk.1, by rw [hne k hkb (hlt hk.2)]; exact hk.2⟩
theorem st_new {o : Obj} (h : st W0 w L) : st W0 (w.alloc o) (own w.heap.size o :: L) := by
  obtain ⟨hB, x, hs, hx⟩ := h
  have hlt : ∀ {k : Nat} {o : Obj}, w.heap[k]? = some o → k < w.heap.size := fun e => (Array.getElem?_eq_some_iff.1 e).1
  have hd : Hp.disj (Hp.one w.heap.size o) x := fun k u e => by
    obtain ⟨rfl, rfl⟩ := Hp.one_some e
    cases hxx : x w.heap.size with
    | none => rfl
    | some y => exact absurd (hlt (hx _ _ hxx).2) (Nat.lt_irrefl _)
  refine ⟨hB.alloc hB.size o, Hp.un (Hp.one w.heap.size o) x, ⟨_, x, hd, Hp.le_un_left _ _, Hp.le_un_right hd, Hp.one_at _ o, hs⟩, ?_⟩
  intro k u e
  rcases Hp.un_some e with e | e
  · obtain ⟨rfl, rfl⟩ := Hp.one_some e; exact ⟨hB.size, by show (w.heap.push _)[w.heap.size]? = _; simp⟩
  · have := hx k u e
    exact ⟨this.1, by rw [Below.heap_alloc _ _ _ (hlt this.2)]; exact this.2⟩
theorem st_drew (h : st W0 w L) : st W0 w.drew L := ⟨h.1.drew, h.2⟩
theorem st_refl (W : World) : st W W [] := ⟨Below.refl _ _, Hp.emp, trivial, fun _ _ e => by cases e⟩
theorem heap_setCell_at {b off : Nat} {e : TypeId} {c : List Value} {v : Value} (hb : w.heap[b]? = some (.cells c.toArray e (0, 0))) :
  (w.setCell ⟨b, off, none⟩ v).heap[b]? = some (.cells (c.set off v).toArray e (0, 0)) := by
 simp [World.setCell, Array.getElem?_modify, hb]
theorem st_setCell {b off : Nat} {e : TypeId} {c : List Value} {v : Value} (h : st W0 w (pt b e c :: L)) : st W0 (w.setCell ⟨b, off, none⟩ v) (pt b e (c.set off v) :: L) :=
 st_upd h rfl rfl rfl (by simp [World.setCell]) (heap_setCell_at (st_own (i := 0) h rfl).2) (fun k hk _ => Below.heap_setCell _ _ _ _ hk)
theorem stL_set {i : Nat} {p' : HP} {h : Hp} (hi : i < L.length) (hs : stL (p' :: L.eraseIdx i) h) : stL (L.set i p') h := by
 refine stL_perm ?_ h hs
 have := (perm_eraseIdx (L := L.set i p') (i := i) (by simpa using hi)).symm
 simpa [List.eraseIdx_set_eq] using this
theorem st_at {i : Nat} (h : st W0 w L) (hi : L[i]? = some p) : st W0 w (p :: L.eraseIdx i) := by
 have := st_imp (fun _ => stL_pull1 (i := i)) h
 rwa [show L.getD i (fun _ => True) = p from by simp [List.getD, hi]] at this
theorem st_set {i : Nat} {p' : HP} (hi : L[i]? = some p) (h : st W0 w (p' :: L.eraseIdx i)) : st W0 w (L.set i p') :=
 st_imp (fun _ => stL_set (List.getElem?_eq_some_iff.1 hi).1) h
end
end Go.SL
