/- What follows: more plain laws: what has come stays; terms that are made later; the document's way. -/
import Derived.Test.YtjjghmkjdgogiaaGreatDoorDdL
namespace Go.Dd
open Go Go.SL

section
variable {ts : List TermR} {p : Nat} {K : Nat → Prop} {us : List (List Nat)} {EM EP ES : Nat → Prop} {s : Sd}
theorem Inv.drop {h : List Bool} {t : List Nat} {n : Nat} (I : Inv ts p K us no no no (h, t ++ [n])) : Inv ts p K us (fun _ => True) (fun _ => True) (fun _ => True) (h, t) :=
  { I with
    todo := fun m hm => I.todo m (List.mem_append_left _ hm)
    cnt := by have := I.cnt; simp only [List.length_append, List.length_singleton] at this; simp only; omega
    M := fun _ _ _ _ => .inr (.inr (.inr trivial))
    P := fun _ _ _ _ _ => .inr (.inr trivial)
    S := fun _ _ _ _ _ _ => .inr (.inr (.inr trivial)) }
theorem Inv.le (I : Inv ts p K us EM EP ES s) : s.2.length ≤ p + 1 := by
 have := I.cnt
 have h2 : s.1.count true ≤ s.1.length := List.count_le_length
 have := I.len
 omega
theorem Inv.more (I : Inv ts p K us EM EP ES s) {K' : Nat → Prop} (h : ∀ n, K n → K' n) : Inv ts p K' us EM EP ES s :=
  { I with sound := fun n hn => (I.sound n hn).mono fun m hm => .known (h m hm) }

/-! ### Terms that are made later -/
theorem atN_ext {ts xs : List TermR} {n : Nat} (h : n ≤ ts.length) : atN (ts ++ xs) n = atN ts n := by
 unfold atN
 split
 · rfl
 · rw [List.getElem?_append_left (by omega)]
theorem atN_pre {ts xs : List TermR} {n : Nat} {t : TermR} (h : atN ts n = some t) : atN (ts ++ xs) n = some t := by
 rw [atN_ext, h]
 unfold atN at h
 split at h
 · cases h
 · have := (List.getElem?_eq_some_iff.1 h).1; omega
theorem byN_ext {ts xs : List TermR} {a : Nat} (h : a ≤ ts.length) : byN (ts ++ xs) a = byN ts a := by
 unfold byN; rw [atN_ext h]
theorem Der.ext {ts xs : List TermR} {K : Nat → Prop} (hw : Wf ts) {n : Nat} (h : Der ts K n) : Der (ts ++ xs) K n := by
 induction h with
 | zero => exact .zero
 | known h => exact .known h
 | data h1 h2 => exact .data (atN_pre h1) h2
 | made h1 h2 h3 _ _ i1 i2 => exact .made (atN_pre h1) h2 h3 i1 i2
 | fst h1 h2 _ i => exact .fst (atN_pre h1) h2 i
 | snd h1 h2 _ i => exact .snd (atN_pre h1) h2 i
 | opn h1 h2 _ _ i1 i2 => exact .opn (atN_pre h1) h2 i1 (by rw [byN_ext (by have := hw.parts h1; omega)]; exact i2)
theorem Inv.ext {xs : List TermR} (I : Inv ts p K us EM EP ES s) (hw : Wf (ts ++ xs)) : Inv (ts ++ xs) p K us EM EP ES s := by
 have hb : ∀ {n t}, inP (ts ++ xs) p n t → inP ts p n t ∧ byN (ts ++ xs) t.a.toNat = byN ts t.a.toNat := fun {n t} h => by
  have h1 : atN ts n = some t := by rw [← atN_ext (xs := xs) (by have := h.2; have := I.pl; omega)]; exact h.1
  have := I.wf.parts h1
  exact ⟨⟨h1, h.2⟩, byN_ext (by omega)⟩
 exact { I with
  wf := hw
  pl := by have := I.pl; rw [List.length_append]; omega
  sound := fun n h => (I.sound n h).ext I.wf
  uses := fun n t h q h0 hq => I.uses n t (hb h).1 q h0 (by rw [(hb h).2] at hq; exact hq)
  M := fun n t h => I.M n t (hb h).1
  P := fun n t h => I.P n t (hb h).1
  S := fun n t h hk hh hy => by rw [(hb h).2] at hy ⊢; exact I.S n t (hb h).1 hk hh hy }

/-- At the beginning. -/
theorem Inv.start (hw : Wf ts) (K : Nat → Prop) : Inv ts 0 K [[]] no no no ([true], []) :=
  { wf := hw, len := rfl, pl := Nat.zero_le _, ul := rfl, h0 := rfl
    sound := fun n h => by have := hN_lt h; simp at this; subst this; exact .zero
    todo := fun n h => by simp at h
    cnt := by simp
    uses := fun n t h => by have := hw.parts h.1; have := h.2; omega
    usr := fun q m h => by cases q <;> simp at h
    usn := fun q => by cases q <;> simp
    M := fun n t h => by have := hw.parts h.1; have := h.2; omega
    P := fun n t h => by have := hw.parts h.1; have := h.2; omega
    S := fun n t h => by have := hw.parts h.1; have := h.2; omega }
end

/-! ### The document's way -/
/-- Does a term follow, in the document's list? (0: there is none.) -/
def rN (L : List Bool) (n : Nat) : Bool := decide (n = 0) || hN L n
def mkR (ts : List TermR) (L : List Bool) (n : Nat) : Bool := match atN ts n with
 | some t => if t.kind = 2 then true else if t.kind = 1 then false else rN L t.a.toNat && rN L t.b.toNat
 | none => false
/-- What a term gives away: the list then; has something come? -/
def gvR (ts : List TermR) (L : List Bool) (n : Nat) : List Bool × Bool := match atN ts n with
 | some t => if t.kind = 3 then ((L.set t.a.toNat true).set t.b.toNat true, !hN L t.a.toNat || !hN L t.b.toNat) else if t.kind = 6 then (if hN L (byN ts t.a.toNat) = true then (L.set t.b.toNat true, !hN L t.b.toNat) else (L, false)) else (L, false)
 | none => (L, false)
def m1R (ts : List TermR) (s : List Bool × Bool) (n : Nat) : List Bool × Bool := if hN s.1 n = false ∧ mkR ts s.1 n = true then (s.1.set n true, true) else s
def stR (ts : List TermR) (s : List Bool × Bool) (n : Nat) : List Bool × Bool :=
 if hN (m1R ts s n).1 n = true then ((gvR ts (m1R ts s n).1 n).1, (gvR ts (m1R ts s n).1 n).2 || (m1R ts s n).2) else m1R ts s n
/-- The document's list: what follows, alone. -/
structure InvR (ts : List TermR) (K : Nat → Prop) (L : List Bool) : Prop where
 wf : Wf ts
 len : L.length = ts.length + 1
 z : hN L 0 = false
 sound : ∀ n, hN L n = true → Der ts K n
/-- A term has nothing more to tell. -/
def ClR (ts : List TermR) (L : List Bool) (n : Nat) : Prop := (mkR ts L n = true → hN L n = true) ∧ (hN L n = true → (gvR ts L n).2 = false)
section
variable {ts : List TermR} {K : Nat → Prop} {L : List Bool} {m : Bool}
theorem set_same {L : List Bool} {x : Nat} (h : hN L x = true) : L.set x true = L := by
  apply List.ext_getElem?
  intro i
  rw [List.getElem?_set]
  split
  · rename_i e; subst e
    have hl := hN_lt h
    rw [if_pos hl]
    unfold hN at h
    rw [List.getD_eq_getElem?_getD, List.getElem?_eq_getElem hl] at h
    rw [List.getElem?_eq_getElem hl]; simp at h; rw [h]
  · rfl
theorem InvR.set (I : InvR ts K L) {x : Nat} (h0 : 0 < x) (hx : x ≤ ts.length) (hd : Der ts K x) : InvR ts K (L.set x true) := by
 have hl : x < L.length := by rw [I.len]; omega
 refine ⟨I.wf, by rw [List.length_set, I.len], by rw [hN_set hl, if_neg (by omega)]; exact I.z, fun n h => ?_⟩
 rw [hN_set hl] at h
 split at h
 · rename_i e; rw [e]; exact hd
 · exact I.sound n h
theorem cnt_le {L : List Bool} {x : Nat} (hl : x < L.length) : (L.set x true).count false ≤ L.count false ∧ (hN L x = false → (L.set x true).count false < L.count false) := by
  by_cases h : hN L x = true
  · rw [set_same h]; exact ⟨Nat.le_refl _, fun h' => by rw [h] at h'; cases h'⟩
  · have := (cnt_set hl (by simpa using h)).2
    exact ⟨by omega, fun _ => by omega⟩
theorem InvR.at (_ : InvR ts K L) {n : Nat} (h0 : 0 < n) (hn : n ≤ ts.length) : ∃ t, atN ts n = some t := by
 unfold atN; rw [if_neg (by omega)]
 exact ⟨_, List.getElem?_eq_getElem (by omega)⟩
theorem InvR.rn (I : InvR ts K L) {n : Nat} (h : rN L n = true) : Der ts K n := by
 unfold rN at h
 rw [Bool.or_eq_true, decide_eq_true_eq] at h
 rcases h with rfl | h
 · exact .zero
 · exact I.sound n h
theorem InvR.m1 (I : InvR ts K L) {n : Nat} (h0 : 0 < n) (hn : n ≤ ts.length) : InvR ts K (m1R ts (L, m) n).1 ∧ (∀ x, hN L x = true → hN (m1R ts (L, m) n).1 x = true) ∧ (m = true → (m1R ts (L, m) n).2 = true) ∧
    ((m1R ts (L, m) n).2 = false → (m1R ts (L, m) n).1 = L) ∧ ((m1R ts (L, m) n).2 = true → m = true ∨ (m1R ts (L, m) n).1.count false < L.count false) ∧ (m1R ts (L, m) n).1.count false ≤ L.count false ∧ ((m1R ts (L, m) n).2 = false → mkR ts L n = true → hN L n = true) := by
  obtain ⟨t, ht⟩ := I.at h0 hn
  have hl : n < L.length := by rw [I.len]; omega
  unfold m1R
  split
  · rename_i h
    have hd : Der ts K n := by
      have h2 := h.2
      unfold mkR at h2
      rw [ht] at h2
      simp only at h2
      split at h2
      · rename_i hk; exact .data ht hk
      split at h2
      · cases h2
      · rename_i hk2 hk1
        rw [Bool.and_eq_true] at h2
        exact .made ht hk1 hk2 (I.rn h2.1) (I.rn h2.2)
    refine ⟨I.set h0 hn hd, fun x hx => by rw [hN_set hl]; split <;> simp_all, fun _ => rfl, fun h => (by cases h), fun _ => .inr ((cnt_le hl).2 h.1), (cnt_le hl).1, fun h => by cases h⟩
  · rename_i h
    refine ⟨I, fun _ h => h, fun h => h, fun _ => rfl, fun h => .inl h, Nat.le_refl _, fun _ hm => ?_⟩
    simp only at h
    by_cases e : hN L n = true
    · exact e
    · exact absurd ⟨by simpa using e, hm⟩ h
theorem InvR.gv (I : InvR ts K L) {n : Nat} (h0 : 0 < n) (hn : n ≤ ts.length) (hh : hN L n = true) : InvR ts K (gvR ts L n).1 ∧ (∀ x, hN L x = true → hN (gvR ts L n).1 x = true) ∧ ((gvR ts L n).2 = false → (gvR ts L n).1 = L) ∧
    ((gvR ts L n).2 = true → (gvR ts L n).1.count false < L.count false) ∧ (gvR ts L n).1.count false ≤ L.count false := by
  obtain ⟨t, ht⟩ := I.at h0 hn
  have hp := I.wf.parts ht
  have e : gvR ts L n = if t.kind = 3 then ((L.set t.a.toNat true).set t.b.toNat true, !hN L t.a.toNat || !hN L t.b.toNat) else if t.kind = 6 then (if hN L (byN ts t.a.toNat) = true then (L.set t.b.toNat true, !hN L t.b.toNat) else (L, false)) else (L, false) := by
    unfold gvR; rw [ht]
  have up : ∀ {L : List Bool} {x y : Nat}, x < L.length → hN L y = true → hN (L.set x true) y = true := fun hl h => by rw [hN_set hl]; split <;> simp_all
  rw [e]
  split
  · rename_i h3
    have hla : t.a.toNat < L.length := by rw [I.len]; omega
    have I1 := I.set (x := t.a.toNat) (by omega) (by omega) (.fst ht h3 (I.sound n hh))
    have hlb : t.b.toNat < (L.set t.a.toNat true).length := by rw [I1.len]; omega
    have I2 := I1.set (x := t.b.toNat) (by omega) (by omega) (.snd ht h3 (I.sound n hh))
    refine ⟨I2, fun x hx => up hlb (up hla hx), fun h => ?_, fun h => ?_, Nat.le_trans (cnt_le hlb).1 (cnt_le hla).1⟩
    · simp only [Bool.or_eq_false_iff, Bool.not_eq_false'] at h
      simp only [set_same h.1, set_same h.2]
    · simp only [Bool.or_eq_true, Bool.not_eq_true'] at h
      by_cases ha : hN L t.a.toNat = true
      · simp only [set_same ha]
        refine (cnt_le (by rw [I.len]; omega)).2 ?_
        rcases h with h | h
        · rw [ha] at h; cases h
        · exact h
      · exact Nat.lt_of_le_of_lt (cnt_le hlb).1 ((cnt_le hla).2 (by simpa using ha))
  split
  · rename_i h3 h6
    split
    · rename_i hb
      have hlb : t.b.toNat < L.length := by rw [I.len]; omega
      refine ⟨I.set (x := t.b.toNat) (by omega) (by omega) (.opn ht h6 (I.sound n hh) (I.sound _ hb)), fun x hx => up hlb hx, fun h => ?_, fun h => ?_, (cnt_le hlb).1⟩
      · simp only [Bool.not_eq_false'] at h
        exact set_same h
      · simp only [Bool.not_eq_true'] at h
        exact (cnt_le hlb).2 h
    · exact ⟨I, fun _ h => h, fun _ => rfl, fun h => (by cases h), Nat.le_refl _⟩
  · exact ⟨I, fun _ h => h, fun _ => rfl, fun h => (by cases h), Nat.le_refl _⟩
theorem InvR.st (I : InvR ts K L) {n : Nat} (h0 : 0 < n) (hn : n ≤ ts.length) : InvR ts K (stR ts (L, m) n).1 ∧ (∀ x, hN L x = true → hN (stR ts (L, m) n).1 x = true) ∧ ((stR ts (L, m) n).2 = false → (stR ts (L, m) n).1 = L ∧ m = false ∧ ClR ts L n) ∧
    ((stR ts (L, m) n).2 = true → m = true ∨ (stR ts (L, m) n).1.count false < L.count false) ∧ (stR ts (L, m) n).1.count false ≤ L.count false := by
  obtain ⟨J, u1, k1, k2, k3, k4, k5⟩ := I.m1 (m := m) h0 hn
  unfold stR
  split
  · rename_i hh
    obtain ⟨J2, u2, g1, g2, g3⟩ := J.gv h0 hn hh
    refine ⟨J2, fun x hx => u2 x (u1 x hx), fun h => ?_, fun h => ?_, Nat.le_trans g3 k4⟩
    · simp only [Bool.or_eq_false_iff] at h
      have e := k2 h.2
      refine ⟨(g1 h.1).trans e, ?_, k5 h.2, fun _ => ?_⟩
      · cases m with
        | false => rfl
        | true => rw [k1 rfl] at h; cases h.2
      · have := h.1; rw [e] at this; exact this
    · simp only [Bool.or_eq_true] at h
      rcases h with h | h
      · exact .inr (Nat.lt_of_lt_of_le (g2 h) k4)
      · rcases k3 h with h | h
        · exact .inl h
        · exact .inr (Nat.lt_of_le_of_lt g3 h)
  · rename_i hh
    refine ⟨J, u1, fun h => ⟨k2 h, ?_, k5 h, fun h' => ?_⟩, k3, k4⟩
    · cases m with
      | false => rfl
      | true => rw [k1 rfl] at h; cases h
    · rw [k2 h] at hh; exact absurd h' hh
/-- Closed all over: just what follows. -/
theorem InvR.done (I : InvR ts K L) (hc : ∀ n, 0 < n → n ≤ ts.length → ClR ts L n) (hK : ∀ n, K n → hN L n = true) {n : Nat} (h0 : 0 < n) : hN L n = true ↔ Der ts K n := by
  refine ⟨I.sound n, fun hd => ?_⟩
  have key : rN L n = true := by
    have rin : ∀ {n}, hN L n = true → rN L n = true := fun h => by unfold rN; rw [h, Bool.or_true]
    have out : ∀ {n}, 0 < n → rN L n = true → hN L n = true := fun h0 h => by
      unfold rN at h; rw [Bool.or_eq_true, decide_eq_true_eq] at h; rcases h with h | h
      · omega
      · exact h
    have inr : ∀ {n t}, atN ts n = some t → 0 < n ∧ n ≤ ts.length := fun h => by have := I.wf.parts h; omega
    refine hd.least (S := fun n => rN L n = true) ⟨by unfold rN; rfl, fun n t ht hk => ?_, fun n t ht h1 h2 ha hb => ?_, fun n t ht hk hh => ?_, fun n t ht hk hh => ?_, fun n t ht hk hh hb => ?_⟩ (fun n h => rin (hK n h))
    · exact rin ((hc n (inr ht).1 (inr ht).2).1 (by unfold mkR; rw [ht]; simp only; rw [if_pos hk]))
    · exact rin ((hc n (inr ht).1 (inr ht).2).1 (by unfold mkR; rw [ht]; simp only; rw [if_neg h2, if_neg h1, ha, hb]; rfl))
    · have := (hc n (inr ht).1 (inr ht).2).2 (out (inr ht).1 hh)
      unfold gvR at this; rw [ht] at this; simp only [if_pos hk, Bool.or_eq_false_iff, Bool.not_eq_false'] at this
      exact rin this.1
    · have := (hc n (inr ht).1 (inr ht).2).2 (out (inr ht).1 hh)
      unfold gvR at this; rw [ht] at this; simp only [if_pos hk, Bool.or_eq_false_iff, Bool.not_eq_false'] at this
      exact rin this.2
    · have h1 := (hc n (inr ht).1 (inr ht).2).2 (out (inr ht).1 hh)
      have hp := I.wf.parts ht
      have hb0 : 0 < byN ts t.a.toNat := by
        unfold byN; split
        · rename_i k hk'
          have := I.wf.parts hk'
          split
          · omega
          · omega
        · omega
      unfold gvR at h1; rw [ht] at h1; simp only at h1
      rw [if_neg (by omega), if_pos hk, if_pos (out hb0 hb)] at h1
      simp only [Bool.not_eq_false'] at h1
      exact rin h1
  unfold rN at key
  rw [Bool.or_eq_true, decide_eq_true_eq] at key
  rcases key with h | h
  · omega
  · exact h
end
end Go.Dd
