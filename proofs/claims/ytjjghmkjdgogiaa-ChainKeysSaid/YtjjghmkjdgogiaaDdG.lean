/- What follows: more plain laws: what has come stays; terms that are made later; the document's way. -/
import Derived.Test.YtjjghmkjdgogiaaDdL
namespace Go.Dd
open Go Go.SL

section
variable {ts : List TermR} {p : Nat} {K : Nat → Prop} {us : List (List Nat)} {EM EP ES : Nat → Prop} {s : Sd}
theorem Inv.st_up (I : Inv ts p K us EM EP ES s) {m : Nat} (hm : m ≤ p) (h0 : 0 < m) {n : Nat} (h : hN s.1 n = true) : hN (stF ts s m).1 n = true := by
  obtain ⟨I1, _, u1⟩ := I.ma hm h0
  unfold stF
  split
  · rename_i h'; exact (I1.op hm h0 h').2.2 n (u1 n h)
  · exact u1 n h
theorem Inv.fold_up : ∀ (l : List Nat), (∀ m ∈ l, 0 < m ∧ m ≤ p) → ∀ {EM ES : Nat → Prop} {s : Sd}, Inv ts p K us EM EP ES s → ∀ {n : Nat}, hN s.1 n = true → hN (l.foldl (stF ts) s).1 n = true
  | [], _, _, _, _, _, _, h => h
  | m :: l, hl, _, _, _, I, _, h => Inv.fold_up l (fun x hx => hl x (List.mem_cons_of_mem _ hx)) (I.st (hl m List.mem_cons_self).2 (hl m List.mem_cons_self).1).1 (I.st_up (hl m List.mem_cons_self).2 (hl m List.mem_cons_self).1 h)
theorem Inv.drop {h : List Bool} {t : List Nat} {n : Nat} (I : Inv ts p K us no no no (h, t ++ [n])) : Inv ts p K us (fun _ => True) (fun _ => True) (fun _ => True) (h, t) :=
  { I with
    todo := fun m hm => I.todo m (List.mem_append_left _ hm)
    cnt := by have := I.cnt; simp only [List.length_append, List.length_singleton] at this; simp only; omega
    M := fun _ _ _ _ => .inr (.inr (.inr trivial))
    P := fun _ _ _ _ _ => .inr (.inr trivial)
    S := fun _ _ _ _ _ _ => .inr (.inr (.inr trivial)) }
theorem Inv.pop_up {h : List Bool} {t : List Nat} {n : Nat} (I : Inv ts p K us no no no (h, t ++ [n])) {m : Nat} (hm : hN h m = true) : hN (rdF ts us h t n).1 m = true := by
  have hn := I.todo n (by simp)
  have hnp : n ≤ p := by have := hN_lt hn.2; have := I.len; simp only at *; omega
  obtain ⟨I1, _, u1⟩ := I.drop.op hnp hn.1 hn.2
  exact Inv.fold_up _ (I.usr n) I1 (u1 m hm)
theorem Inv.le (I : Inv ts p K us EM EP ES s) : s.2.length ≤ p + 1 := by
  have := I.cnt
  have h2 : s.1.count true ≤ s.1.length := List.count_le_length
  have := I.len
  omega
theorem Inv.more (I : Inv ts p K us EM EP ES s) {K' : Nat → Prop} (h : ∀ n, K n → K' n) : Inv ts p K' us EM EP ES s :=
  { I with sound := fun n hn => (I.sound n hn).mono fun m hm => .known (h m hm) }

/-! ### Terms that are made later -/
theorem atN_ext {ts xs : List TermR} {n : Nat} (h : n ≤ ts.length) : atN (ts ++ xs) n = atN ts n := by
  unfold atN
  split
  · rfl
  · rw [List.getElem?_append_left (by omega)]
theorem atN_pre {ts xs : List TermR} {n : Nat} {t : TermR} (h : atN ts n = some t) : atN (ts ++ xs) n = some t := by
  rw [atN_ext, h]
  unfold atN at h
  split at h
  · cases h
  · have := (List.getElem?_eq_some_iff.1 h).1; omega
theorem byN_ext {ts xs : List TermR} {a : Nat} (h : a ≤ ts.length) : byN (ts ++ xs) a = byN ts a := by
  unfold byN; rw [atN_ext h]
theorem Der.ext {ts xs : List TermR} {K : Nat → Prop} (hw : Wf ts) {n : Nat} (h : Der ts K n) : Der (ts ++ xs) K n := by
  induction h with
  | zero => exact .zero
  | known h => exact .known h
  | data h1 h2 => exact .data (atN_pre h1) h2
  | made h1 h2 h3 _ _ i1 i2 => exact .made (atN_pre h1) h2 h3 i1 i2
  | fst h1 h2 _ i => exact .fst (atN_pre h1) h2 i
  | snd h1 h2 _ i => exact .snd (atN_pre h1) h2 i
  | opn h1 h2 _ _ i1 i2 => exact .opn (atN_pre h1) h2 i1 (by rw [byN_ext (by have := hw.parts h1; omega)]; exact i2)
theorem Inv.ext {xs : List TermR} (I : Inv ts p K us EM EP ES s) (hw : Wf (ts ++ xs)) : Inv (ts ++ xs) p K us EM EP ES s := by
  have hb : ∀ {n t}, inP (ts ++ xs) p n t → inP ts p n t ∧ byN (ts ++ xs) t.a.toNat = byN ts t.a.toNat := fun {n t} h => by
    have h1 : atN ts n = some t := by rw [← atN_ext (xs := xs) (by have := h.2; have := I.pl; omega)]; exact h.1
    have := I.wf.parts h1
    exact ⟨⟨h1, h.2⟩, byN_ext (by omega)⟩
  exact { I with
    wf := hw
    pl := by have := I.pl; rw [List.length_append]; omega
    sound := fun n h => (I.sound n h).ext I.wf
    uses := fun n t h q h0 hq => I.uses n t (hb h).1 q h0 (by rw [(hb h).2] at hq; exact hq)
    M := fun n t h => I.M n t (hb h).1
    P := fun n t h => I.P n t (hb h).1
    S := fun n t h hk hh hy => by rw [(hb h).2] at hy ⊢; exact I.S n t (hb h).1 hk hh hy }

/-- A number is put behind those of q. -/
def addU (us : List (List Nat)) (q n : Nat) : List (List Nat) := us.set q (us.getD q [] ++ [n])
theorem addU_len (us : List (List Nat)) (q n : Nat) : (addU us q n).length = us.length := by simp [addU]
theorem addU_get {us : List (List Nat)} {q n : Nat} (hq : q < us.length) (x : Nat) : (addU us q n).getD x [] = if x = q then us.getD q [] ++ [n] else us.getD x [] := by
  unfold addU
  rw [List.getD_eq_getElem?_getD, List.getElem?_set]
  by_cases e : q = x
  · subst e; simp [hq]
  · rw [if_neg e, if_neg (fun e' => e e'.symm), List.getD_eq_getElem?_getD]
def addI (c : Prop) [Decidable c] (us : List (List Nat)) (q n : Nat) : List (List Nat) := if c then addU us q n else us
theorem addI_len (c : Prop) [Decidable c] (us : List (List Nat)) (q n : Nat) : (addI c us q n).length = us.length := by unfold addI; split; exact addU_len ..; rfl
theorem addI_mem {c : Prop} [Decidable c] {us : List (List Nat)} {q n : Nat} (hq : c → q < us.length) {x m : Nat} : m ∈ (addI c us q n).getD x [] ↔ m ∈ us.getD x [] ∨ (c ∧ x = q ∧ m = n) := by
  unfold addI
  split
  · rename_i h
    rw [addU_get (hq h)]
    split
    · rename_i e; subst e; simp [h]
    · rename_i e; simp [e]
  · rename_i h; simp [h]
theorem addI_le {c : Prop} [Decidable c] {us : List (List Nat)} {q n : Nat} (hq : c → q < us.length) (x : Nat) : ((addI c us q n).getD x []).length ≤ (us.getD x []).length + 1 := by
  unfold addI
  split
  · rename_i h
    rw [addU_get (hq h)]
    split
    · rename_i e; subst e; simp
    · omega
  · omega
/-- The key's secret, if the key is a public one. -/
def pubN (ts : List TermR) (t : TermR) : Option Nat := if t.kind = 6 then (match atN ts t.a.toNat with | some k => if k.kind = 5 then some k.a.toNat else none | none => none) else none
def grU (ts : List TermR) (us : List (List Nat)) (t : TermR) (n : Nat) : List (List Nat) :=
  addI ((pubN ts t).isSome = true) (addI (0 < t.b.toNat) (addI (0 < t.a.toNat) (us ++ [[]]) t.a.toNat n) t.b.toNat n) ((pubN ts t).getD 0) n
theorem getD_snoc {us : List (List Nat)} (x : Nat) : (us ++ [[]]).getD x [] = us.getD x [] := by
  rw [List.getD_eq_getElem?_getD, List.getD_eq_getElem?_getD, List.getElem?_append]
  split
  · rfl
  · rename_i h
    rw [List.getElem?_eq_none (l := us) (by omega)]
    by_cases e : x - us.length = 0
    · rw [e]; rfl
    · rw [List.getElem?_eq_none (by simp; omega)]
theorem hN_snoc {h : List Bool} (n : Nat) : hN (h ++ [false]) n = hN h n := by
  unfold hN
  rw [List.getD_eq_getElem?_getD, List.getD_eq_getElem?_getD, List.getElem?_append]
  split
  · rfl
  · rename_i h'
    rw [List.getElem?_eq_none (l := h) (by omega)]
    by_cases e : n - h.length = 0
    · rw [e]; rfl
    · rw [List.getElem?_eq_none (by simp; omega)]
theorem Inv.grow1 {h : List Bool} {t : List Nat} (I : Inv ts p K us no no no (h, t)) {u : TermR} (hu : atN ts (p + 1) = some u) : Inv ts (p + 1) K (grU ts us u (p + 1)) no no no (maF ts (h ++ [false], t) (p + 1)) ∧ (∀ n, hN h n = true → hN (maF ts (h ++ [false], t) (p + 1)).1 n = true) := by
  have hpu := I.wf.parts hu
  have hul := I.ul
  have hpub : ∀ {k}, pubN ts u = some k → u.kind = 6 ∧ k = byN ts u.a.toNat ∧ k < p + 1 := fun {k} e => by
    unfold pubN at e
    split at e
    · rename_i h6
      split at e
      · rename_i kk hk
        split at e
        · rename_i h5
          cases e
          have := I.wf.parts hk
          refine ⟨h6, ?_, by omega⟩
          unfold byN; rw [hk]; simp only; rw [if_pos h5]
        · cases e
      · cases e
    · cases e
  have hby : u.kind = 6 → byN ts u.a.toNat = u.a.toNat ∨ pubN ts u = some (byN ts u.a.toNat) := fun h6 => by
    unfold pubN byN
    rw [if_pos h6]
    rcases atN ts u.a.toNat with _ | k
    · exact .inl rfl
    · simp only
      split
      · exact .inr rfl
      · exact .inl rfl
  have l1 : (us ++ [[]]).length = p + 2 := by simp [hul]
  have l2 : (addI (0 < u.a.toNat) (us ++ [[]]) u.a.toNat (p + 1)).length = p + 2 := by rw [addI_len, l1]
  have l3 : (addI (0 < u.b.toNat) (addI (0 < u.a.toNat) (us ++ [[]]) u.a.toNat (p + 1)) u.b.toNat (p + 1)).length = p + 2 := by rw [addI_len, l2]
  have b3 : (pubN ts u).isSome = true → (pubN ts u).getD 0 < p + 1 := fun h => by
    obtain ⟨k, hk⟩ := Option.isSome_iff_exists.1 h
    rw [hk]; exact (hpub hk).2.2
  have mem : ∀ {x m : Nat}, m ∈ (grU ts us u (p + 1)).getD x [] ↔ ((m ∈ us.getD x [] ∨ (0 < u.a.toNat ∧ x = u.a.toNat ∧ m = p + 1)) ∨ (0 < u.b.toNat ∧ x = u.b.toNat ∧ m = p + 1)) ∨ ((pubN ts u).isSome = true ∧ x = (pubN ts u).getD 0 ∧ m = p + 1) := fun {x m} => by
    unfold grU
    rw [addI_mem (fun h => by have := b3 h; omega), addI_mem (fun h => by omega), addI_mem (fun h => by omega), getD_snoc]
  have I1 : Inv ts (p + 1) K (grU ts us u (p + 1)) (fun n => n = p + 1) no no (h ++ [false], t) :=
    { wf := I.wf
      len := by have := I.len; simp only [List.length_append, List.length_singleton] at *; omega
      pl := hpu.2.1
      ul := by unfold grU; rw [addI_len, l3]
      h0 := by rw [hN_snoc]; exact I.h0
      sound := fun n hn => by rw [hN_snoc] at hn; exact I.sound n hn
      todo := fun n hn => by rw [hN_snoc]; exact I.todo n hn
      cnt := by have := I.cnt; simp only [List.count_append] at *; omega
      uses := fun n v hn q h0 hq => by
        rw [mem]
        by_cases e : n = p + 1
        · subst e
          have : v = u := by have := hn.1; rw [hu] at this; exact (Option.some.inj this).symm
          subst this
          rcases hq with rfl | rfl | ⟨h6, rfl⟩
          · exact .inl (.inl (.inr ⟨h0, rfl, rfl⟩))
          · exact .inl (.inr ⟨h0, rfl, rfl⟩)
          · rcases hby h6 with e | e
            · rw [e] at h0 ⊢; exact .inl (.inl (.inr ⟨h0, rfl, rfl⟩))
            · exact .inr ⟨by rw [e]; rfl, by rw [e]; rfl, rfl⟩
        · exact .inl (.inl (.inl (I.uses n v ⟨hn.1, by have := hn.2; omega⟩ q h0 hq)))
      usr := fun q m hm => by
        rw [mem] at hm
        rcases hm with ((hm | hm) | hm) | hm
        · have := I.usr q m hm; omega
        · omega
        · omega
        · omega
      usn := fun q => by
        unfold grU
        have h1 := addI_le (c := (pubN ts u).isSome = true) (us := addI (0 < u.b.toNat) (addI (0 < u.a.toNat) (us ++ [[]]) u.a.toNat (p + 1)) u.b.toNat (p + 1)) (q := (pubN ts u).getD 0) (n := p + 1) (fun h => by have := b3 h; omega) q
        have h2 := addI_le (c := 0 < u.b.toNat) (us := addI (0 < u.a.toNat) (us ++ [[]]) u.a.toNat (p + 1)) (q := u.b.toNat) (n := p + 1) (fun h => by omega) q
        have h3 := addI_le (c := 0 < u.a.toNat) (us := us ++ [[]]) (q := u.a.toNat) (n := p + 1) (fun h => by omega) q
        rw [getD_snoc] at h3
        have := I.usn q
        omega
      M := fun n v hn hk => by
        by_cases e : n = p + 1
        · exact .inr (.inr (.inr e))
        · simp only [hN_snoc] at hk ⊢
          have := I.M n v ⟨hn.1, by have := hn.2; omega⟩ hk
          simp only [no, or_false] at this
          rcases this with h | h | h
          · exact .inl h
          · exact .inr (.inl h)
          · exact .inr (.inr (.inl h))
      P := fun n v hn hk hh => by
        simp only [hN_snoc] at hh ⊢
        have hl := hN_lt hh
        have := I.len
        exact I.P n v ⟨hn.1, by simp only at *; omega⟩ hk hh
      S := fun n v hn hk hh hb => by
        simp only [hN_snoc] at hh hb ⊢
        have hl := hN_lt hh
        have := I.len
        exact I.S n v ⟨hn.1, by simp only at *; omega⟩ hk hh hb }
  obtain ⟨I2, _, u2⟩ := I1.ma (m := p + 1) (Nat.le_refl _) (by omega)
  exact ⟨I2.relax (fun n _ _ h => absurd h.1 h.2) (fun _ _ _ h => .inl h) (fun _ _ _ h => .inl h), fun n hn => u2 n (by rw [hN_snoc]; exact hn)⟩
/-- At the beginning. -/
theorem Inv.start (hw : Wf ts) (K : Nat → Prop) : Inv ts 0 K [[]] no no no ([true], []) :=
  { wf := hw, len := rfl, pl := Nat.zero_le _, ul := rfl, h0 := rfl
    sound := fun n h => by have := hN_lt h; simp at this; subst this; exact .zero
    todo := fun n h => by simp at h
    cnt := by simp
    uses := fun n t h => by have := hw.parts h.1; have := h.2; omega
    usr := fun q m h => by cases q <;> simp at h
    usn := fun q => by cases q <;> simp
    M := fun n t h => by have := hw.parts h.1; have := h.2; omega
    P := fun n t h => by have := hw.parts h.1; have := h.2; omega
    S := fun n t h => by have := hw.parts h.1; have := h.2; omega }
end

/-! ### The document's way -/
/-- Does a term follow, in the document's list? (0: there is none.) -/
def rN (L : List Bool) (n : Nat) : Bool := decide (n = 0) || hN L n
def mkR (ts : List TermR) (L : List Bool) (n : Nat) : Bool := match atN ts n with
  | some t => if t.kind = 2 then true else if t.kind = 1 then false else rN L t.a.toNat && rN L t.b.toNat
  | none => false
/-- What a term gives away: the list then; has something come? -/
def gvR (ts : List TermR) (L : List Bool) (n : Nat) : List Bool × Bool := match atN ts n with
  | some t => if t.kind = 3 then ((L.set t.a.toNat true).set t.b.toNat true, !hN L t.a.toNat || !hN L t.b.toNat) else if t.kind = 6 then (if hN L (byN ts t.a.toNat) = true then (L.set t.b.toNat true, !hN L t.b.toNat) else (L, false)) else (L, false)
  | none => (L, false)
def m1R (ts : List TermR) (s : List Bool × Bool) (n : Nat) : List Bool × Bool := if hN s.1 n = false ∧ mkR ts s.1 n = true then (s.1.set n true, true) else s
def stR (ts : List TermR) (s : List Bool × Bool) (n : Nat) : List Bool × Bool :=
  if hN (m1R ts s n).1 n = true then ((gvR ts (m1R ts s n).1 n).1, (gvR ts (m1R ts s n).1 n).2 || (m1R ts s n).2) else m1R ts s n
/-- The document's list: what follows, alone. -/
structure InvR (ts : List TermR) (K : Nat → Prop) (L : List Bool) : Prop where
  wf : Wf ts
  len : L.length = ts.length + 1
  z : hN L 0 = false
  sound : ∀ n, hN L n = true → Der ts K n
/-- A term has nothing more to tell. -/
def ClR (ts : List TermR) (L : List Bool) (n : Nat) : Prop := (mkR ts L n = true → hN L n = true) ∧ (hN L n = true → (gvR ts L n).2 = false)
section
variable {ts : List TermR} {K : Nat → Prop} {L : List Bool} {m : Bool}
theorem set_same {L : List Bool} {x : Nat} (h : hN L x = true) : L.set x true = L := by
  apply List.ext_getElem?
  intro i
  rw [List.getElem?_set]
  split
  · rename_i e; subst e
    have hl := hN_lt h
    rw [if_pos hl]
    unfold hN at h
    rw [List.getD_eq_getElem?_getD, List.getElem?_eq_getElem hl] at h
    rw [List.getElem?_eq_getElem hl]; simp at h; rw [h]
  · rfl
theorem InvR.set (I : InvR ts K L) {x : Nat} (h0 : 0 < x) (hx : x ≤ ts.length) (hd : Der ts K x) : InvR ts K (L.set x true) := by
  have hl : x < L.length := by rw [I.len]; omega
  refine ⟨I.wf, by rw [List.length_set, I.len], by rw [hN_set hl, if_neg (by omega)]; exact I.z, fun n h => ?_⟩
  rw [hN_set hl] at h
  split at h
  · rename_i e; rw [e]; exact hd
  · exact I.sound n h
theorem cnt_le {L : List Bool} {x : Nat} (hl : x < L.length) : (L.set x true).count false ≤ L.count false ∧ (hN L x = false → (L.set x true).count false < L.count false) := by
  by_cases h : hN L x = true
  · rw [set_same h]; exact ⟨Nat.le_refl _, fun h' => by rw [h] at h'; cases h'⟩
  · have := (cnt_set hl (by simpa using h)).2
    exact ⟨by omega, fun _ => by omega⟩
theorem InvR.at (_ : InvR ts K L) {n : Nat} (h0 : 0 < n) (hn : n ≤ ts.length) : ∃ t, atN ts n = some t := by
  unfold atN; rw [if_neg (by omega)]
  exact ⟨_, List.getElem?_eq_getElem (by omega)⟩
theorem InvR.rn (I : InvR ts K L) {n : Nat} (h : rN L n = true) : Der ts K n := by
  unfold rN at h
  rw [Bool.or_eq_true, decide_eq_true_eq] at h
  rcases h with rfl | h
  · exact .zero
  · exact I.sound n h
theorem InvR.m1 (I : InvR ts K L) {n : Nat} (h0 : 0 < n) (hn : n ≤ ts.length) : InvR ts K (m1R ts (L, m) n).1 ∧ (∀ x, hN L x = true → hN (m1R ts (L, m) n).1 x = true) ∧ (m = true → (m1R ts (L, m) n).2 = true) ∧
    ((m1R ts (L, m) n).2 = false → (m1R ts (L, m) n).1 = L) ∧ ((m1R ts (L, m) n).2 = true → m = true ∨ (m1R ts (L, m) n).1.count false < L.count false) ∧ (m1R ts (L, m) n).1.count false ≤ L.count false ∧ ((m1R ts (L, m) n).2 = false → mkR ts L n = true → hN L n = true) := by
  obtain ⟨t, ht⟩ := I.at h0 hn
  have hl : n < L.length := by rw [I.len]; omega
  unfold m1R
  split
  · rename_i h
    have hd : Der ts K n := by
      have h2 := h.2
      unfold mkR at h2
      rw [ht] at h2
      simp only at h2
      split at h2
      · rename_i hk; exact .data ht hk
      split at h2
      · cases h2
      · rename_i hk2 hk1
        rw [Bool.and_eq_true] at h2
        exact .made ht hk1 hk2 (I.rn h2.1) (I.rn h2.2)
    refine ⟨I.set h0 hn hd, fun x hx => by rw [hN_set hl]; split <;> simp_all, fun _ => rfl, fun h => (by cases h), fun _ => .inr ((cnt_le hl).2 h.1), (cnt_le hl).1, fun h => by cases h⟩
  · rename_i h
    refine ⟨I, fun _ h => h, fun h => h, fun _ => rfl, fun h => .inl h, Nat.le_refl _, fun _ hm => ?_⟩
    simp only at h
    by_cases e : hN L n = true
    · exact e
    · exact absurd ⟨by simpa using e, hm⟩ h
theorem InvR.gv (I : InvR ts K L) {n : Nat} (h0 : 0 < n) (hn : n ≤ ts.length) (hh : hN L n = true) : InvR ts K (gvR ts L n).1 ∧ (∀ x, hN L x = true → hN (gvR ts L n).1 x = true) ∧ ((gvR ts L n).2 = false → (gvR ts L n).1 = L) ∧
    ((gvR ts L n).2 = true → (gvR ts L n).1.count false < L.count false) ∧ (gvR ts L n).1.count false ≤ L.count false := by
  obtain ⟨t, ht⟩ := I.at h0 hn
  have hp := I.wf.parts ht
  have e : gvR ts L n = if t.kind = 3 then ((L.set t.a.toNat true).set t.b.toNat true, !hN L t.a.toNat || !hN L t.b.toNat) else if t.kind = 6 then (if hN L (byN ts t.a.toNat) = true then (L.set t.b.toNat true, !hN L t.b.toNat) else (L, false)) else (L, false) := by
    unfold gvR; rw [ht]
  have up : ∀ {L : List Bool} {x y : Nat}, x < L.length → hN L y = true → hN (L.set x true) y = true := fun hl h => by rw [hN_set hl]; split <;> simp_all
  rw [e]
  split
  · rename_i h3
    have hla : t.a.toNat < L.length := by rw [I.len]; omega
    have I1 := I.set (x := t.a.toNat) (by omega) (by omega) (.fst ht h3 (I.sound n hh))
    have hlb : t.b.toNat < (L.set t.a.toNat true).length := by rw [I1.len]; omega
    have I2 := I1.set (x := t.b.toNat) (by omega) (by omega) (.snd ht h3 (I.sound n hh))
    refine ⟨I2, fun x hx => up hlb (up hla hx), fun h => ?_, fun h => ?_, Nat.le_trans (cnt_le hlb).1 (cnt_le hla).1⟩
    · simp only [Bool.or_eq_false_iff, Bool.not_eq_false'] at h
      simp only [set_same h.1, set_same h.2]
    · simp only [Bool.or_eq_true, Bool.not_eq_true'] at h
      by_cases ha : hN L t.a.toNat = true
      · simp only [set_same ha]
        refine (cnt_le (by rw [I.len]; omega)).2 ?_
        rcases h with h | h
        · rw [ha] at h; cases h
        · exact h
      · exact Nat.lt_of_le_of_lt (cnt_le hlb).1 ((cnt_le hla).2 (by simpa using ha))
  split
  · rename_i h3 h6
    split
    · rename_i hb
      have hlb : t.b.toNat < L.length := by rw [I.len]; omega
      refine ⟨I.set (x := t.b.toNat) (by omega) (by omega) (.opn ht h6 (I.sound n hh) (I.sound _ hb)), fun x hx => up hlb hx, fun h => ?_, fun h => ?_, (cnt_le hlb).1⟩
      · simp only [Bool.not_eq_false'] at h
        exact set_same h
      · simp only [Bool.not_eq_true'] at h
        exact (cnt_le hlb).2 h
    · exact ⟨I, fun _ h => h, fun _ => rfl, fun h => (by cases h), Nat.le_refl _⟩
  · exact ⟨I, fun _ h => h, fun _ => rfl, fun h => (by cases h), Nat.le_refl _⟩
theorem InvR.st (I : InvR ts K L) {n : Nat} (h0 : 0 < n) (hn : n ≤ ts.length) : InvR ts K (stR ts (L, m) n).1 ∧ (∀ x, hN L x = true → hN (stR ts (L, m) n).1 x = true) ∧ ((stR ts (L, m) n).2 = false → (stR ts (L, m) n).1 = L ∧ m = false ∧ ClR ts L n) ∧
    ((stR ts (L, m) n).2 = true → m = true ∨ (stR ts (L, m) n).1.count false < L.count false) ∧ (stR ts (L, m) n).1.count false ≤ L.count false := by
  obtain ⟨J, u1, k1, k2, k3, k4, k5⟩ := I.m1 (m := m) h0 hn
  unfold stR
  split
  · rename_i hh
    obtain ⟨J2, u2, g1, g2, g3⟩ := J.gv h0 hn hh
    refine ⟨J2, fun x hx => u2 x (u1 x hx), fun h => ?_, fun h => ?_, Nat.le_trans g3 k4⟩
    · simp only [Bool.or_eq_false_iff] at h
      have e := k2 h.2
      refine ⟨(g1 h.1).trans e, ?_, k5 h.2, fun _ => ?_⟩
      · cases m with
        | false => rfl
        | true => rw [k1 rfl] at h; cases h.2
      · have := h.1; rw [e] at this; exact this
    · simp only [Bool.or_eq_true] at h
      rcases h with h | h
      · exact .inr (Nat.lt_of_lt_of_le (g2 h) k4)
      · rcases k3 h with h | h
        · exact .inl h
        · exact .inr (Nat.lt_of_le_of_lt g3 h)
  · rename_i hh
    refine ⟨J, u1, fun h => ⟨k2 h, ?_, k5 h, fun h' => ?_⟩, k3, k4⟩
    · cases m with
      | false => rfl
      | true => rw [k1 rfl] at h; cases h
    · rw [k2 h] at hh; exact absurd h' hh
/-- Closed all over: just what follows. -/
theorem InvR.done (I : InvR ts K L) (hc : ∀ n, 0 < n → n ≤ ts.length → ClR ts L n) (hK : ∀ n, K n → hN L n = true) {n : Nat} (h0 : 0 < n) : hN L n = true ↔ Der ts K n := by
  refine ⟨I.sound n, fun hd => ?_⟩
  have key : rN L n = true := by
    have rin : ∀ {n}, hN L n = true → rN L n = true := fun h => by unfold rN; rw [h, Bool.or_true]
    have out : ∀ {n}, 0 < n → rN L n = true → hN L n = true := fun h0 h => by
      unfold rN at h; rw [Bool.or_eq_true, decide_eq_true_eq] at h; rcases h with h | h
      · omega
      · exact h
    have inr : ∀ {n t}, atN ts n = some t → 0 < n ∧ n ≤ ts.length := fun h => by have := I.wf.parts h; omega
    refine hd.least (S := fun n => rN L n = true) ⟨by unfold rN; rfl, fun n t ht hk => ?_, fun n t ht h1 h2 ha hb => ?_, fun n t ht hk hh => ?_, fun n t ht hk hh => ?_, fun n t ht hk hh hb => ?_⟩ (fun n h => rin (hK n h))
    · exact rin ((hc n (inr ht).1 (inr ht).2).1 (by unfold mkR; rw [ht]; simp only; rw [if_pos hk]))
    · exact rin ((hc n (inr ht).1 (inr ht).2).1 (by unfold mkR; rw [ht]; simp only; rw [if_neg h2, if_neg h1, ha, hb]; rfl))
    · have := (hc n (inr ht).1 (inr ht).2).2 (out (inr ht).1 hh)
      unfold gvR at this; rw [ht] at this; simp only [if_pos hk, Bool.or_eq_false_iff, Bool.not_eq_false'] at this
      exact rin this.1
    · have := (hc n (inr ht).1 (inr ht).2).2 (out (inr ht).1 hh)
      unfold gvR at this; rw [ht] at this; simp only [if_pos hk, Bool.or_eq_false_iff, Bool.not_eq_false'] at this
      exact rin this.2
    · have h1 := (hc n (inr ht).1 (inr ht).2).2 (out (inr ht).1 hh)
      have hp := I.wf.parts ht
      have hb0 : 0 < byN ts t.a.toNat := by
        unfold byN; split
        · rename_i k hk'
          have := I.wf.parts hk'
          split
          · omega
          · omega
        · omega
      unfold gvR at h1; rw [ht] at h1; simp only at h1
      rw [if_neg (by omega), if_pos hk, if_pos (out hb0 hb)] at h1
      simp only [Bool.not_eq_false'] at h1
      exact rin h1
  unfold rN at key
  rw [Bool.or_eq_true, decide_eq_true_eq] at key
  rcases key with h | h
  · omega
  · exact h
end
end Go.Dd
