import Derived.Test.YtkndmgfahghcjaaGreatStM
/- The laws of the store, in plain data. -/
namespace Go.St
open Go Go.SL Go.Wr
set_option linter.unusedVariables false
instance : DecidableEq PairR := fun a b =>
 if h : a.n = b.n ∧ a.t = b.t ∧ a.g = b.g then isTrue (by obtain ⟨n, t, g⟩ := a; obtain ⟨n', t', g'⟩ := b; obtain ⟨h1, h2, h3⟩ := h; simp only at h1 h2 h3; subst h1; subst h2; subst h3; rfl)
 else isFalse (fun e => h (by subst e; exact ⟨rfl, rfl, rfl⟩))
theorem take_eq_snoc {α : Type} {a b : List α} {k : Nat} {x y : α} (h : a.take k = b.take k) (ha : a[k]? = some x) (hb : b[k]? = some y) (e : x = y) : a.take (k + 1) = b.take (k + 1) := by
 subst e
 obtain ⟨h1, e1⟩ := List.getElem?_eq_some_iff.1 ha
 obtain ⟨h2, e2⟩ := List.getElem?_eq_some_iff.1 hb
 rw [List.take_succ_eq_append_getElem h1, List.take_succ_eq_append_getElem h2, h, e1, e2]
theorem ne_at {α : Type} {a b : List α} {k : Nat} {x y : α} (ha : a[k]? = some x) (hb : b[k]? = some y) (e : ¬ x = y) : ¬ a = b := fun h => by
 subst h; rw [ha] at hb; exact e (Option.some.inj hb)
theorem unpack_some {s : ByteArray} (h : unpackE s = 0) : unpackP s = some (unpackL s) := by
 unfold unpackE at h; unfold unpackL
 cases e : unpackP s with
 | none => rw [e] at h; simp at h
 | some l => rfl
theorem unpack_none {s : ByteArray} (h : ¬ unpackE s = 0) : unpackL s = [] := by
 unfold unpackE at h; unfold unpackL
 cases e : unpackP s with
 | none => rfl
 | some l => rw [e] at h; simp at h
/-- What is packed is unpacked as it was. -/
theorem back1 {l : List PairR} (h : (packP l).2 = 0) : unpackE (packP l).1 = 0 ∧ unpackL (packP l).1 = l := unpackE_some (unpack_pack h)
theorem back2 {s : ByteArray} (h : unpackE s = 0) : packP (unpackL s) = (s, 0) := pack_unpack (unpack_some h)
theorem pack_size (l : List PairR) : (packP l).1.size ≤ 9223372036854775807 := by
  unfold packP
  split
  · decide
  rename_i hl
  split
  · have h1 := bytesP_le l
    have h2 := enc_len_le 9 (zz (l.length : Int)) (by have := zz_lt (n := (l.length : Int)) (by omega) (by omega); omega)
    rw [ba_size, List.length_append]
    have h3 : l.length * 131092 ≤ 256 * 131092 := Nat.mul_le_mul_right _ (by omega)
    omega
  · show (⟨#[]⟩ : ByteArray).size ≤ _; decide
theorem readP_sz {s : ByteArray} : ∀ {n : Nat} {prev : Option ByteArray} {a b : Nat} {l : List PairR}, readP s n prev a = some (l, b) → ∀ p ∈ l, ¬ longP p ∧ p.g = false
  | 0, prev, a, b, l, h => by
    unfold readP at h
    simp only [Option.some.injEq, Prod.mk.injEq] at h
    obtain ⟨rfl, rfl⟩ := h
    exact fun p hp => (by cases hp)
  | n + 1, prev, a, b, l, h => by
    unfold readP at h
    rcases h1 : takeText s a with _ | ⟨x, c⟩
    · rw [h1] at h; cases h
    rw [h1] at h
    simp only at h
    rcases h2 : takeText s c with _ | ⟨t, d⟩
    · rw [h2] at h; cases h
    rw [h2] at h
    simp only at h
    split at h
    · cases h
    rcases h3 : readP s n (some x) d with _ | ⟨l', b'⟩
    · rw [h3] at h; cases h
    rw [h3] at h
    simp only [Option.map_some, Option.some.injEq, Prod.mk.injEq] at h
    obtain ⟨rfl, rfl⟩ := h
    intro p hp
    rcases List.mem_cons.1 hp with rfl | hp
    · obtain ⟨e1, e2, e3, e4⟩ := takeText_enc h1
      obtain ⟨f1, f2, f3, f4⟩ := takeText_enc h2
      exact ⟨by unfold longP; simp only; omega, rfl⟩
    · exact readP_sz h3 p hp
theorem unpack_sz {s : ByteArray} : (unpackL s).length ≤ 256 ∧ ∀ p ∈ unpackL s, ¬ longP p ∧ p.g = false := by
  unfold unpackL
  cases e : unpackP s with
  | none => exact ⟨Nat.zero_le _, fun p hp => (by cases hp)⟩
  | some l =>
    rw [Option.getD_some]
    unfold unpackP at e
    rcases h1 : takeList s 0 with _ | ⟨n, a⟩
    · rw [h1] at e; cases e
    rw [h1] at e
    simp only at e
    split at e
    · cases e
    rcases h2 : readP s n none a with _ | ⟨l', b⟩
    · rw [h2] at e; cases e
    rw [h2] at e
    simp only at e
    split at e
    · simp only [Option.some.injEq] at e; subst e
      have := readP_enc h2
      exact ⟨by omega, readP_sz h2⟩
    · cases e
theorem unpack_sz' {s : ByteArray} : ∀ p ∈ unpackL s, p.n.size ≤ 9223372036854775807 ∧ p.t.size ≤ 9223372036854775807 := fun p hp => by
 have := (unpack_sz.2 p hp).1
 unfold longP at this
 omega
/-! ### Names among pairs -/
def namedB (l : List PairR) (n : ByteArray) : Bool := l.any fun p => decide (p.n = n)
def unn (l : List PairR) (p : PairR) : Bool := !namedB l p.n
theorem any_take_no {l : List PairR} {n : ByteArray} {k : Nat} {o : PairR} (h : namedB (l.take k) n = false) (hg : l[k]? = some o) (hn : ¬ o.n = n) : namedB (l.take (k + 1)) n = false := by
 rw [takeP hg]; unfold namedB at *; rw [List.any_append, h]; simp [hn]
theorem named_yes {l : List PairR} {n : ByteArray} {k : Nat} {o : PairR} (hg : l[k]? = some o) (hn : o.n = n) : namedB l n = true :=
 List.any_eq_true.2 ⟨o, List.mem_of_getElem? hg, decide_eq_true hn⟩
theorem filter_yes {f : PairR → Bool} {l : List PairR} {k : Nat} {o : PairR} (hg : l[k]? = some o) (h : f o = true) : (l.take (k + 1)).filter f = (l.take k).filter f ++ [o] := by
 rw [takeP hg, List.filter_append, List.filter_cons, if_pos h]; rfl
theorem filter_no {f : PairR → Bool} {l : List PairR} {k : Nat} {o : PairR} (hg : l[k]? = some o) (h : f o = false) : (l.take (k + 1)).filter f = (l.take k).filter f := by
 rw [takeP hg, List.filter_append, List.filter_cons, if_neg (by rw [h]; decide), List.filter_nil, List.append_nil]
theorem filter_len (f : PairR → Bool) (l : List PairR) (k : Nat) : ((l.take k).filter f).length ≤ l.length := by
 have h1 := List.length_filter_le f (l.take k)
 have h2 := List.length_take (i := k) (l := l)
 omega
/-! ### Changes that are taken -/
/-- Of pairs: fit to be changed. -/
def fitP (met : List ByteArray) (l : List PairR) : Prop := (∀ p ∈ l, ¬ longP p ∧ (p.g = true → p.t = ⟨#[]⟩) ∧ p.n ∉ met) ∧ (l.map (·.n)).Nodup
theorem chgA_fit : ∀ {l : List PairR} {T : AL} {met : List ByteArray}, fitP met l → (chgA T met l).1 = 0
 | [], _, _, _ => rfl
 | p :: l, T, met, h => by
  obtain ⟨h1, h2⟩ := h
  obtain ⟨a1, a2, a3⟩ := h1 p List.mem_cons_self
  rw [List.map_cons, List.nodup_cons] at h2
  unfold chgA
  rw [if_neg a1, if_neg (fun h => h.2 (a2 h.1)), if_neg a3]
  refine chgA_fit ⟨fun q hq => ?_, h2.2⟩
  obtain ⟨b1, b2, b3⟩ := h1 q (List.mem_cons_of_mem _ hq)
  refine ⟨b1, b2, fun hm => ?_⟩
  rcases List.mem_append.1 hm with hm | hm
  · exact b3 hm
  · rw [List.mem_singleton] at hm; exact h2.1 (List.mem_map.2 ⟨q, hq, hm⟩)
theorem fit_chgA {l : List PairR} {T : AL} {met : List ByteArray} (h : (chgA T met l).1 = 0) : fitP met l := ⟨(chgA_get h).1, (chgA_get h).2.1⟩
theorem okA_chg : ∀ {l : List PairR} {T : AL} {met : List ByteArray}, okA T → (chgA T met l).1 = 0 → okA (chgA T met l).2
 | [], _, _, h, _ => h
 | p :: l, T, met, h, h0 => by
  unfold chgA at h0 ⊢
  split at h0
  · cases h0
  rename_i h1
  split at h0
  · cases h0
  rename_i h2
  split at h0
  · cases h0
  rename_i h3
  rw [if_neg h1, if_neg h2, if_neg h3]
  refine okA_chg ?_ h0
  unfold longP at h1
  split
  · exact okA_del h _
  · exact okA_put h (by omega) (by omega)
/-- What a name has behind a change. -/
def askL (l : List PairR) (T : AL) (m : ByteArray) : Option ByteArray := match l.find? fun p => decide (p.n = m) with | some p => if p.g = true then none else some p.t | none => getA T m
theorem chgA_ask {l : List PairR} {T : AL} {met : List ByteArray} (h : (chgA T met l).1 = 0) (m : ByteArray) : getA (chgA T met l).2 m = askL l T m := (chgA_get h).2.2 m
theorem find_of_mem {l : List PairR} (hn : (l.map (·.n)).Nodup) {p : PairR} (hp : p ∈ l) : l.find? (fun q => decide (q.n = p.n)) = some p := by
  induction l with
  | nil => cases hp
  | cons q l ih =>
    rw [List.map_cons, List.nodup_cons] at hn
    rw [List.find?_cons]
    by_cases e : q.n = p.n
    · rw [decide_eq_true e]
      rcases List.mem_cons.1 hp with rfl | hp
      · rfl
      · exact absurd (List.mem_map.2 ⟨p, hp, e.symm⟩) hn.1
    · rw [decide_eq_false e]
      rcases List.mem_cons.1 hp with rfl | hp
      · exact absurd rfl e
      · exact ih hn.2 hp
theorem ask_mem {l : List PairR} (hn : (l.map (·.n)).Nodup) {p : PairR} (hp : p ∈ l) (T : AL) : askL l T p.n = if p.g = true then none else some p.t := by
 unfold askL; rw [find_of_mem hn hp]
theorem named_iff {l : List PairR} {n : ByteArray} : namedB l n = true ↔ ∃ p ∈ l, p.n = n := by
 unfold namedB; rw [List.any_eq_true]
 exact ⟨fun ⟨p, h1, h2⟩ => ⟨p, h1, of_decide_eq_true h2⟩, fun ⟨p, h1, h2⟩ => ⟨p, h1, decide_eq_true h2⟩⟩
theorem ask_not {l : List PairR} {n : ByteArray} (h : namedB l n = false) (T : AL) : askL l T n = getA T n := by
 have : l.find? (fun q => decide (q.n = n)) = none := List.find?_eq_none.2 fun q hq e => by
  have := named_iff.2 ⟨q, hq, of_decide_eq_true e⟩
  rw [h] at this; cases this
 unfold askL; rw [this]
/-- The order of pairs of unlike names makes no difference. -/
theorem ask_perm {l l' : List PairR} (hp : l.Perm l') (hn : (l.map (·.n)).Nodup) (T : AL) (m : ByteArray) : askL l T m = askL l' T m := by
  have hn' : (l'.map (·.n)).Nodup := (hp.map _).nodup_iff.1 hn
  by_cases h : ∃ p ∈ l, p.n = m
  · obtain ⟨p, h1, rfl⟩ := h
    rw [ask_mem hn h1, ask_mem hn' (hp.mem_iff.1 h1)]
  · have h1 : namedB l m = false := Bool.eq_false_iff.2 fun e => h (named_iff.1 e)
    have h2 : namedB l' m = false := Bool.eq_false_iff.2 fun e => h (by obtain ⟨p, a, b⟩ := named_iff.1 e; exact ⟨p, hp.mem_iff.2 a, b⟩)
    rw [ask_not h1, ask_not h2]
theorem fit_perm {met : List ByteArray} {l l' : List PairR} (hp : l.Perm l') (h : fitP met l) : fitP met l' := ⟨fun p hm => h.1 p (hp.mem_iff.2 hm), (hp.map _).nodup_iff.1 h.2⟩
theorem ask_append {l m : List PairR} {T1 T : AL} (h : ∀ n, getA T1 n = askL l T n) (hd : ∀ p ∈ m, namedB l p.n = false) (n : ByteArray) : askL (l ++ m) T n = askL m T1 n := by
  by_cases hm : namedB m n = true
  · obtain ⟨p, h1, rfl⟩ := named_iff.1 hm
    have h2 : l.find? (fun q => decide (q.n = p.n)) = none := List.find?_eq_none.2 fun q hq e => by
      have := named_iff.2 ⟨q, hq, of_decide_eq_true e⟩
      rw [hd p h1] at this; cases this
    cases hf : m.find? (fun q => decide (q.n = p.n)) with
    | none => exact absurd (decide_eq_true rfl) (List.find?_eq_none.1 hf p h1)
    | some q => unfold askL; rw [List.find?_append, h2, hf]; rfl
  · have hm' : namedB m n = false := Bool.eq_false_iff.2 hm
    rw [ask_not hm', h n]
    have h2 : m.find? (fun q => decide (q.n = n)) = none := List.find?_eq_none.2 fun q hq e => hm (named_iff.2 ⟨q, hq, of_decide_eq_true e⟩)
    unfold askL; rw [List.find?_append, h2, Option.or_none]
theorem fit_append {l m : List PairR} (h1 : fitP [] l) (h2 : fitP [] m) (hd : ∀ p ∈ m, namedB l p.n = false) : fitP [] (l ++ m) := by
 refine ⟨fun p hp => (List.mem_append.1 hp).elim (h1.1 p) (h2.1 p), ?_⟩
 rw [List.map_append]
 refine List.nodup_append.2 ⟨h1.2, h2.2, fun a ha b hb e => ?_⟩
 obtain ⟨p, hp, rfl⟩ := List.mem_map.1 ha
 obtain ⟨q, hq, rfl⟩ := List.mem_map.1 hb
 have := named_iff.2 ⟨p, hp, e⟩
 rw [hd q hq] at this; cases this
/-- All pairs but those of some names. -/
theorem rest_all {T T' : AL} {l : List PairR} (h : (keysA T).Nodup) (h' : (keysA T').Nodup) (he : ∀ n, namedB l n = false → getA T n = getA T' n) : (allA T).filter (unn l) = (allA T').filter (unn l) := by
 have fm : ∀ X : AL, (allA X).filter (unn l) = ((namesA X).filter fun n => !namedB l (ba n)).map fun n => (⟨ba n, (getA X (ba n)).getD ⟨#[]⟩, false⟩ : PairR) := fun X => by
  unfold allA; rw [List.filter_map]; rfl
 have hk : ∀ n, namedB l n = false → (n ∈ keysA T ↔ n ∈ keysA T') := fun n hn => by
  have h1 := getA_none (T := T) (n := n)
  have h2 := getA_none (T := T') (n := n)
  rw [he n hn] at h1
  constructor
  · intro hm; exact Classical.byContradiction fun hx => h1.1 (h2.2 hx) hm
  · intro hm; exact Classical.byContradiction fun hx => h2.1 (h1.2 hx) hm
 have hn : ((namesA T).filter fun n => !namedB l (ba n)) = (namesA T').filter fun n => !namedB l (ba n) := by
  have s1 := (namesA_sorted h).filter (fun n => !namedB l (ba n))
  have s2 := (namesA_sorted h').filter (fun n => !namedB l (ba n))
  refine List.Perm.eq_of_pairwise (le := fun a b => a < b) (fun a b _ _ h1 h2 => absurd h2 (List.lt_asymm h1)) s1 s2 ?_
  have n1 := s1.imp (S := fun a b => a ≠ b) fun {a b} hab => fun e => List.lt_irrefl b (by rw [e] at hab; exact hab)
  have n2 := s2.imp (S := fun a b => a ≠ b) fun {a b} hab => fun e => List.lt_irrefl b (by rw [e] at hab; exact hab)
  refine (List.perm_ext_iff_of_nodup n1 n2).2 fun x => ?_
  rw [List.mem_filter, List.mem_filter, namesA_mem, namesA_mem]
  constructor
  · rintro ⟨a, b⟩; exact ⟨(hk _ (by simpa using b)).1 a, b⟩
  · rintro ⟨a, b⟩; exact ⟨(hk _ (by simpa using b)).2 a, b⟩
 rw [fm, fm, hn]
 exact List.map_congr_left fun n hm => by rw [he _ (by simpa using (List.mem_filter.1 hm).2)]
theorem pack_few {l : List PairR} (h : (packP l).2 = 0) : l.length ≤ 256 := by
 unfold packP at h
 split at h
 · cases h
 · omega
end Go.St

