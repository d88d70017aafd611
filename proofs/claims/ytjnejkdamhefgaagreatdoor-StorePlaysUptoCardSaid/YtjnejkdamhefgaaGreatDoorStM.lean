/- A part of the proof. -/
import Derived.Test.YtjnejkdamhefgaaGreatDoorWrO
import Derived.Sort.Walk0
import Derived.Sort.KeysCollected
namespace Go.St
open Go Go.SL Go.Wr
set_option linter.unusedVariables false
structure PairR where
 n : ByteArray
 t : ByteArray
 g : Bool
def pairCells (p : PairR) : List Value := [.string p.n, .string p.t, .bool p.g]
def ltS (a b : ByteArray) : Prop := a.data.toList < b.data.toList
instance (a b : ByteArray) : Decidable (ltS a b) := inferInstanceAs (Decidable (a.data.toList < b.data.toList))
theorem ltS_irrefl (a : ByteArray) : ¬ ltS a a := List.lt_irrefl _
theorem ltS_trans {a b c : ByteArray} (h : ltS a b) (h' : ltS b c) : ltS a c := List.lt_trans h h'
theorem ltS_total {a b : ByteArray} (h : ¬ ltS a b) (hne : a ≠ b) : ltS b a := by
 have h1 : b.data.toList ≤ a.data.toList := h
 rcases List.le_iff_lt_or_eq.1 h1 with h2 | h2
 · exact h2
 · exact absurd (ByteArray.ext (Array.ext' h2.symm)) hne
theorem leq_eq (a b : ByteArray) : (Op.bytesLess a.toList b.toList || a.toList == b.toList) = decide (¬ ltS b a) := by
  rw [Go.Proofs.bytesLess_eq, Lib.toList_data, Lib.toList_data]
  by_cases h : ltS b a
  · have e : decide (¬ ltS b a) = false := decide_eq_false (fun hn => hn h)
    have h1 : ¬ a.data.toList < b.data.toList := fun h2 => List.lt_asymm h h2
    have h2 : a.data.toList ≠ b.data.toList := fun e => List.lt_irrefl b.data.toList (by have h' : b.data.toList < a.data.toList := h; rw [e] at h'; exact h')
    rw [e, decide_eq_false h1, Bool.false_or]
    exact beq_eq_false_iff_ne.2 h2
  · have e : decide (¬ ltS b a) = true := decide_eq_true h
    rw [e]
    rcases List.le_iff_lt_or_eq.1 (show a.data.toList ≤ b.data.toList from h) with h1 | h1
    · rw [decide_eq_true h1]; rfl
    · rw [beq_iff_eq.2 h1, Bool.or_true]
theorem leq_lt {a b : ByteArray} (h : ltS b a) : (Op.bytesLess a.toList b.toList || a.toList == b.toList) = false := by rw [leq_eq]; exact decide_eq_false (fun hn => hn h)
theorem leq_ge {a b : ByteArray} (h : ¬ ltS b a) : (Op.bytesLess a.toList b.toList || a.toList == b.toList) = true := by rw [leq_eq]; exact decide_eq_true h
def longP (p : PairR) : Prop := 65536 < p.n.size ∨ 65536 < p.t.size
instance (p : PairR) : Decidable (longP p) := inferInstanceAs (Decidable (_ ∨ _))
def wrongP : Option ByteArray → List PairR → Int
 | _, [] => 0
 | prev, p :: l => if longP p then 3 else if p.g = true ∨ (∃ q, prev = some q ∧ ¬ ltS q p.n) then 1 else wrongP (some p.n) l
def bytesP (l : List PairR) : List UInt8 := l.flatMap fun p => (textW p.n).2 ++ (textW p.t).2
def packP (l : List PairR) : ByteArray × Int :=
 if 256 < l.length then (⟨#[]⟩, 3) else if wrongP none l = 0 then (ba (enc (zz (l.length : Int)) ++ bytesP l), 0) else (⟨#[]⟩, wrongP none l)
def readP (s : ByteArray) : Nat → Option ByteArray → Nat → Option (List PairR × Nat)
 | 0, _, a => some ([], a)
 | n + 1, prev, a => match takeText s a with
  | none => none
  | some (x, b) => match takeText s b with
   | none => none
   | some (t, c) => if ∃ q, prev = some q ∧ ¬ ltS q x then none else (readP s n (some x) c).map fun r => (⟨x, t, false⟩ :: r.1, r.2)
def unpackP (s : ByteArray) : Option (List PairR) := match takeList s 0 with
 | none => none
 | some (n, a) => if 256 < n then none else match readP s n none a with
  | none => none
  | some (l, b) => if b = s.size then some l else none
theorem wrongP_cons {prev : Option ByteArray} {p : PairR} {l : List PairR} (h : wrongP prev (p :: l) = 0) : ¬ longP p ∧ p.g = false ∧ (∀ q, prev = some q → ltS q p.n) ∧ wrongP (some p.n) l = 0 := by
 unfold wrongP at h
 split at h
 · cases h
 rename_i h1
 split at h
 · cases h
 rename_i h2
 refine ⟨h1, ?_, fun q hq => Classical.byContradiction fun hn => h2 (.inr ⟨q, hq, hn⟩), h⟩
 cases hg : p.g
 · rfl
 · exact absurd (.inl hg) h2
theorem takeText_enc {s : ByteArray} {a b : Nat} {t : ByteArray} (h : takeText s a = some (t, b)) : (s.data.toList.drop a).take (b - a) = (textW t).2 ∧ t.size ≤ 65536 ∧ a < b ∧ b ≤ s.size := by
  unfold takeText at h
  rcases hp : takeList s a with _ | p
  · rw [hp] at h; cases h
  rw [hp] at h
  simp only at h
  split at h
  · rename_i hn
    have h1 := takeList_enc hp
    have h2 := takeList_le hp
    have hsz : (s.extract p.2 (p.2 + p.1)).size = p.1 := by rw [ByteArray.size_extract]; omega
    simp only [Option.some.injEq, Prod.mk.injEq] at h
    obtain ⟨rfl, rfl⟩ := h
    refine ⟨?_, by omega, by omega, hn⟩
    rw [textW, if_neg (by omega), hsz, ← h1, Lib.extract_data, show p.2 + p.1 - a = (p.2 - a) + p.1 by omega, List.take_add, List.drop_drop, show p.2 + p.1 - p.2 = p.1 by omega, show a + (p.2 - a) = p.2 by omega]
  · cases h
theorem take_more {l x : List UInt8} {a b c : Nat} (h1 : (l.drop a).take (b - a) = x) (hab : a ≤ b) (hbc : b ≤ c) : (l.drop a).take (c - a) = x ++ (l.drop b).take (c - b) := by
 rw [show c - a = (b - a) + (c - b) by omega, List.take_add, h1, List.drop_drop, show a + (b - a) = b by omega]
theorem readP_enc {s : ByteArray} : ∀ {n : Nat} {prev : Option ByteArray} {a b : Nat} {l : List PairR}, readP s n prev a = some (l, b) → l.length = n ∧ wrongP prev l = 0 ∧ a ≤ b ∧ (a ≤ s.size → b ≤ s.size) ∧ (s.data.toList.drop a).take (b - a) = bytesP l
  | 0, prev, a, b, l, h => by
    unfold readP at h
    simp only [Option.some.injEq, Prod.mk.injEq] at h
    obtain ⟨rfl, rfl⟩ := h
    exact ⟨rfl, rfl, Nat.le_refl _, fun h => h, by rw [Nat.sub_self]; rfl⟩
  | n + 1, prev, a, b, l, h => by
    unfold readP at h
    rcases h1 : takeText s a with _ | ⟨x, c⟩
    · rw [h1] at h; cases h
    rw [h1] at h
    simp only at h
    rcases h2 : takeText s c with _ | ⟨t, d⟩
    · rw [h2] at h; cases h
    rw [h2] at h
    simp only at h
    split at h
    · cases h
    rename_i hno
    rcases h3 : readP s n (some x) d with _ | ⟨l', b'⟩
    · rw [h3] at h; cases h
    rw [h3] at h
    simp only [Option.map_some, Option.some.injEq, Prod.mk.injEq] at h
    obtain ⟨rfl, rfl⟩ := h
    obtain ⟨g1, g2, g3, g4, g5⟩ := readP_enc h3
    obtain ⟨e1, e2, e3, e4⟩ := takeText_enc h1
    obtain ⟨f1, f2, f3, f4⟩ := takeText_enc h2
    refine ⟨by rw [List.length_cons, g1], ?_, by omega, fun _ => g4 f4, ?_⟩
    · unfold wrongP
      rw [if_neg (by unfold longP; simp only; omega), if_neg (by
        rintro (h | ⟨q, hq, hn⟩)
        · cases h
        · exact hno ⟨q, hq, hn⟩)]
      exact g2
    · have e : bytesP (⟨x, t, false⟩ :: l') = (textW x).2 ++ ((textW t).2 ++ bytesP l') := by unfold bytesP; rw [List.flatMap_cons, List.append_assoc]
      rw [e, take_more e1 (by omega) (by omega), take_more f1 (by omega) g3, g5]
theorem pack_unpack {s : ByteArray} {l : List PairR} (h : unpackP s = some l) : packP l = (s, 0) := by
  unfold unpackP at h
  rcases h1 : takeList s 0 with _ | ⟨n, a⟩
  · rw [h1] at h; cases h
  rw [h1] at h
  simp only at h
  split at h
  · cases h
  rename_i hn
  rcases h2 : readP s n none a with _ | ⟨l', b⟩
  · rw [h2] at h; cases h
  rw [h2] at h
  simp only at h
  split at h
  · rename_i hb
    simp only [Option.some.injEq] at h
    subst h
    obtain ⟨g1, g2, g3, g4, g5⟩ := readP_enc h2
    have e1 := takeList_enc h1
    have e2 := takeList_le h1
    simp only at e1 e2
    unfold packP
    rw [if_neg (by omega), if_pos g2, g1]
    refine Prod.ext ?_ rfl
    show ba (enc (zz (n : Int)) ++ bytesP l') = s
    rw [← g5, ← e1, List.drop_zero, Nat.sub_zero, hb]
    have := take_more (l := s.data.toList) (a := 0) (b := a) (c := s.size) rfl (Nat.zero_le _) (by omega)
    rw [List.drop_zero, Nat.sub_zero, Nat.sub_zero] at this
    rw [← this, List.take_of_length_le (by rw [size_list]; exact Nat.le_refl _)]
    exact ba_list s
  · cases h
abbrev AL := List (ByteArray × ByteArray)
def keysA (T : AL) : List ByteArray := T.map (·.1)
def getA (T : AL) (n : ByteArray) : Option ByteArray := (T.find? fun p => decide (p.1 = n)).map (·.2)
def putA (n t : ByteArray) : AL → AL
 | [] => [(n, t)]
 | p :: T => if p.1 = n then (n, t) :: T else p :: putA n t T
def delA (n : ByteArray) (T : AL) : AL := T.filter fun p => decide (p.1 ≠ n)
theorem getA_cons (p : ByteArray × ByteArray) (T : AL) (n : ByteArray) : getA (p :: T) n = if p.1 = n then some p.2 else getA T n := by
 unfold getA
 rw [List.find?_cons]
 by_cases h : p.1 = n
 · rw [if_pos h, decide_eq_true h]; rfl
 · rw [if_neg h, decide_eq_false h]
theorem getA_put (n t m : ByteArray) : ∀ T : AL, getA (putA n t T) m = if m = n then some t else getA T m
  | [] => by
    unfold putA; rw [getA_cons]
    by_cases h : n = m
    · rw [if_pos h, if_pos h.symm]
    · rw [if_neg h, if_neg (fun e => h e.symm)]
  | p :: T => by
    unfold putA
    by_cases hp : p.1 = n
    · rw [if_pos hp, getA_cons, getA_cons]
      by_cases h : n = m
      · rw [if_pos h, if_pos h.symm]
      · rw [if_neg h, if_neg (fun e => h e.symm), if_neg (fun e => h (hp.symm.trans e))]
    · rw [if_neg hp, getA_cons, getA_cons, getA_put n t m T]
      by_cases h : p.1 = m
      · rw [if_pos h, if_pos h, if_neg (fun e => hp (h.trans e))]
      · rw [if_neg h, if_neg h]
theorem getA_del (n m : ByteArray) : ∀ T : AL, getA (delA n T) m = if m = n then none else getA T m
  | [] => by unfold delA getA; split <;> rfl
  | p :: T => by
    have ih := getA_del n m T
    unfold delA at ih ⊢
    rw [List.filter_cons]
    by_cases hp : p.1 = n
    · rw [if_neg (by simp [hp]), ih, getA_cons]
      by_cases h : m = n
      · rw [if_pos h, if_pos h]
      · rw [if_neg h, if_neg h, if_neg (fun e => h (e.symm.trans hp))]
    · rw [if_pos (by simp [hp]), getA_cons, getA_cons, ih]
      by_cases h : p.1 = m
      · rw [if_pos h, if_pos h, if_neg (fun e => hp (h.trans e))]
      · rw [if_neg h, if_neg h]
theorem keysA_put_mem (n t : ByteArray) : ∀ {T : AL}, n ∈ keysA T → keysA (putA n t T) = keysA T
  | [], h => by cases h
  | p :: T, h => by
    unfold putA
    by_cases hp : p.1 = n
    · rw [if_pos hp]; unfold keysA; rw [List.map_cons, List.map_cons, hp]
    · rw [if_neg hp]
      have h' : n ∈ keysA T := by
        unfold keysA at h ⊢
        rw [List.map_cons, List.mem_cons] at h
        exact h.resolve_left fun e => hp e.symm
      have ih := keysA_put_mem n t h'
      unfold keysA at ih ⊢
      rw [List.map_cons, List.map_cons, ih]
theorem putA_new (n t : ByteArray) : ∀ {T : AL}, n ∉ keysA T → putA n t T = T ++ [(n, t)]
 | [], _ => rfl
 | p :: T, h => by
  unfold keysA at h
  rw [List.map_cons, List.mem_cons, not_or] at h
  unfold putA
  rw [if_neg (fun e => h.1 e.symm), putA_new n t h.2]; rfl
theorem keysA_put (n t : ByteArray) {T : AL} (h : (keysA T).Nodup) : (keysA (putA n t T)).Nodup := by
  by_cases hm : n ∈ keysA T
  · rw [keysA_put_mem n t hm]; exact h
  · rw [putA_new n t hm]
    unfold keysA at *
    rw [List.map_append]
    refine List.nodup_append.2 ⟨h, by simp, fun a ha b hb => ?_⟩
    rw [List.map_singleton, List.mem_singleton] at hb
    subst hb
    exact fun e => hm (e ▸ ha)
theorem keysA_del (n : ByteArray) {T : AL} (h : (keysA T).Nodup) : (keysA (delA n T)).Nodup := h.sublist (List.filter_sublist.map _)
theorem getA_mem {T : AL} (h : (keysA T).Nodup) {n t : ByteArray} : getA T n = some t ↔ (n, t) ∈ T := by
  induction T with
  | nil => exact ⟨fun h => (by cases h), fun h => (by cases h)⟩
  | cons p T ih =>
    unfold keysA at h
    rw [List.map_cons, List.nodup_cons] at h
    rw [getA_cons]
    by_cases hp : p.1 = n
    · rw [if_pos hp]
      subst hp
      constructor
      · intro e; rw [← Option.some.inj e]; exact List.mem_cons_self
      · intro hm
        rcases List.mem_cons.1 hm with e | hm
        · rw [← e]
        · exact absurd (List.mem_map.2 ⟨_, hm, rfl⟩) h.1
    · rw [if_neg hp, ih h.2, List.mem_cons]
      exact ⟨.inr, fun h => h.resolve_left fun e => hp (by rw [← e])⟩
theorem getA_none {T : AL} {n : ByteArray} : getA T n = none ↔ n ∉ keysA T := by
  unfold getA keysA
  rw [Option.map_eq_none_iff, List.find?_eq_none]
  constructor
  · intro h hm
    obtain ⟨p, hp, rfl⟩ := List.mem_map.1 hm
    exact h p hp (decide_eq_true rfl)
  · intro h p hp he
    exact h (List.mem_map.2 ⟨p, hp, of_decide_eq_true he⟩)
abbrev leL (x y : List UInt8) : Bool := decide (x ≤ y)
def namesA (T : AL) : List (List UInt8) := ((keysA T).map fun n => n.data.toList).mergeSort leL
def allA (T : AL) : List PairR := (namesA T).map fun n => ⟨ba n, (getA T (ba n)).getD ⟨#[]⟩, false⟩
theorem leL_trans : ∀ a b c : List UInt8, leL a b = true → leL b c = true → leL a c = true := fun a b c h1 h2 => by simp only [leL, decide_eq_true_eq] at *; exact List.le_trans h1 h2
theorem leL_total : ∀ a b : List UInt8, (leL a b || leL b a) = true := fun a b => by simp only [leL, Bool.or_eq_true, decide_eq_true_eq]; exact List.le_total a b
theorem namesA_mem {T : AL} {x : List UInt8} : x ∈ namesA T ↔ ba x ∈ keysA T := by
 unfold namesA
 rw [(List.mergeSort_perm _ _).mem_iff, List.mem_map]
 constructor
 · rintro ⟨n, hn, rfl⟩; rw [ba_list]; exact hn
 · intro h; exact ⟨ba x, h, by simp [ba]⟩
theorem namesA_sorted {T : AL} (h : (keysA T).Nodup) : (namesA T).Pairwise (· < ·) := by
 have h1 : (namesA T).Pairwise (fun a b => leL a b = true) := List.pairwise_mergeSort leL_trans leL_total _
 have h2 : (namesA T).Nodup := by
  refine (List.mergeSort_perm _ _).nodup_iff.2 ?_
  refine List.pairwise_map.2 (h.imp fun {a b} hne e => hne ?_)
  exact ByteArray.ext (Array.ext' e)
 refine (h1.and h2).imp fun {a b} hab => ?_
 have hle : a ≤ b := by simpa [leL] using hab.1
 exact (List.le_iff_lt_or_eq.1 hle).resolve_right hab.2
theorem allA_len (T : AL) : (allA T).length = T.length := by
 unfold allA namesA keysA
 rw [List.length_map, List.length_mergeSort, List.length_map, List.length_map]
instance memS (n : ByteArray) (l : List ByteArray) : Decidable (n ∈ l) := decidable_of_iff ((l.any fun m => decide (m = n)) = true) (by simp)
def chgA (T : AL) (met : List ByteArray) : List PairR → Int × AL
 | [] => (0, T)
 | p :: l => if longP p then (3, T) else if p.g = true ∧ p.t ≠ ⟨#[]⟩ then (1, T) else if p.n ∈ met then (13, T) else
  chgA (if p.g = true then delA p.n T else putA p.n p.t T) (met ++ [p.n]) l
theorem flat3P {l : List PairR} : ∀ {k : Nat} {o : PairR}, l[k]? = some o → ∀ j u, (pairCells o)[j]? = some u → (l.flatMap pairCells)[k * 3 + j]? = some u := by
 induction l with
 | nil => intro k o h; cases h
 | cons q l ih =>
  intro k o h j u hj
  rw [List.flatMap_cons]
  have h3 : (pairCells q).length = 3 := rfl
  cases k with
  | zero =>
   simp at h; subst h
   have hl := (List.getElem?_eq_some_iff.1 hj).1
   rw [List.getElem?_append_left (by omega)]; simpa using hj
  | succ k =>
   rw [List.getElem?_append_right (by omega), show (k + 1) * 3 + j - (pairCells q).length = k * 3 + j by omega]
   exact ih (by simpa using h) j u hj
theorem flat_len3P (l : List PairR) : (l.flatMap pairCells).length = l.length * 3 := by
 induction l with
 | nil => rfl
 | cons q l ih => rw [List.flatMap_cons, List.length_append, ih, List.length_cons]; show 3 + _ = _; omega
theorem rdP {W0 : World} {v : Value} {l : List PairR} {k : Nat} {o : PairR} (h : Rd W0 v l.length (l.flatMap pairCells)) (hg : l[k]? = some o) (j : Nat) {u : Value} (hj : (pairCells o)[j]? = some u) : W0.cell? ⟨rb v, ro v + k * 3 + j, none⟩ = some u := by
 have := h.cell _ _ (flat3P hg j u hj); rwa [← Nat.add_assoc] at this
theorem takeP {l : List PairR} {k : Nat} {o : PairR} (h : l[k]? = some o) : l.take (k + 1) = l.take k ++ [o] := by
 obtain ⟨hl, he⟩ := List.getElem?_eq_some_iff.1 h
 rw [List.take_succ_eq_append_getElem hl, he]
theorem bytesP_snoc {l : List PairR} {k : Nat} {o : PairR} (h : l[k]? = some o) : bytesP (l.take (k + 1)) = bytesP (l.take k) ++ ((textW o.n).2 ++ (textW o.t).2) := by
 rw [takeP h]; unfold bytesP; rw [List.flatMap_append]; simp
theorem bytesP_le : ∀ (l : List PairR), (bytesP l).length ≤ l.length * 131092
 | [] => Nat.zero_le _
 | p :: l => by
  have ih := bytesP_le l
  have h1 := textW_len p.n
  have h2 := textW_len p.t
  unfold bytesP at ih ⊢
  rw [List.flatMap_cons, List.length_append, List.length_append, List.length_cons]; omega
theorem bytesP_take (l : List PairR) {k : Nat} (hk : k ≤ 256) : (bytesP (l.take k)).length ≤ 40000000 := by
 have h1 := bytesP_le (l.take k)
 have h2 := List.length_take (i := k) (l := l)
 have h3 : (l.take k).length * 131092 ≤ 256 * 131092 := Nat.mul_le_mul_right _ (by omega)
 omega
def prevP (l : List PairR) : Nat → Option ByteArray
 | 0 => none
 | k + 1 => (l[k]?).map (·.n)
theorem prevP_succ {l : List PairR} {k : Nat} {o : PairR} (h : l[k]? = some o) : prevP l (k + 1) = some o.n := by show (l[k]?).map (·.n) = _; rw [h]; rfl
theorem prevP_pos {l : List PairR} {k : Nat} {q : PairR} (hk : 0 < k) (h : l[k - 1]? = some q) : prevP l k = some q.n := by
 obtain ⟨j, rfl⟩ : ∃ j, k = j + 1 := ⟨k - 1, by omega⟩
 exact prevP_succ h
theorem wrong_at {l : List PairR} {k : Nat} {o : PairR} (h : l[k]? = some o) : l.drop k = o :: l.drop (k + 1) := by
 obtain ⟨hl, he⟩ := List.getElem?_eq_some_iff.1 h
 rw [List.drop_eq_getElem_cons hl, he]
theorem wrong_long {l : List PairR} {k : Nat} {o : PairR} (h : l[k]? = some o) (hl : longP o) : wrongP (prevP l k) (l.drop k) = 3 := by rw [wrong_at h, wrongP, if_pos hl]
theorem wrong_gone {l : List PairR} {k : Nat} {o : PairR} (h : l[k]? = some o) (hl : ¬ longP o) (hg : o.g = true) : wrongP (prevP l k) (l.drop k) = 1 := by rw [wrong_at h, wrongP, if_neg hl, if_pos (.inl hg)]
theorem wrong_ord {l : List PairR} {k : Nat} {o q : PairR} (h : l[k]? = some o) (hl : ¬ longP o) (hk : 0 < k) (hq : l[k - 1]? = some q) (hn : ¬ ltS q.n o.n) : wrongP (prevP l k) (l.drop k) = 1 := by
 rw [wrong_at h, wrongP, if_neg hl, if_pos (.inr ⟨q.n, prevP_pos hk hq, hn⟩)]
theorem wrong_first {l : List PairR} {o : PairR} (h : l[0]? = some o) (hl : ¬ longP o) (hg : o.g = false) : wrongP (prevP l 0) (l.drop 0) = wrongP (prevP l (0 + 1)) (l.drop (0 + 1)) := by
  rw [wrong_at h, wrongP, if_neg hl, if_neg (by
    rintro (h' | ⟨q, hq, _⟩)
    · rw [hg] at h'; cases h'
    · have : (none : Option ByteArray) = some q := hq
      cases this), prevP_succ h]
theorem wrong_next {l : List PairR} {k : Nat} {o q : PairR} (h : l[k]? = some o) (hl : ¬ longP o) (hg : o.g = false) (hk : 0 < k) (hq : l[k - 1]? = some q) (hn : ltS q.n o.n) : wrongP (prevP l k) (l.drop k) = wrongP (prevP l (k + 1)) (l.drop (k + 1)) := by
 rw [wrong_at h, wrongP, if_neg hl, if_neg (by
  rintro (h' | ⟨x, hx, hx'⟩)
  · rw [hg] at h'; cases h'
  · rw [prevP_pos hk hq] at hx; cases hx; exact hx' hn), prevP_succ h]
def unpackL (s : ByteArray) : List PairR := (unpackP s).getD []
def unpackE (s : ByteArray) : Int := if (unpackP s).isSome = true then 0 else 4
def lastN (l : List PairR) : Option ByteArray := (l[l.length - 1]?).map (·.n)
def RelP (s : ByteArray) (n a0 k : Nat) (l : List PairR) (a : Nat) : Prop := readP s n none a0 = (readP s (n - k) (lastN l) a).map fun r => (l ++ r.1, r.2)
theorem RelP.start (s : ByteArray) (n a0 : Nat) : RelP s n a0 0 [] a0 := by
 unfold RelP
 show _ = (readP s (n - 0) none a0).map _
 rw [Nat.sub_zero]
 cases readP s n none a0 <;> rfl
theorem RelP.bad1 {s : ByteArray} {n a0 k a : Nat} {l : List PairR} (h : RelP s n a0 k l a) (hk : k < n) (h1 : takeText s a = none) : readP s n none a0 = none := by
 unfold RelP at h
 rw [show n - k = (n - (k + 1)) + 1 by omega, readP, h1] at h
 exact h
theorem RelP.bad2 {s : ByteArray} {n a0 k a b : Nat} {x : ByteArray} {l : List PairR} (h : RelP s n a0 k l a) (hk : k < n) (h1 : takeText s a = some (x, b)) (h2 : takeText s b = none) : readP s n none a0 = none := by
 unfold RelP at h
 rw [show n - k = (n - (k + 1)) + 1 by omega, readP, h1] at h
 simp only at h
 rw [h2] at h
 exact h
theorem RelP.bad3 {s : ByteArray} {n a0 k a b c : Nat} {x t : ByteArray} {l : List PairR} {q : PairR} (h : RelP s n a0 k l a) (hk : k < n) (h1 : takeText s a = some (x, b)) (h2 : takeText s b = some (t, c)) (hq : l[l.length - 1]? = some q) (hn : ¬ ltS q.n x) : readP s n none a0 = none := by
 unfold RelP at h
 rw [show n - k = (n - (k + 1)) + 1 by omega, readP, h1] at h
 simp only at h
 rw [h2] at h
 simp only at h
 rw [if_pos ⟨q.n, by unfold lastN; rw [hq]; rfl, hn⟩] at h
 exact h
theorem RelP.next {s : ByteArray} {n a0 k a b c : Nat} {x t : ByteArray} {l : List PairR} (h : RelP s n a0 k l a) (hk : k < n) (h1 : takeText s a = some (x, b)) (h2 : takeText s b = some (t, c)) (ho : ∀ q, l[l.length - 1]? = some q → ltS q.n x) : RelP s n a0 (k + 1) (l ++ [⟨x, t, false⟩]) c := by
 unfold RelP at h ⊢
 rw [show n - k = (n - (k + 1)) + 1 by omega, readP, h1] at h
 simp only at h
 rw [h2] at h
 simp only at h
 rw [if_neg (by
  rintro ⟨y, hy, hn⟩
  unfold lastN at hy
  obtain ⟨q, hq, rfl⟩ := Option.map_eq_some_iff.1 hy
  exact hn (ho q hq))] at h
 rw [h, show lastN (l ++ [⟨x, t, false⟩]) = some x from by unfold lastN; simp]
 cases readP s (n - (k + 1)) (some x) c with
 | none => rfl
 | some r => simp
theorem RelP.done {s : ByteArray} {n a0 a : Nat} {l : List PairR} (h : RelP s n a0 n l a) : readP s n none a0 = some (l, a) := by
 unfold RelP at h
 rw [Nat.sub_self, readP] at h
 simpa using h
theorem unpack_head {s : ByteArray} (h : takeList s 0 = none) : unpackP s = none := by unfold unpackP; rw [h]
theorem unpack_many {s : ByteArray} {n a : Nat} (h : takeList s 0 = some (n, a)) (hn : 256 < n) : unpackP s = none := by unfold unpackP; rw [h]; simp only; rw [if_pos hn]
theorem unpack_bad {s : ByteArray} {n a : Nat} (h : takeList s 0 = some (n, a)) (hr : readP s n none a = none) : unpackP s = none := by
 unfold unpackP; rw [h]; simp only; rw [hr]; split <;> rfl
theorem unpack_end {s : ByteArray} {n a b : Nat} {l : List PairR} (h : takeList s 0 = some (n, a)) (hr : readP s n none a = some (l, b)) (hb : b ≠ s.size) : unpackP s = none := by
 unfold unpackP; rw [h]; simp only; rw [hr]; split
 · rfl
 · simp only; rw [if_neg hb]
theorem unpack_ok {s : ByteArray} {n a b : Nat} {l : List PairR} (h : takeList s 0 = some (n, a)) (hn : ¬ 256 < n) (hr : readP s n none a = some (l, b)) (hb : b = s.size) : unpackP s = some l := by
 unfold unpackP; rw [h]; simp only; rw [if_neg hn, hr]; simp only; rw [if_pos hb]
theorem unpackE_none {s : ByteArray} (h : unpackP s = none) : unpackE s = 4 ∧ unpackL s = [] := by unfold unpackE unpackL; rw [h]; exact ⟨rfl, rfl⟩
theorem unpackE_some {s : ByteArray} {l : List PairR} (h : unpackP s = some l) : unpackE s = 0 ∧ unpackL s = l := by unfold unpackE unpackL; rw [h]; exact ⟨rfl, rfl⟩
theorem end_iff {a b : Nat} : (if a = b then (0 : Int) else 4) = 0 ↔ a = b := by
 by_cases h : a = b
 · rw [if_pos h]; exact ⟨fun _ => h, fun _ => rfl⟩
 · rw [if_neg h]; exact ⟨fun e => absurd e (by decide), fun e => absurd e h⟩
theorem takeText_le {s : ByteArray} {a b : Nat} {t : ByteArray} (h : takeText s a = some (t, b)) : b ≤ s.size := (takeText_enc h).2.2.2
def okA (T : AL) : Prop := (keysA T).Nodup ∧ ∀ p ∈ T, p.1.size ≤ 65536 ∧ p.2.size ≤ 65536
def strV (T : AL) : List (Value × Value) := T.map fun p => (.string p.1, .string p.2)
theorem str_inj {a b : ByteArray} (h : Value.string a = Value.string b) : a = b := by injection h
theorem strV_no {T : AL} {n : ByteArray} (h : getA T n = none) : ∀ p ∈ strV T, p.1 ≠ Value.string n := fun p hp e => by
 obtain ⟨q, hq, rfl⟩ := List.mem_map.1 hp
 exact getA_none.1 h (List.mem_map.2 ⟨q, hq, str_inj e⟩)
theorem strV_yes {T : AL} (hT : (keysA T).Nodup) {n t : ByteArray} (h : getA T n = some t) : (Value.string n, Value.string t) ∈ strV T ∧ ∀ v', (Value.string n, v') ∈ strV T → v' = Value.string t := by
 refine ⟨List.mem_map.2 ⟨_, (getA_mem hT).1 h, rfl⟩, fun v' hv => ?_⟩
 obtain ⟨q, hq, e⟩ := List.mem_map.1 hv
 have e1 : q.1 = n := str_inj (congrArg Prod.fst e)
 have e2 : v' = .string q.2 := (congrArg Prod.snd e).symm
 have h2 := (getA_mem hT).2 (show (q.1, q.2) ∈ T from hq)
 rw [e1, h] at h2
 rw [e2, Option.some.inj h2]
theorem keysA_at {T : AL} {n : ByteArray} (h : n ∈ keysA T) : ∃ (j : Nat) (t : ByteArray), T[j]? = some (n, t) := by
 obtain ⟨p, hp, rfl⟩ := List.mem_map.1 h
 obtain ⟨j, hj⟩ := List.mem_iff_getElem?.1 hp
 exact ⟨j, p.2, hj⟩
theorem strV_at {T : AL} {n t : ByteArray} {j : Nat} (h : T[j]? = some (n, t)) : (strV T)[j]? = some (.string n, .string t) := by
 unfold strV; rw [List.getElem?_map, h]; rfl
theorem strV_one {T : AL} (hT : (keysA T).Nodup) {n t : ByteArray} {j : Nat} (h : T[j]? = some (n, t)) : ∀ (k : Nat) (p : Value × Value), (strV T)[k]? = some p → p.1 = .string n → k = j := fun k p hk e => by
 unfold strV at hk
 rw [List.getElem?_map] at hk
 obtain ⟨q, hq, rfl⟩ := Option.map_eq_some_iff.1 hk
 have h1 : (keysA T)[k]? = some n := by unfold keysA; rw [List.getElem?_map, hq]; exact congrArg some (str_inj e)
 have h2 : (keysA T)[j]? = some n := by unfold keysA; rw [List.getElem?_map, h]; rfl
 obtain ⟨l1, e1⟩ := List.getElem?_eq_some_iff.1 h1
 obtain ⟨l2, e2⟩ := List.getElem?_eq_some_iff.1 h2
 exact (List.getElem_inj hT).1 (e1.trans e2.symm)
theorem strV_set (n t : ByteArray) : ∀ {T : AL} {j : Nat} {u : ByteArray}, (keysA T).Nodup → T[j]? = some (n, u) → (strV T).set j (.string n, .string t) = strV (putA n t T)
 | [], j, u, _, h => by simp at h
 | p :: T, 0, u, _, h => by
  simp at h; subst h
  unfold putA strV
  rw [if_pos rfl]; rfl
 | p :: T, j + 1, u, hn, h => by
  have h' : T[j]? = some (n, u) := by simpa using h
  unfold keysA at hn
  rw [List.map_cons, List.nodup_cons] at hn
  have hp : ¬ p.1 = n := fun e => hn.1 (e ▸ List.mem_map.2 ⟨_, List.mem_of_getElem? h', rfl⟩)
  have ih := strV_set n t (T := T) hn.2 h'
  unfold putA
  rw [if_neg hp]
  unfold strV at ih ⊢
  rw [List.map_cons, List.map_cons, List.set_cons_succ, ih]
theorem strV_new {n t : ByteArray} {T : AL} (h : n ∉ keysA T) : strV T ++ [(.string n, .string t)] = strV (putA n t T) := by
 rw [putA_new n t h]; unfold strV; rw [List.map_append]; rfl
theorem strV_del (n : ByteArray) : ∀ {T : AL} {j : Nat} {u : ByteArray}, (keysA T).Nodup → T[j]? = some (n, u) → (strV T).eraseIdx j = strV (delA n T)
 | [], j, u, _, h => by simp at h
 | p :: T, 0, u, hn, h => by
  simp at h; subst h
  unfold keysA at hn
  rw [List.map_cons, List.nodup_cons] at hn
  unfold delA strV
  have hf : T.filter (fun q => decide (q.1 ≠ n)) = T := List.filter_eq_self.2 fun q hq => decide_eq_true fun e => hn.1 (List.mem_map.2 ⟨q, hq, e⟩)
  rw [List.filter_cons, if_neg (by simp), hf]
  rfl
 | p :: T, j + 1, u, hn, h => by
  have h' : T[j]? = some (n, u) := by simpa using h
  unfold keysA at hn
  rw [List.map_cons, List.nodup_cons] at hn
  have hp : p.1 ≠ n := fun e => hn.1 (e ▸ List.mem_map.2 ⟨_, List.mem_of_getElem? h', rfl⟩)
  have ih := strV_del n (T := T) hn.2 h'
  unfold delA at ih ⊢
  rw [List.filter_cons, if_pos (by simp [hp])]
  unfold strV at ih ⊢
  rw [List.map_cons, List.map_cons, List.eraseIdx_cons_succ, ih]
theorem delA_put (n t : ByteArray) : ∀ (T : AL), delA n (putA n t T) = delA n T
  | [] => by unfold putA delA; simp
  | p :: T => by
    have ih := delA_put n t T
    unfold putA
    by_cases hp : p.1 = n
    · rw [if_pos hp]; unfold delA; rw [List.filter_cons, List.filter_cons, if_neg (by simp), if_neg (by simp [hp])]
    · rw [if_neg hp]
      unfold delA at ih ⊢
      rw [List.filter_cons, List.filter_cons, if_pos (by simp [hp]), if_pos (by simp [hp]), ih]
theorem okA_put {T : AL} (h : okA T) {n t : ByteArray} (hn : n.size ≤ 65536) (ht : t.size ≤ 65536) : okA (putA n t T) := by
 refine ⟨keysA_put _ _ h.1, fun p hp => ?_⟩
 have hg := (getA_mem (keysA_put n t h.1)).2 (show (p.1, p.2) ∈ _ from hp)
 rw [getA_put] at hg
 split at hg
 · rename_i e; rw [e, ← Option.some.inj hg]; exact ⟨hn, ht⟩
 · exact h.2 (p.1, p.2) ((getA_mem h.1).1 hg)
theorem okA_del {T : AL} (h : okA T) (n : ByteArray) : okA (delA n T) := ⟨keysA_del _ h.1, fun p hp => h.2 p ((List.mem_filter.1 hp).1)⟩
def metV (m : List ByteArray) : List (Value × Value) := m.map fun n => (.string n, .int .i64 1)
theorem metV_no {m : List ByteArray} {n : ByteArray} (h : n ∉ m) : ∀ p ∈ metV m, p.1 ≠ Value.string n := fun p hp e => by
 obtain ⟨q, hq, rfl⟩ := List.mem_map.1 hp
 exact h (str_inj e ▸ hq)
theorem metV_yes {m : List ByteArray} {n : ByteArray} (h : n ∈ m) : (Value.string n, Value.int .i64 1) ∈ metV m ∧ ∀ v', (Value.string n, v') ∈ metV m → v' = Value.int .i64 1 :=
 ⟨List.mem_map.2 ⟨n, h, rfl⟩, fun v' hv => by obtain ⟨q, _, e⟩ := List.mem_map.1 hv; exact (congrArg Prod.snd e).symm⟩
theorem metV_snoc (m : List ByteArray) (n : ByteArray) : metV (m ++ [n]) = metV m ++ [(.string n, .int .i64 1)] := by unfold metV; rw [List.map_append]; rfl
theorem chg_at {T : AL} {m : List ByteArray} {l : List PairR} {k : Nat} {o : PairR} (h : l[k]? = some o) : chgA T m (l.drop k) = (if longP o then (3, T) else if o.g = true ∧ o.t ≠ ⟨#[]⟩ then (1, T) else if o.n ∈ m then (13, T) else
  chgA (if o.g = true then delA o.n T else putA o.n o.t T) (m ++ [o.n]) (l.drop (k + 1))) := by rw [wrong_at h, chgA]
theorem names_at {T : AL} {i : Nat} {n : List UInt8} (hT : (keysA T).Nodup) (h : (namesA T)[i]? = some n) : ∃ t, getA T (ba n) = some t ∧ (allA T)[i]? = some ⟨ba n, t, false⟩ := by
 have hk := namesA_mem.1 (List.mem_of_getElem? h)
 obtain ⟨t, ht⟩ : ∃ t, getA T (ba n) = some t := by
  cases e : getA T (ba n) with
  | none => exact absurd hk (getA_none.1 e)
  | some t => exact ⟨t, rfl⟩
 refine ⟨t, ht, ?_⟩
 unfold allA
 rw [List.getElem?_map, h, Option.map_some, ht]; rfl
theorem namesA_len (T : AL) : (namesA T).length = T.length := by unfold namesA keysA; rw [List.length_mergeSort, List.length_map, List.length_map]
def aL : List PairR := [⟨⟨#[98]⟩, ⟨#[49]⟩, false⟩, ⟨⟨#[97]⟩, ⟨#[50]⟩, false⟩]
def aT : AL := [(⟨#[98]⟩, ⟨#[49]⟩), (⟨#[97]⟩, ⟨#[50]⟩)]
def aD : List PairR := [⟨⟨#[97]⟩, ⟨#[]⟩, false⟩, ⟨⟨#[97]⟩, ⟨#[]⟩, false⟩]
def aP : List PairR := [⟨⟨#[97]⟩, ⟨#[120, 121]⟩, false⟩]
def aN : List ByteArray := [⟨#[97]⟩, ⟨#[98]⟩]
def aA : ByteArray := ⟨#[4, 2, 97, 2, 50, 2, 98, 2, 49]⟩
theorem a_chg : chgA [] [] aL = (0, aT) := by decide +kernel
theorem a_dup : (chgA aT [] aD).1 = 13 := by decide +kernel
theorem a_ok : okA aT := ⟨by decide +kernel, by decide +kernel⟩
theorem a_get : getA aT ⟨#[97]⟩ = some ⟨#[50]⟩ := by decide +kernel
theorem a_names : namesA aT = [[97], [98]] := by
 have hp : ((keysA aT).map fun n => n.data.toList).Perm [[97], [98]] := List.Perm.swap _ _ _
 unfold namesA
 rw [mergeSort_of_perm hp]
 exact List.mergeSort_of_pairwise (by decide)
theorem a_all : allA aT = [⟨⟨#[97]⟩, ⟨#[50]⟩, false⟩, ⟨⟨#[98]⟩, ⟨#[49]⟩, false⟩] := by
 unfold allA; rw [a_names]; rfl
theorem tw1 (c : UInt8) : (textW ⟨#[c]⟩).2 = [2, c] := by
 have h1 : (⟨#[c]⟩ : ByteArray).size = 1 := rfl
 rw [textW, if_neg (by rw [h1]; decide), h1]
 show enc (zz ((1 : Nat) : Int)) ++ [c] = _
 rw [show zz ((1 : Nat) : Int) = 2 by decide, enc_lt (by decide)]; rfl
theorem tw2 (c d : UInt8) : (textW ⟨#[c, d]⟩).2 = [4, c, d] := by
 have h1 : (⟨#[c, d]⟩ : ByteArray).size = 2 := rfl
 rw [textW, if_neg (by rw [h1]; decide), h1]
 show enc (zz ((2 : Nat) : Int)) ++ [c, d] = _
 rw [show zz ((2 : Nat) : Int) = 4 by decide, enc_lt (by decide)]; rfl
theorem a_pack : packP (allA aT) = (aA, 0) := by
 rw [a_all]
 unfold packP
 rw [if_neg (by decide), if_pos (by decide +kernel)]
 refine Prod.ext ?_ rfl
 show ba (enc (zz ((2 : Nat) : Int)) ++ bytesP _) = aA
 rw [show zz ((2 : Nat) : Int) = 4 by decide, enc_lt (by decide)]
 unfold bytesP
 simp only [List.flatMap_cons, List.flatMap_nil, tw1]
 rfl
theorem a_one : packP aP = (⟨#[2, 2, 97, 4, 120, 121]⟩, 0) := by
 unfold packP
 rw [if_neg (by decide), if_pos (by decide +kernel)]
 refine Prod.ext ?_ rfl
 show ba (enc (zz ((1 : Nat) : Int)) ++ bytesP _) = _
 rw [show zz ((1 : Nat) : Int) = 2 by decide, enc_lt (by decide)]
 unfold bytesP aP
 simp only [List.flatMap_cons, List.flatMap_nil, tw1, tw2]
 rfl
end Go.St
