/- The wire: what stands at a place, in plain data. -/
import Derived.Test.YtlbanhhdoiidnaaWrN
namespace Go.Wr
open Go Go.SL

def takeByte (s : ByteArray) (a : Nat) : Option (Nat × Nat) := match s[a]? with
  | some c => some (c.toNat, a + 1)
  | none => none
def takeFlag (s : ByteArray) (a : Nat) : Option (Bool × Nat) := match s[a]? with
  | some c => if c.toNat < 2 then some (decide (c.toNat = 1), a + 1) else none
  | none => none
def takeList (s : ByteArray) (a : Nat) : Option (Nat × Nat) := match takeNum s a with
  | some p => if 0 ≤ p.1 ∧ p.1 ≤ 65536 then some (p.1.toNat, p.2) else none
  | none => none
def takeText (s : ByteArray) (a : Nat) : Option (ByteArray × Nat) := match takeList s a with
  | some p => if p.2 + p.1 ≤ s.size then some (s.extract p.2 (p.2 + p.1), p.2 + p.1) else none
  | none => none
def gv {α : Type} (d : α) : Option (α × Nat) → α
  | some p => p.1
  | none => d
def gn {α : Type} (a : Nat) : Option (α × Nat) → Nat
  | some p => p.2
  | none => a
def ge {α : Type} : Option (α × Nat) → Int
  | some _ => 0
  | none => 4
theorem get_some {s : ByteArray} {i : Nat} (h : i < s.size) : ∃ c, s[i]? = some c := ⟨s[i], getElem?_pos s i h⟩
theorem get_lt {s : ByteArray} {i : Nat} {c : UInt8} (h : s[i]? = some c) : i < s.size := by
  rcases Nat.lt_or_ge i s.size with h' | h'
  · exact h'
  · rw [getElem?_neg s i (by omega)] at h; cases h
theorem get_none {s : ByteArray} {i : Nat} (h : s[i]? = none) : s.size ≤ i := by
  rcases Nat.lt_or_ge i s.size with h' | h'
  · rw [getElem?_pos s i h'] at h; cases h
  · exact h'
theorem dec_le {s : ByteArray} {a : Nat} : ∀ (f i z : Nat) {p : Nat × Nat}, dec s a f i z = some p → p.2 ≤ s.size ∧ a + i < p.2
  | 0, _, _, _, h => by cases h
  | f + 1, i, z, p, h => by
    rw [dec] at h
    split at h
    · cases h
    · rename_i c hc
      have := get_lt hc
      split at h
      · cases h
      split at h
      · cases h; simp only; omega
      · have := dec_le f (i + 1) _ h; omega
theorem takeNum_le {s : ByteArray} {a : Nat} {p : Int × Nat} (h : takeNum s a = some p) : p.2 ≤ s.size ∧ a < p.2 := by
  unfold takeNum at h
  cases hd : dec s a 10 0 0 with
  | none => rw [hd] at h; cases h
  | some q => rw [hd] at h; cases h; have := dec_le _ _ _ hd; simp only; omega
theorem takeList_le {s : ByteArray} {a : Nat} {p : Nat × Nat} (h : takeList s a = some p) : p.2 ≤ s.size ∧ a < p.2 ∧ p.1 ≤ 65536 := by
  unfold takeList at h
  split at h
  · rename_i q hq
    split at h
    · cases h; have := takeNum_le hq; simp only; omega
    · cases h
  · cases h
def readN (s : ByteArray) (kind : Int) (a : Nat) : Nat := if kind = 0 then gn a (takeByte s a) else if kind = 1 then gn a (takeNum s a) else if kind = 2 then gn a (takeFlag s a) else if kind = 3 then gn a (takeText s a) else gn a (takeList s a)
theorem readN_le {s : ByteArray} {a : Nat} (kind : Int) (ha : a ≤ s.size) : readN s kind a ≤ s.size := by
  have key : ∀ {α : Type} (o : Option (α × Nat)), (∀ p, o = some p → p.2 ≤ s.size) → gn a o ≤ s.size := fun o h => by
    cases o with
    | none => exact ha
    | some p => exact h p rfl
  unfold readN
  split
  · refine key _ fun p h => ?_
    unfold takeByte at h; split at h
    · rename_i c hc; cases h; have := get_lt hc; simp only; omega
    · cases h
  split
  · exact key _ fun p h => (takeNum_le h).1
  split
  · refine key _ fun p h => ?_
    unfold takeFlag at h; split at h
    · rename_i c hc; have := get_lt hc
      split at h
      · cases h; simp only; omega
      · cases h
    · cases h
  split
  · refine key _ fun p h => ?_
    unfold takeText at h; split at h
    · split at h
      · cases h; assumption
      · cases h
    · cases h
  · exact key _ fun p h => (takeList_le h).1
theorem takeList_ok {s : ByteArray} {a b : Nat} {n : Nat} (h : takeNum s a = some ((n : Int), b)) (hn : n ≤ 65536) : takeList s a = some (n, b) := by
  unfold takeList; rw [h]; simp only; rw [if_pos (by omega)]; simp
theorem takeList_of {s : ByteArray} {a : Nat} {p : Nat × Nat} (h : takeList s a = some p) : takeNum s a = some ((p.1 : Int), p.2) := by
  unfold takeList at h
  split at h
  · rename_i q hq
    split at h
    · rename_i hr; cases h; rw [hq]; simp only; congr 1; ext <;> simp [Int.toNat_of_nonneg hr.1]
    · cases h
  · cases h
theorem un_odd {Z : Nat} (h : ((Z % 2 : Nat) : Int) = 1) : -((Z / 2 : Nat) : Int) - 1 = un Z := by
  unfold un; rw [if_neg (by omega)]
theorem un_even {Z : Nat} (h : ¬ ((Z % 2 : Nat) : Int) = 1) : ((Z / 2 : Nat) : Int) = un Z := by
  unfold un; rw [if_pos (by omega)]
theorem take_none {s : ByteArray} {a f i z : Nat} (h : dec s a 10 0 0 = dec s a f i z) (hn : dec s a f i z = none) : takeNum s a = none := by
  rw [takeNum, h, hn]; rfl
theorem take_some {s : ByteArray} {a f i z Z b : Nat} (h : dec s a 10 0 0 = dec s a f i z) (hn : dec s a f i z = some (Z, b)) : takeNum s a = some (un Z, b) := by
  rw [takeNum, h, hn]; rfl
theorem end_same {a n : Nat} : (decide ((if a = n then (0 : Int) else 4) = 0)) = decide (((a : Nat) : Int) = ((n : Nat) : Int)) := by
  by_cases h : a = n
  · subst h; simp
  · rw [if_neg h]; rw [decide_eq_false (by decide), decide_eq_false (by omega)]
def int1 (x : Int) : List Value := [.int .i64 x]
theorem flat1 : ∀ {l : List Int} {k : Nat} {o : Int}, l[k]? = some o → (l.flatMap int1)[k]? = some (.int .i64 o)
  | [], k, o, h => by simp at h
  | q :: l, 0, o, h => by simp at h; subst h; rfl
  | q :: l, k + 1, o, h => by
    have := flat1 (l := l) (k := k) (by simpa using h)
    simpa [List.flatMap_cons, int1] using this
theorem rd1 {W0 : World} {v : Value} {l : List Int} {k : Nat} {o : Int} (h : Rd W0 v l.length (l.flatMap int1)) (hg : l[k]? = some o) : W0.cell? ⟨rb v, ro v + k, none⟩ = some (.int .i64 o) :=
  h.cell _ _ (flat1 hg)
end Go.Wr
