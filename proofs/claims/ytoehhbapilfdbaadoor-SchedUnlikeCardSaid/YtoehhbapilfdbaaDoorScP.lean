/- Epochs' secrets: the plain part. -/
import Derived.Test.YtoehhbapilfdbaaDoorDdD
namespace Go.Proofs.YtoehhbapilfdbaaDoor
open Go Go.SL Go.Dd Go.RowKit
set_option linter.unusedVariables false
/-- The terms that an epoch's secrets make, one after the other: the terms then, the number. -/
abbrev Stage := List TermR × Nat × Int
def stP (ts : List TermR) (i c : Int) : Stage := mk ts ⟨3, 0, i, c⟩
def stJ (ts : List TermR) (i c : Int) : Stage := mk (stP ts i c).1 ⟨4, 3, ((stP ts i c).2.1 : Int), 0⟩
def stE (ts : List TermR) (j x : Int) : Stage := mk ts ⟨4, 4, j, x⟩
def stL (z : List TermR) (l : Int) (e : Nat) : Stage := mk z ⟨4, l, (e : Int), 0⟩
structure FromR where
  e : Stage
  a : Stage
  b : Stage
  c : Stage
  d : Stage
def fromR (ts : List TermR) (j x : Int) : FromR :=
  let e := mk ts ⟨4, 4, j, x⟩
  let a := mk e.1 ⟨4, 5, (e.2.1 : Int), 0⟩
  let b := mk a.1 ⟨4, 6, (e.2.1 : Int), 0⟩
  let c := mk b.1 ⟨4, 7, (e.2.1 : Int), 0⟩
  ⟨e, a, b, c, mk c.1 ⟨4, 8, (e.2.1 : Int), 0⟩⟩
def nextR (ts : List TermR) (i c x : Int) : FromR := fromR (stJ ts i c).1 ((stJ ts i c).2.1 : Int) x
theorem mk_atS {ts : List TermR} {t : TermR} (hm : may ts.length t = true) (hl : ts.length < 1048576) : (mk ts t).2.2 = 0 ∧ atN (mk ts t).1 (mk ts t).2.1 = some t ∧ (∃ xs, (mk ts t).1 = ts ++ xs) ∧ 1 ≤ (mk ts t).2.1 ∧ (mk ts t).2.1 ≤ (mk ts t).1.length := by
  unfold mk
  rw [if_neg (by simp [hm])]
  split
  · rename_i h
    have hi := List.idxOf_lt_length_of_mem h
    refine ⟨rfl, ?_, ⟨[], by simp⟩, by simp only; omega, by simp only; omega⟩
    simp only [atN]
    rw [if_neg (by omega), Nat.add_sub_cancel, List.getElem?_eq_getElem hi, List.getElem_idxOf]
  · rw [if_neg (by omega)]
    refine ⟨rfl, ?_, ⟨[t], rfl⟩, by simp only; omega, by simp⟩
    simp only [atN]
    rw [if_neg (by omega), Nat.add_sub_cancel]
    simp
theorem mk_zero {ts : List TermR} {t : TermR} (h : (mk ts t).2.2 = 0) : mk ts t = ((mk ts t).1, (mk ts t).2.1, 0) := by rw [← h]
/-- A term that is made of terms that are there. -/
structure Made (ts : List TermR) (t : TermR) : Prop where
  eq : mk ts t = ((mk ts t).1, (mk ts t).2.1, 0)
  ok : okT t
  pos : 1 ≤ ((mk ts t).2.1 : Int)
  le : ((mk ts t).2.1 : Int) ≤ ((mk ts t).1.length : Int)
  up : ts.length ≤ (mk ts t).1.length
  len : (mk ts t).1.length ≤ ts.length + 1
theorem made_of {ts : List TermR} {t : TermR} (ht : okT t) (hm : may ts.length t = true) (hl : ts.length < 1048576) : Made ts t := by
  obtain ⟨h1, _, _, h2, h3⟩ := mk_atS hm hl
  have h4 := mk_len ts t
  exact ⟨mk_zero h1, ht, by omega, by omega, h4.1, h4.2⟩
theorem made_pair {ts : List TermR} {a b : Int} (ha : 1 ≤ a ∧ a ≤ (ts.length : Int)) (hb : 1 ≤ b ∧ b ≤ (ts.length : Int)) (hl : ts.length < 1048576) : Made ts ⟨3, 0, a, b⟩ :=
  made_of (by unfold okT; simp only; omega) (decide_eq_true (.inr (.inr (.inl ⟨.inl rfl, rfl, ha, hb⟩)))) hl
theorem made_kdf {ts : List TermR} {l a b : Int} (h0 : 0 ≤ l ∧ l ≤ 100) (ha : 1 ≤ a ∧ a ≤ (ts.length : Int)) (hb : (1 ≤ b ∧ b ≤ (ts.length : Int)) ∨ b = 0) (hl : ts.length < 1048576) : Made ts ⟨4, l, a, b⟩ :=
  made_of (by unfold okT; simp only; omega) (decide_eq_true (.inr (.inr (.inr (.inl ⟨rfl, h0.1, ha, hb⟩))))) hl
theorem made_hash {ts : List TermR} {a : Int} (ha : 1 ≤ a ∧ a ≤ (ts.length : Int)) (hl : ts.length < 1048576) : Made ts ⟨7, 0, a, 0⟩ :=
  made_of (by unfold okT; simp only; omega) (decide_eq_true (.inr (.inr (.inr (.inr ⟨.inr rfl, rfl, ha, rfl⟩))))) hl
theorem made_data {ts : List TermR} {n : Int} (hn : -9223372036854775808 ≤ n ∧ n ≤ 9223372036854775807) (hl : ts.length < 1048576) : Made ts ⟨2, n, 0, 0⟩ :=
  made_of (by unfold okT; simp only; omega) (decide_eq_true (.inr (.inl ⟨rfl, rfl, rfl⟩))) hl

/-! ### SchedUnlike -/
def T6 : List TermR := [⟨1, 0, 0, 0⟩, ⟨1, 1, 0, 0⟩, ⟨1, 2, 0, 0⟩, ⟨1, 3, 0, 0⟩, ⟨1, 4, 0, 0⟩, ⟨1, 5, 0, 0⟩]
def pk (b : Bool) (i : Int) : Int := if b = true then 4 + i else 1 + i
def N1 (a0 a1 a2 : Bool) : FromR := nextR T6 (pk a0 0) (pk a1 1) (pk a2 2)
def N2 (a0 a1 a2 b0 b1 b2 : Bool) : FromR := nextR (N1 a0 a1 a2).d.1 (pk b0 0) (pk b1 1) (pk b2 2)
def J1 (a0 a1 : Bool) : Stage := stJ T6 (pk a0 0) (pk a1 1)
def J2 (a0 a1 a2 b0 b1 : Bool) : Stage := stJ (N1 a0 a1 a2).d.1 (pk b0 0) (pk b1 1)
theorem unlike_all : ∀ a0 a1 a2 b0 b1 b2 : Bool,
    ((((N1 a0 a1 a2).e.2.1 == (N2 a0 a1 a2 b0 b1 b2).e.2.1) == (a0 == b0 && (a1 == b1 && a2 == b2))) &&
     (((N1 a0 a1 a2).a.2.1 == (N2 a0 a1 a2 b0 b1 b2).a.2.1) == (a0 == b0 && (a1 == b1 && a2 == b2))) &&
     (((N1 a0 a1 a2).d.2.1 == (N2 a0 a1 a2 b0 b1 b2).d.2.1) == (a0 == b0 && (a1 == b1 && a2 == b2))) &&
     (((J1 a0 a1).2.1 == (J2 a0 a1 a2 b0 b1).2.1) == (a0 == b0 && a1 == b1)) && Nat.ble 6 (N1 a0 a1 a2).d.1.length && Nat.ble (N1 a0 a1 a2).d.1.length 100) = true := by decide +kernel
theorem unlike_len (a0 a1 a2 : Bool) : 6 ≤ (N1 a0 a1 a2).d.1.length ∧ (N1 a0 a1 a2).d.1.length ≤ 100 := by
  have := unlike_all a0 a1 a2 true true true
  simp only [Bool.and_eq_true] at this
  exact ⟨Nat.le_of_ble_eq_true this.1.2, Nat.le_of_ble_eq_true this.2⟩
theorem dec_int {m n : Nat} {b : Bool} (h : ((m == n) == b) = true) : decide ((m : Int) = (n : Int)) = b := by
  rw [beq_iff_eq] at h
  subst h
  by_cases e : m = n
  · subst e; simp
  · rw [decide_eq_false (by omega)]; exact (beq_eq_false_iff_ne.2 e).symm
theorem unlike_e (a0 a1 a2 b0 b1 b2 : Bool) : decide (((N1 a0 a1 a2).e.2.1 : Int) = ((N2 a0 a1 a2 b0 b1 b2).e.2.1 : Int)) = (a0 == b0 && (a1 == b1 && a2 == b2)) := by
  have := unlike_all a0 a1 a2 b0 b1 b2
  simp only [Bool.and_eq_true] at this
  exact dec_int this.1.1.1.1.1
theorem unlike_a (a0 a1 a2 b0 b1 b2 : Bool) : decide (((N1 a0 a1 a2).a.2.1 : Int) = ((N2 a0 a1 a2 b0 b1 b2).a.2.1 : Int)) = (a0 == b0 && (a1 == b1 && a2 == b2)) := by
  have := unlike_all a0 a1 a2 b0 b1 b2
  simp only [Bool.and_eq_true] at this
  exact dec_int this.1.1.1.1.2
theorem unlike_d (a0 a1 a2 b0 b1 b2 : Bool) : decide (((N1 a0 a1 a2).d.2.1 : Int) = ((N2 a0 a1 a2 b0 b1 b2).d.2.1 : Int)) = (a0 == b0 && (a1 == b1 && a2 == b2)) := by
  have := unlike_all a0 a1 a2 b0 b1 b2
  simp only [Bool.and_eq_true] at this
  exact dec_int this.1.1.1.2
theorem unlike_j (a0 a1 a2 b0 b1 b2 : Bool) : decide (((J1 a0 a1).2.1 : Int) = ((J2 a0 a1 a2 b0 b1).2.1 : Int)) = (a0 == b0 && a1 == b1) := by
  have := unlike_all a0 a1 a2 b0 b1 b2
  simp only [Bool.and_eq_true] at this
  exact dec_int this.1.1.2
theorem pk_rng (b : Bool) (i : Int) (h : 0 ≤ i ∧ i ≤ 2) : 1 ≤ pk b i ∧ pk b i ≤ 6 := by cases b <;> simp only [pk] <;> omega
end Go.Proofs.YtoehhbapilfdbaaDoor
