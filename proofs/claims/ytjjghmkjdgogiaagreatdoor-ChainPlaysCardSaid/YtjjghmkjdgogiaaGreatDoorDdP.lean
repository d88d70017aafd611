/- What follows: the laws of package 04, in plain data. -/
import Derived.Test.YtjjghmkjdgogiaaGreatDoorDdN
namespace Go.Proofs.YtjjghmkjdgogiaaGreatDoor
open Go Go.SL Go.Dd Go.RowKit
set_option linter.unusedVariables false

/-! ### A list of terms -/
theorem mk_at {ts : List TermR} {t : TermR} (hm : may ts.length t = true) (hl : ts.length < 1048576) : (mk ts t).2.2 = 0 ∧ atN (mk ts t).1 (mk ts t).2.1 = some t ∧ (∃ xs, (mk ts t).1 = ts ++ xs) ∧ 1 ≤ (mk ts t).2.1 ∧ (mk ts t).2.1 ≤ (mk ts t).1.length := by
  unfold mk
  rw [if_neg (by simp [hm])]
  split
  · rename_i h
    have hi := List.idxOf_lt_length_of_mem h
    refine ⟨rfl, ?_, ⟨[], by simp⟩, by simp only; omega, by simp only; omega⟩
    simp only [atN]
    rw [if_neg (by omega), Nat.add_sub_cancel, List.getElem?_eq_getElem hi, List.getElem_idxOf]
  · rw [if_neg (by omega)]
    refine ⟨rfl, ?_, ⟨[t], rfl⟩, by simp only; omega, by simp⟩
    simp only [atN]
    rw [if_neg (by omega), Nat.add_sub_cancel]
    simp
/-- What is so of what has come together. -/
structure LsI (ts : List TermR) (z : List TermR × Nat) (l : List Int) (k : Nat) : Prop where
 wf : Wf z.1
 ext : ∃ xs, z.1 = ts ++ xs
 pos : 1 ≤ z.2
 le : z.2 ≤ z.1.length
 len : z.1.length ≤ ts.length + k
 all : ∀ xs K, Wf (z.1 ++ xs) → (Der (z.1 ++ xs) K z.2 ↔ ∀ x ∈ l, Der (z.1 ++ xs) K x.toNat)
theorem LsI.start {ts : List TermR} (hw : Wf ts) {x : Int} (h : 1 ≤ x ∧ x ≤ (ts.length : Int)) : LsI ts (ts, x.toNat) [x] 0 :=
 ⟨hw, ⟨[], by simp⟩, by simp only; omega, by simp only; omega, Nat.le_refl _, fun _ _ _ => by simp⟩
theorem LsI.step {ts : List TermR} {z : List TermR × Nat} {l : List Int} {k : Nat} (I : LsI ts z l k) {x : Int} (h : 1 ≤ x ∧ x ≤ (ts.length : Int)) (hk : ts.length + k < 1048576) :
    (Dd.mk z.1 ⟨3, 0, x, (z.2 : Int)⟩).2.2 = 0 ∧ LsI ts ((Dd.mk z.1 ⟨3, 0, x, (z.2 : Int)⟩).1, (Dd.mk z.1 ⟨3, 0, x, (z.2 : Int)⟩).2.1) (x :: l) (k + 1) := by
  obtain ⟨xs, hx⟩ := I.ext
  have hzl : ts.length ≤ z.1.length := by rw [hx, List.length_append]; omega
  have hm : may z.1.length ⟨3, 0, x, (z.2 : Int)⟩ = true := by
    have h1 := I.pos
    have h2 := I.le
    exact decide_eq_true (.inr (.inr (.inl ⟨.inl rfl, rfl, ⟨h.1, Int.le_trans h.2 (by omega)⟩, by show (1 : Int) ≤ (z.2 : Int); omega, by show (z.2 : Int) ≤ _; omega⟩)))
  have hL := I.len
  obtain ⟨e1, e2, ⟨ys, e3⟩, e4, e5⟩ := mk_at hm (by omega)
  have hw := I.wf.mk (t := ⟨3, 0, x, (z.2 : Int)⟩) (by simp) (by simp)
  refine ⟨e1, hw, ⟨xs ++ ys, by rw [← List.append_assoc, ← hx]; exact e3⟩, e4, e5, ?_, fun zs K hwz => ?_⟩
  · have := (mk_len z.1 ⟨3, 0, x, (z.2 : Int)⟩).2; simp only; omega
  · have ha : atN ((Dd.mk z.1 ⟨3, 0, x, (z.2 : Int)⟩).1 ++ zs) (Dd.mk z.1 ⟨3, 0, x, (z.2 : Int)⟩).2.1 = some ⟨3, 0, x, (z.2 : Int)⟩ := atN_pre e2
    have hall := I.all (ys ++ zs) K (by rw [← List.append_assoc, ← e3]; exact hwz)
    rw [← List.append_assoc, ← e3] at hall
    simp only [List.mem_cons, forall_eq_or_imp]
    rw [← hall]
    constructor
    · intro hd
      exact ⟨.fst ha rfl hd, .snd ha rfl hd⟩
    · rintro ⟨h1, h2⟩
      exact .made ha (by simp) (by simp) h1 (by simpa using h2)
/-! ### What is sealed with a key that nobody knows -/
/-! ### A list beside its twin -/
end Go.Proofs.YtjjghmkjdgogiaaGreatDoor
