import Derived.Test.YtkndmgfahghcjaaGreatJnV
import Derived.Test.YtkndmgfahghcjaaGreatJnR
/- A text in pieces, piece by piece. -/
namespace Go.Jn
open Go Go.SL Go.Dk
set_option linter.unusedVariables false
theorem rest_zero (s : ByteArray) : rest s 0 = s := by simp [rest]
theorem rest_next (s : ByteArray) (i : Nat) : (rest s i).extract (min (rest s i).size 64) (rest s i).size = rest s (i + 1) := by
  rw [rest_size]
  unfold rest
  rw [ByteArray.extract_extract]
  by_cases h : s.size - i * 64 ≤ 64
  · rw [Nat.min_eq_left h, ByteArray.extract_eq_empty_iff.2 (by omega), ByteArray.extract_eq_empty_iff.2 (by omega)]
  · rw [Nat.min_eq_right (by omega)]
    congr 1 <;> omega
theorem rest_end {s : ByteArray} {i : Nat} (hi : i ≤ nPieces s) (h : rest s i = ⟨#[]⟩) : i = nPieces s := by
 have := congrArg ByteArray.size h
 rw [rest_size] at this
 have h2 : (⟨#[]⟩ : ByteArray).size = 0 := rfl
 unfold nPieces at *
 omega
theorem rest_more {s : ByteArray} {i : Nat} (h : ¬ rest s i = ⟨#[]⟩) : i < nPieces s ∧ i * 64 < s.size := by
 have h2 : ¬ (rest s i).size = 0 := fun e => h (ByteArray.size_eq_zero_iff.1 e)
 rw [rest_size] at h2
 unfold nPieces
 omega
theorem wall_at {s : ByteArray} {f i : Nat} (d : DS) (h : i < nPieces s) : wall d ((pieces s f).drop i) =
  if (d.write ((f + i : Nat) : Int) (piece s i)).1 = 0 then wall (d.write ((f + i : Nat) : Int) (piece s i)).2 ((pieces s f).drop (i + 1)) else d.write ((f + i : Nat) : Int) (piece s i) := by
 obtain ⟨hl, he⟩ := List.getElem?_eq_some_iff.1 (pieces_get (s := s) (f := f) h)
 rw [List.drop_eq_getElem_cons hl, he, wall]
theorem wall_done {s : ByteArray} {f : Nat} (d : DS) : wall d ((pieces s f).drop (nPieces s)) = (0, d) := by
 rw [List.drop_of_length_le (by rw [pieces_len]; exact Nat.le_refl _)]; rfl
theorem pieces_le {s : ByteArray} {n : Nat} (h : s.size ≤ n * 64) : nPieces s ≤ n := by unfold nPieces; omega
end Go.Jn

