import Derived.Test.YtkndmgfahghcjaaGreatWrN
/- The wire: what stands at a place, in plain data. -/
namespace Go.Wr
open Go Go.SL

def takeList (s : ByteArray) (a : Nat) : Option (Nat × Nat) := match takeNum s a with
 | some p => if 0 ≤ p.1 ∧ p.1 ≤ 65536 then some (p.1.toNat, p.2) else none
 | none => none
def takeText (s : ByteArray) (a : Nat) : Option (ByteArray × Nat) := match takeList s a with
 | some p => if p.2 + p.1 ≤ s.size then some (s.extract p.2 (p.2 + p.1), p.2 + p.1) else none
 | none => none
def gv {α : Type} (d : α) : Option (α × Nat) → α
 | some p => p.1
 | none => d
def gn {α : Type} (a : Nat) : Option (α × Nat) → Nat
 | some p => p.2
 | none => a
def ge {α : Type} : Option (α × Nat) → Int
 | some _ => 0
 | none => 4
theorem get_some {s : ByteArray} {i : Nat} (h : i < s.size) : ∃ c, s[i]? = some c := ⟨s[i], getElem?_pos s i h⟩
theorem get_lt {s : ByteArray} {i : Nat} {c : UInt8} (h : s[i]? = some c) : i < s.size := by
 rcases Nat.lt_or_ge i s.size with h' | h'
 · exact h'
 · rw [getElem?_neg s i (by omega)] at h; cases h
theorem dec_le {s : ByteArray} {a : Nat} : ∀ (f i z : Nat) {p : Nat × Nat}, dec s a f i z = some p → p.2 ≤ s.size ∧ a + i < p.2
  | 0, _, _, _, h => by cases h
  | f + 1, i, z, p, h => by
    rw [dec] at h
    split at h
    · cases h
    · rename_i c hc
      have := get_lt hc
      split at h
      · cases h
      split at h
      · cases h; simp only; omega
      · have := dec_le f (i + 1) _ h; omega
theorem takeNum_le {s : ByteArray} {a : Nat} {p : Int × Nat} (h : takeNum s a = some p) : p.2 ≤ s.size ∧ a < p.2 := by
 unfold takeNum at h
 cases hd : dec s a 10 0 0 with
 | none => rw [hd] at h; cases h
 | some q => rw [hd] at h; cases h; have := dec_le _ _ _ hd; simp only; omega
theorem takeList_le {s : ByteArray} {a : Nat} {p : Nat × Nat} (h : takeList s a = some p) : p.2 ≤ s.size ∧ a < p.2 ∧ p.1 ≤ 65536 := by
  unfold takeList at h
  split at h
  · rename_i q hq
    split at h
    · cases h; have := takeNum_le hq; simp only; omega
    · cases h
  · cases h
theorem takeList_of {s : ByteArray} {a : Nat} {p : Nat × Nat} (h : takeList s a = some p) : takeNum s a = some ((p.1 : Int), p.2) := by
  unfold takeList at h
  split at h
  · rename_i q hq
    split at h
    · rename_i hr; cases h; rw [hq]; simp only; congr 1; ext <;> simp [Int.toNat_of_nonneg hr.1]
    · cases h
  · cases h
theorem un_odd {Z : Nat} (h : ((Z % 2 : Nat) : Int) = 1) : -((Z / 2 : Nat) : Int) - 1 = un Z := by
 unfold un; rw [if_neg (by omega)]
theorem un_even {Z : Nat} (h : ¬ ((Z % 2 : Nat) : Int) = 1) : ((Z / 2 : Nat) : Int) = un Z := by
 unfold un; rw [if_pos (by omega)]
theorem take_none {s : ByteArray} {a f i z : Nat} (h : dec s a 10 0 0 = dec s a f i z) (hn : dec s a f i z = none) : takeNum s a = none := by
 rw [takeNum, h, hn]; rfl
theorem take_some {s : ByteArray} {a f i z Z b : Nat} (h : dec s a 10 0 0 = dec s a f i z) (hn : dec s a f i z = some (Z, b)) : takeNum s a = some (un Z, b) := by
 rw [takeNum, h, hn]; rfl
end Go.Wr

/- The wire: what is taken is what was written, in plain data. -/
namespace Go.Wr
open Go Go.SL

theorem get_list (s : ByteArray) (i : Nat) : s[i]? = s.data.toList[i]? := by
 by_cases h : i < s.size
 · rw [getElem?_pos s i h, List.getElem?_eq_getElem (by simpa using h)]; rfl
 · rw [getElem?_neg s i h, List.getElem?_eq_none (by simp only [Array.length_toList]; exact Nat.le_of_not_lt h)]
theorem size_list (s : ByteArray) : s.data.toList.length = s.size := by rw [Array.length_toList]; rfl
theorem drop_take {α : Type} {l : List α} {i n : Nat} {c : α} (h : l[i]? = some c) : (l.drop i).take (n + 1) = c :: (l.drop (i + 1)).take n := by
 obtain ⟨hl, he⟩ := List.getElem?_eq_some_iff.1 h
 rw [List.drop_eq_getElem_cons hl, List.take_succ_cons, he]
theorem pow_nx {z c i : Nat} (hz : z < 128 ^ i) : z + c % 128 * 128 ^ i < 128 ^ (i + 1) := by
 have : c % 128 * 128 ^ i ≤ 127 * 128 ^ i := Nat.mul_le_mul_right _ (by omega)
 rw [Nat.pow_succ]; omega
theorem mul_nx (z m y P : Nat) : z + m * P + y * (P * 128) = z + (m + 128 * y) * P := by
 rw [Nat.add_mul, Nat.mul_comm P 128, ← Nat.mul_assoc, Nat.mul_comm y 128]; omega
theorem dec_inv {s : ByteArray} {a : Nat} : ∀ (f i z : Nat) {p : Nat × Nat}, dec s a f i z = some p → i + f = 10 → z < 128 ^ i →
    ∃ y, p.1 = z + y * 128 ^ i ∧ (s.data.toList.drop (a + i)).take (p.2 - (a + i)) = enc y ∧ (0 < i → 0 < y) ∧ a + i < p.2 ∧ p.1 < 18446744073709551616
  | 0, _, _, _, h, _, _ => by cases h
  | f + 1, i, z, p, h, hf, hz => by
    rw [dec] at h
    split at h
    · cases h
    rename_i c hc
    rw [get_list] at hc
    split at h
    · cases h
    rename_i hb
    have hc8 : c.toNat < 256 := c.toNat_lt
    split at h
    · rename_i hlt
      cases h
      refine ⟨c.toNat, rfl, ?_, fun h => by omega, by simp only; omega, (or7 hz (by omega) (fun h => by omega) hlt).1⟩
      rw [enc_lt hlt, show (a + i + 1) - (a + i) = 0 + 1 by omega, drop_take hc, UInt8.ofNat_toNat]
      rfl
    · rename_i hge
      obtain ⟨y, h1, h2, h3, h4, h5⟩ := dec_inv f (i + 1) _ h (by omega) (pow_nx hz)
      have hy := h3 (by omega)
      refine ⟨c.toNat % 128 + 128 * y, ?_, ?_, fun _ => by omega, by omega, h5⟩
      · rw [h1, Nat.pow_succ, mul_nx]
      · rw [enc_ge (by omega), show (c.toNat % 128 + 128 * y) % 128 + 128 = c.toNat by omega, show (c.toNat % 128 + 128 * y) / 128 = y by omega, UInt8.ofNat_toNat, ← h2, show p.2 - (a + i) = (p.2 - (a + (i + 1))) + 1 by omega, drop_take hc]
        rfl
theorem un_range {Z : Nat} (h : Z < 18446744073709551616) : -9223372036854775808 ≤ un Z ∧ un Z ≤ 9223372036854775807 := by
 unfold un; split <;> omega
theorem takeNum_enc {s : ByteArray} {a : Nat} {p : Int × Nat} (h : takeNum s a = some p) : (s.data.toList.drop a).take (p.2 - a) = enc (zz p.1) ∧ -9223372036854775808 ≤ p.1 ∧ p.1 ≤ 9223372036854775807 := by
 unfold takeNum at h
 cases hd : dec s a 10 0 0 with
 | none => rw [hd] at h; cases h
 | some q =>
  rw [hd] at h; cases h
  obtain ⟨y, h1, h2, _, _, h5⟩ := dec_inv 10 0 0 hd rfl (by decide)
  simp only [Nat.pow_zero, Nat.mul_one, Nat.zero_add] at h1
  refine ⟨?_, un_range h5⟩
  simp only
  rw [zz_un, h1]; exact h2
/-! ### What is taken is written so -/
theorem ba_list (s : ByteArray) : ba s.data.toList = s := by simp [ba]
theorem takeList_enc {s : ByteArray} {a : Nat} {p : Nat × Nat} (h : takeList s a = some p) : (s.data.toList.drop a).take (p.2 - a) = enc (zz (p.1 : Int)) := (takeNum_enc (takeList_of h)).1
/-! ### What was written is taken so -/
theorem bytes_at {T : List ItemR} {k : Nat} {o : ItemR} (hg : T[k]? = some o) : ∃ rest, (ba (bytesW T)).data.toList.drop (bytesW (T.take k)).length = (itemW o).2 ++ rest := by
 refine ⟨bytesW (T.drop (k + 1)), ?_⟩
 obtain ⟨hl, he⟩ := List.getElem?_eq_some_iff.1 hg
 have e : T = T.take k ++ o :: T.drop (k + 1) := by rw [← he, ← List.drop_eq_getElem_cons hl, List.take_append_drop]
 have e2 : bytesW T = bytesW (T.take k) ++ ((itemW o).2 ++ bytesW (T.drop (k + 1))) := (congrArg bytesW e).trans (by simp [bytesW])
 show (bytesW T).toArray.toList.drop _ = _
 rw [show (bytesW T).toArray.toList = bytesW T from rfl, e2, List.drop_left]
end Go.Wr

