import Derived.Test.YtkndmgfahghcjaaGreatDkL
/- The journal as plain data: heads, what a disk has, what a Put does. -/
namespace Go.Jn
open Go Go.SL Go.Dk
set_option linter.unusedVariables false

theorem wrap64 (a : Int) : IntKind.i64.wrap a = (a + 9223372036854775808) % 18446744073709551616 - 9223372036854775808 := by
 simp only [IntKind.wrap, IntKind.signed, IntKind.bits]
 simp
 split <;> omega
theorem wrap8 (a : Int) : IntKind.u8.wrap a = a % 256 := by
 simp only [IntKind.wrap, IntKind.signed, IntKind.bits, Bool.false_and, Bool.false_eq_true, if_false]
 rfl

/-! ### Heads -/
def hByte (n : Int) (k : Nat) : UInt8 := UInt8.ofNat (n / 256 ^ k % 256).toNat
theorem hByte_nat (n : Int) (k : Nat) : ((hByte n k).toNat : Int) = n / 256 ^ k % 256 := by
 unfold hByte
 have h1 := Int.emod_nonneg (n / 256 ^ k) (b := 256) (by decide)
 have h2 := Int.emod_lt_of_pos (n / 256 ^ k) (b := 256) (by decide)
 rw [UInt8.toNat_ofNat_of_lt' (by simp [UInt8.size]; omega)]
 omega
/-- So many bytes, the highest first. -/
def bytesOf (n : Int) : Nat → List UInt8
 | 0 => []
 | k + 1 => hByte n k :: bytesOf n k
theorem bytesOf_len (n : Int) : ∀ k, (bytesOf n k).length = k
 | 0 => rfl
 | k + 1 => by rw [bytesOf, List.length_cons, bytesOf_len n k]
def headL (n l : Int) : List UInt8 := 74 :: (bytesOf n 8 ++ (bytesOf l 4 ++ List.replicate 51 0))
def headB (n l : Int) : ByteArray := ⟨(headL n l).toArray⟩
theorem headL_len (n l : Int) : (headL n l).length = 64 := by simp [headL, bytesOf_len]
theorem headB_size (n l : Int) : (headB n l).size = 64 := by
 show (headL n l).toArray.size = 64
 rw [List.size_toArray, headL_len]
def num (a : Int) (l : List UInt8) : Int := l.foldl (fun a c => IntKind.i64.wrap (a * 256 + (c.toNat : Int))) a
def fits (n : Int) : Prop := 0 ≤ n ∧ n ≤ 9223372036854775807
theorem num_bytes {n : Int} (h : fits n) : ∀ k, num (n / 256 ^ k) (bytesOf n k) = n
 | 0 => by simp [bytesOf, num]
 | k + 1 => by
  have h1 : IntKind.i64.wrap (n / 256 ^ (k + 1) * 256 + ((hByte n k).toNat : Int)) = n / 256 ^ k := by
   rw [hByte_nat, Int.pow_succ, ← Int.ediv_ediv_of_nonneg (Int.pow_nonneg (by decide))]
   have h2 : n / 256 ^ k ≤ n := Int.ediv_le_self _ h.1
   have h3 : 0 ≤ n / 256 ^ k := Int.ediv_nonneg h.1 (Int.pow_nonneg (by decide))
   rw [wrap64]
   have := h.2
   omega
  show num (IntKind.i64.wrap (n / 256 ^ (k + 1) * 256 + ((hByte n k).toNat : Int))) (bytesOf n k) = n
  rw [h1]
  exact num_bytes h k
def sNum (s : ByteArray) : Int := num 0 ((s.data.toList.drop 1).take 8)
def sLen (s : ByteArray) : Int := num 0 ((s.data.toList.drop 9).take 4)
theorem sNum_head {n l : Int} (h : fits n) : sNum (headB n l) = n := by
 have e : ((headB n l).data.toList.drop 1).take 8 = bytesOf n 8 := by
  show (((headL n l).toArray).toList.drop 1).take 8 = _
  rw [List.toList_toArray]
  show (bytesOf n 8 ++ (bytesOf l 4 ++ List.replicate 51 0)).take 8 = _
  rw [List.take_append_of_le_length (by rw [bytesOf_len]; exact Nat.le_refl _), List.take_of_length_le (by rw [bytesOf_len]; exact Nat.le_refl _)]
 unfold sNum
 rw [e]
 have := num_bytes h 8
 rwa [show n / 256 ^ 8 = 0 from Int.ediv_eq_zero_of_lt h.1 (by have := h.2; omega)] at this
theorem sLen_head {n l : Int} (h1 : 0 ≤ l) (h2 : l < 4294967296) : sLen (headB n l) = l := by
 have e : ((headB n l).data.toList.drop 9).take 4 = bytesOf l 4 := by
  show (((headL n l).toArray).toList.drop 9).take 4 = _
  rw [List.toList_toArray]
  show (((bytesOf n 8 ++ (bytesOf l 4 ++ List.replicate 51 0))).drop 8).take 4 = _
  rw [List.drop_append_of_le_length (by rw [bytesOf_len]; exact Nat.le_refl _), List.drop_of_length_le (by rw [bytesOf_len]; exact Nat.le_refl _), List.nil_append, List.take_append_of_le_length (by rw [bytesOf_len]; exact Nat.le_refl _), List.take_of_length_le (by rw [bytesOf_len]; exact Nat.le_refl _)]
 unfold sLen
 rw [e]
 have := num_bytes (n := l) ⟨h1, by omega⟩ 4
 rwa [show l / 256 ^ 4 = 0 from Int.ediv_eq_zero_of_lt h1 (by omega)] at this
theorem wrap_rng (a : Int) : -9223372036854775808 ≤ IntKind.i64.wrap a ∧ IntKind.i64.wrap a ≤ 9223372036854775807 := by rw [wrap64]; omega
theorem num_le : ∀ (l : List UInt8) (a : Int), -9223372036854775808 ≤ a ∧ a ≤ 9223372036854775807 → -9223372036854775808 ≤ num a l ∧ num a l ≤ 9223372036854775807
 | [], _, h => h
 | c :: l, a, _ => num_le l _ (wrap_rng _)
theorem pow_le (a b : Nat) (h : a ≤ b) : (256 : Int) ^ a ≤ 256 ^ b := by
 have := Int.ofNat_le.2 (Nat.pow_le_pow_right (n := 256) (by decide) h)
 rwa [Int.natCast_pow, Int.natCast_pow] at this
theorem num_small : ∀ (l : List UInt8) (a : Int) (k : Nat), 0 ≤ a → a < 256 ^ k → k + l.length ≤ 7 → 0 ≤ num a l ∧ num a l < 256 ^ (k + l.length)
 | [], _, _, h1, h2, _ => ⟨h1, h2⟩
 | c :: l, a, k, h1, h2, h3 => by
  have hc : (c.toNat : Int) < 256 := by have := c.toNat_lt; omega
  have e : 256 ^ (k + 1) = (256 : Int) ^ k * 256 := Int.pow_succ ..
  have hle : (256 : Int) ^ (k + 1) ≤ 256 ^ 7 := by
   have : k + 1 ≤ 7 := by simp only [List.length_cons] at h3; omega
   exact pow_le _ _ this
  have e7 : (256 : Int) ^ 7 = 72057594037927936 := by rfl
  have hw : IntKind.i64.wrap (a * 256 + (c.toNat : Int)) = a * 256 + (c.toNat : Int) := wrap_i64 (by omega) (by omega)
  have := num_small l (a * 256 + (c.toNat : Int)) (k + 1) (by omega) (by omega) (by simp only [List.length_cons] at h3; omega)
  show 0 ≤ num (IntKind.i64.wrap (a * 256 + (c.toNat : Int))) l ∧ num (IntKind.i64.wrap (a * 256 + (c.toNat : Int))) l < _
  rw [hw, List.length_cons, show k + (l.length + 1) = k + 1 + l.length by omega]
  exact this
theorem sLen_rng (s : ByteArray) : 0 ≤ sLen s ∧ sLen s < 4294967296 := by
 have hl : ((s.data.toList.drop 9).take 4).length ≤ 4 := by rw [List.length_take]; omega
 have := num_small ((s.data.toList.drop 9).take 4) 0 0 (by decide) (by decide) (by omega)
 refine ⟨this.1, Int.lt_of_lt_of_le this.2 ?_⟩
 have h2 : (256 : Int) ^ (0 + ((s.data.toList.drop 9).take 4).length) ≤ 256 ^ 4 := pow_le _ _ (by omega)
 have e : (256 : Int) ^ 4 = 4294967296 := by rfl
 omega
theorem sNum_le (s : ByteArray) : sNum s ≤ 9223372036854775807 := (num_le _ _ (by decide)).2
/-- A head's number and length. -/
def parse (s : ByteArray) : Option (Int × Int) :=
 if s = noughts then some (0, 0) else if 0 < sNum s ∧ s = headB (sNum s) (sLen s) then some (sNum s, sLen s) else none
theorem head_first {n l : Int} : (headB n l).data.toList[0]? = some 74 := rfl
theorem head_ne {n l : Int} : headB n l ≠ noughts := fun h => by
 have := congrArg (fun s : ByteArray => s.data.toList[0]?) h
 simp only [head_first] at this
 rw [show noughts.data.toList[0]? = some 0 from rfl] at this
 cases this
theorem parse_noughts : parse noughts = some (0, 0) := if_pos rfl
theorem parse_head {n l : Int} (h : fits n) (h0 : 0 < n) (h1 : 0 ≤ l) (h2 : l < 4294967296) : parse (headB n l) = some (n, l) := by
 unfold parse
 rw [if_neg head_ne, sNum_head h, sLen_head h1 h2, if_pos ⟨h0, rfl⟩]
theorem parse_some {s : ByteArray} {n l : Int} (h : parse s = some (n, l)) : (n = 0 ∧ l = 0 ∧ s = noughts) ∨ (0 < n ∧ fits n ∧ 0 ≤ l ∧ l < 4294967296 ∧ s = headB n l) := by
  unfold parse at h
  split at h
  · cases h; exact .inl ⟨rfl, rfl, by assumption⟩
  split at h
  · rename_i h1
    cases h
    have := sLen_rng s
    exact .inr ⟨h1.1, ⟨by omega, sNum_le s⟩, this.1, this.2, h1.2⟩
  · cases h

/-! ### What a disk has -/
def half (S : List ByteArray) : Nat := (S.length - 2) / 2
def first (S : List ByteArray) (n : Int) : Nat := if n % 2 = 1 then 2 else 2 + half S
/-- The bytes of so many sectors from one on. -/
def catR (R : Nat → ByteArray) (f : Nat) : Nat → ByteArray
 | 0 => ByteArray.empty
 | k + 1 => catR R f k ++ R (f + k)
def textR (R : Nat → ByteArray) (f : Nat) (l : Int) : ByteArray := (catR R f ((l.toNat + 63) / 64)).extract 0 l.toNat
/-- What is opened, of a disk that is up, of which so many sectors are read so. -/
def openR (R : Nat → ByteArray) (S : List ByteArray) : Int × Option (ByteArray × Int) :=
 if S.length < 4 then (1, none) else
 match parse (R 0), parse (R 1) with
 | some (a, la), some (b, lb) =>
  if la > ((half S * 64 : Nat) : Int) ∨ lb > ((half S * 64 : Nat) : Int) ∨ (0 < a ∧ a % 2 = 0) ∨ (0 < b ∧ b % 2 = 1) then (14, none)
  else if a = 0 ∧ b = 0 then (0, some (ByteArray.empty, 0))
  else if a = b + 1 then (0, some (textR R (first S a) la, a))
  else if 0 < a ∧ b = a + 1 then (0, some (textR R (first S b) lb, b))
  else (14, none)
 | _, _ => (14, none)
def rd (d : DS) (i : Nat) : ByteArray := readL (d.secs.getD i default) i d.since
def openD (d : DS) : Int × Option (ByteArray × Int) := if d.down = true then (6, none) else openR (rd d) d.secs

/-! ### What a Put does -/
/-- The first sector of what is left, filled up. -/
def padB (r : ByteArray) : ByteArray := r.extract 0 (min r.size 64) ++ noughts.extract (min r.size 64) 64
def rest (s : ByteArray) (i : Nat) : ByteArray := s.extract (i * 64) s.size
def piece (s : ByteArray) (i : Nat) : ByteArray := padB (rest s i)
def nPieces (s : ByteArray) : Nat := (s.size + 63) / 64
def pieces (s : ByteArray) (f : Nat) : List (Nat × ByteArray) := (List.range (nPieces s)).map fun i => (f + i, piece s i)
theorem pieces_len (s : ByteArray) (f : Nat) : (pieces s f).length = nPieces s := by simp [pieces]
theorem pieces_get {s : ByteArray} {f i : Nat} (h : i < nPieces s) : (pieces s f)[i]? = some (f + i, piece s i) := by simp [pieces, h]
def wall : DS → List (Nat × ByteArray) → Int × DS
 | d, [] => (0, d)
 | d, p :: r => if (d.write p.1 p.2).1 = 0 then wall (d.write p.1 p.2).2 r else d.write p.1 p.2
/-- A head, and what was written is kept. -/
def headD (d : DS) (q l : Int) : Int × DS :=
 if (d.write (q % 2) (headB (q + 1) l)).1 = 0 then (d.write (q % 2) (headB (q + 1) l)).2.sync else d.write (q % 2) (headB (q + 1) l)
def syncD (d : DS) (q l : Int) : Int × DS := if d.sync.1 = 0 then headD d.sync.2 q l else d.sync
def putD (d : DS) (q : Int) (s : ByteArray) : Int × DS :=
 if (wall d (pieces s (first d.secs (q + 1)))).1 = 0 then syncD (wall d (pieces s (first d.secs (q + 1)))).2 q (s.size : Int) else wall d (pieces s (first d.secs (q + 1)))
structure JS where
 text : ByteArray
 seq : Int
 dead : Bool
def JS.put (j : JS) (d : DS) (s : ByteArray) : Int × DS × JS :=
 if j.dead = true ∨ d.down = true then (6, d, j) else if half d.secs * 64 < s.size then (5, d, j)
 else if (putD d j.seq s).1 = 0 then (0, (putD d j.seq s).2, ⟨s, j.seq + 1, false⟩) else ((putD d j.seq s).1, (putD d j.seq s).2, { j with dead := true })
end Go.Jn

