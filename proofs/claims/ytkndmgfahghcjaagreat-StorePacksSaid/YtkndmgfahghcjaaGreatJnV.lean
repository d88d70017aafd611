import Derived.Test.YtkndmgfahghcjaaGreatJnQ
import Derived.Lib.AppendStr
/- What the code's operations on heads come to. -/
namespace Go.Jn
open Go Go.SL Go.Dk
set_option linter.unusedVariables false
theorem bytesOf_get {n : Int} : ∀ {k i : Nat}, i < k → (bytesOf n k)[i]? = some (hByte n (k - 1 - i))
 | k + 1, 0, _ => rfl
 | k + 1, i + 1, h => by
  rw [bytesOf, List.getElem?_cons_succ, bytesOf_get (by omega)]
  congr 2; omega
theorem shr_byte (n : Int) {k : Nat} (hk : k ≤ 7) : IntKind.u8.wrap (n.fdiv (2 ^ min (Int.toNat ((8 * k : Nat) : Int)) IntKind.i64.bits)) = ((hByte n k).toNat : Int) := by
 rw [hByte_nat, wrap8, Int.toNat_natCast, show min (8 * k) IntKind.i64.bits = 8 * k from Nat.min_eq_left (by show 8 * k ≤ 64; omega), Int.pow_mul, Int.fdiv_eq_ediv_of_nonneg _ (Int.pow_nonneg (by decide))]
 rfl
theorem or_byte {a c : Int} (h0 : 0 ≤ c) (h1 : c < 256) : IntKind.i64.wrap ((BitVec.ofInt IntKind.i64.bits (IntKind.i64.wrap (a * 2 ^ min (Int.toNat 8) IntKind.i64.bits)) ||| BitVec.ofInt IntKind.i64.bits c).toNat) = IntKind.i64.wrap (a * 256 + c) := by
 show IntKind.i64.wrap ((BitVec.ofInt 64 (IntKind.i64.wrap (a * 256)) ||| BitVec.ofInt 64 c).toNat) = _
 obtain ⟨m, hm⟩ : ∃ m : Nat, (m : Int) = a % 72057594037927936 := ⟨(a % 72057594037927936).toNat, by omega⟩
 obtain ⟨k, rfl⟩ := Int.eq_ofNat_of_zero_le h0
 have e1 : (BitVec.ofInt 64 (IntKind.i64.wrap (a * 256))).toNat = m <<< 8 := by
  rw [BitVec.toNat_ofInt, wrap64, Nat.shiftLeft_eq]
  have : ((2 ^ 64 : Nat) : Int) = 18446744073709551616 := rfl
  rw [this]
  omega
 have e2 : (BitVec.ofInt 64 ((k : Nat) : Int)).toNat = k := by
  rw [BitVec.toNat_ofInt]
  have : ((2 ^ 64 : Nat) : Int) = 18446744073709551616 := rfl
  rw [this]
  omega
 rw [BitVec.toNat_or, e1, e2, ← Nat.shiftLeft_add_eq_or_of_lt (by omega), Nat.shiftLeft_eq, wrap64, wrap64]
 omega
theorem num_snoc (l : List UInt8) (c : UInt8) (a : Int) : num a (l ++ [c]) = IntKind.i64.wrap (num a l * 256 + (c.toNat : Int)) := by simp [num, List.foldl_append]

/-! ### A head, byte by byte -/
def hd1 (n : Int) (i : Nat) : List UInt8 := 74 :: ((bytesOf n 8).take i ++ List.replicate (63 - i) 0)
def hd2 (n l : Int) (i : Nat) : List UInt8 := 74 :: (bytesOf n 8 ++ ((bytesOf l 4).take i ++ List.replicate (55 - i) 0))
theorem set_at {A : List UInt8} {i m : Nat} {x : UInt8} (h : i = A.length) : (A ++ List.replicate (m + 1) 0).set i x = A ++ [x] ++ List.replicate m 0 := by
 subst h
 rw [List.set_append_right _ _ (Nat.le_refl _), Nat.sub_self, List.replicate_succ, List.set_cons_zero, List.append_assoc, List.singleton_append]
theorem hd1_step {n : Int} {i : Nat} (h : i < 8) : (hd1 n i).set (1 + i) (hByte n (7 - i)) = hd1 n (i + 1) := by
 have hg := bytesOf_get (n := n) (k := 8) h
 obtain ⟨hl, he⟩ := List.getElem?_eq_some_iff.1 hg
 unfold hd1
 rw [Nat.add_comm 1 i, List.set_cons_succ, show 63 - i = (63 - (i + 1)) + 1 by omega, set_at (by rw [List.length_take, bytesOf_len]; omega), List.take_succ_eq_append_getElem hl, he]
theorem hd1_len (n : Int) {i : Nat} (h : i ≤ 8) : (hd1 n i).length = 64 := by simp [hd1, bytesOf_len]; omega
theorem hd2_start (n l : Int) : hd1 n 8 = hd2 n l 0 := by
 unfold hd1 hd2
 rw [List.take_of_length_le (by rw [bytesOf_len]; exact Nat.le_refl _)]; rfl
theorem hd2_step {n l : Int} {i : Nat} (h : i < 4) : (hd2 n l i).set (9 + i) (hByte l (3 - i)) = hd2 n l (i + 1) := by
 have hg := bytesOf_get (n := l) (k := 4) h
 obtain ⟨hl, he⟩ := List.getElem?_eq_some_iff.1 hg
 unfold hd2
 rw [show 9 + i = (8 + i) + 1 by omega, List.set_cons_succ, List.set_append_right _ _ (by rw [bytesOf_len]; omega), bytesOf_len, show 8 + i - 8 = i by omega, show 55 - i = (55 - (i + 1)) + 1 by omega, set_at (by rw [List.length_take, bytesOf_len]; omega), List.take_succ_eq_append_getElem hl, he]
theorem hd2_len (n l : Int) {i : Nat} (h : i ≤ 4) : (hd2 n l i).length = 64 := by simp [hd2, bytesOf_len]; omega
theorem hd2_end (n l : Int) : hd2 n l 4 = headL n l := by
 unfold hd2 headL
 rw [List.take_of_length_le (by rw [bytesOf_len]; exact Nat.le_refl _)]
theorem sectors_eq {n : Nat} (h : 1 ≤ n) : (((n : Nat) : Int) - 2).tdiv 2 = (((n - 2) / 2 : Nat) : Int) := by
  rcases Nat.lt_or_ge n 2 with h2 | h2
  · obtain rfl : n = 1 := by omega
    rfl
  · rw [show ((n : Nat) : Int) - 2 = ((n - 2 : Nat) : Int) by omega]
    rfl
theorem tmod2_eq {q : Int} (h : 0 ≤ q) : q.tmod 2 = q % 2 := Int.tmod_eq_emod_of_nonneg h
theorem bytes_at {s : ByteArray} {i : Nat} (h : i < s.size) : ∃ c, s.data.toList[i]? = some c := ⟨_, List.getElem?_eq_getElem (by simpa using h)⟩
theorem take_at {s : ByteArray} {i : Nat} {c : UInt8} (h : s.data.toList[i]? = some c) : s.data.toList.take (i + 1) = s.data.toList.take i ++ [c] := by
 obtain ⟨hl, he⟩ := List.getElem?_eq_some_iff.1 h
 rw [List.take_succ_eq_append_getElem hl, he]
theorem str_at {s : ByteArray} {i m : Nat} {c : UInt8} {z : Value} (h : s.data.toList[i]? = some c) : ((s.data.toList.map fun b => Value.int .u8 b.toNat) ++ List.replicate m z)[i]? = some (.int .u8 ((c.toNat : Nat) : Int)) := by
 have hl := (List.getElem?_eq_some_iff.1 h).1
 rw [List.getElem?_append_left (by simpa using hl), List.getElem?_map, h]; rfl
/-- What parse tells. -/
def parseT (s : ByteArray) : Int × Int × Bool := if s = noughts then (0, 0, true) else (sNum s, sLen s, decide (0 < sNum s ∧ s = headB (sNum s) (sLen s)))
theorem cut_num {s : ByteArray} (h : s.size = 64) : num 0 ((s.extract 1 9).data.toList.take 8) = sNum s := by
 unfold sNum
 rw [ByteArray.data_extract, Array.toList_extract, List.extract_eq_take_drop, List.take_take]; rfl
theorem cut_len {s : ByteArray} (h : s.size = 64) : num 0 ((s.extract 9 13).data.toList.take 4) = sLen s := by
 unfold sLen
 rw [ByteArray.data_extract, Array.toList_extract, List.extract_eq_take_drop, List.take_take]; rfl
theorem rd_read {d : DS} {i : Nat} (hd : d.down = false) (h : i < d.secs.length) : d.read (i : Int) = (rd d i, 0) := read_ok hd (by omega)
theorem rd_size {d : DS} (hw : WF d) {i : Nat} (h : i < d.secs.length) : (rd d i).size = 64 := by
 have key : ∀ (l : List (Nat × ByteArray)) (x : ByteArray), x.size = 64 → (∀ p ∈ l, p.2.size = 64) → (readL x i l).size = 64 := by
  intro l
  induction l with
  | nil => intro x hx _; exact hx
  | cons p r ih =>
   intro x hx hl
   rw [readL]
   refine ih _ ?_ (fun q hq => hl q (List.mem_cons_of_mem _ hq))
   split
   · exact hl p List.mem_cons_self
   · exact hx
 exact key _ _ (by rw [List.getD_eq_getElem?_getD, List.getElem?_eq_getElem h]; exact hw.l.size _ (List.getElem_mem _)) hw.l.size'
theorem catR_size {R : Nat → ByteArray} {f : Nat} : ∀ k, (∀ i, i < k → (R (f + i)).size = 64) → (catR R f k).size = k * 64
 | 0, _ => rfl
 | k + 1, h => by rw [catR, ByteArray.size_append, catR_size k (fun i hi => h i (by omega)), h k (by omega)]; omega
theorem first_le {d : DS} (h4 : 4 ≤ d.secs.length) (q : Int) {k : Nat} (hk : k < half d.secs) : first d.secs q + k < d.secs.length := by
 unfold first half at *; split <;> omega
theorem wrap_succ {a : Int} (h0 : 0 ≤ a) (h1 : a ≤ 9223372036854775807) : (a < 9223372036854775807 ∧ IntKind.i64.wrap (a + 1) = a + 1) ∨ (a = 9223372036854775807 ∧ IntKind.i64.wrap (a + 1) = -9223372036854775808) := by
 rw [wrap64]; omega
theorem parse_T (s : ByteArray) : parse s = if (parseT s).2.2 = true then some ((parseT s).1, (parseT s).2.1) else none := by
  unfold parse parseT
  by_cases h : s = noughts
  · rw [if_pos h, if_pos h]; rfl
  · rw [if_neg h, if_neg h]
    by_cases h2 : 0 < sNum s ∧ s = headB (sNum s) (sLen s)
    · rw [if_pos h2, if_pos (decide_eq_true h2)]
    · rw [if_neg h2, if_neg (by simpa using h2)]
theorem parseT_rng {s : ByteArray} (h : (parseT s).2.2 = true) : 0 ≤ (parseT s).1 ∧ (parseT s).1 ≤ 9223372036854775807 ∧ 0 ≤ (parseT s).2.1 ∧ (parseT s).2.1 < 4294967296 := by
 have := parse_T s
 rw [if_pos h] at this
 rcases parse_some this with ⟨h1, h2, _⟩ | ⟨h1, h2, h3, h4, _⟩
 · omega
 · have := h2.2; omega
/-- What is opened, by what parse tells. -/
def openT (m : Nat) (x y : Int × Int × Bool) (f : Int → Int → ByteArray) : Int × Option (ByteArray × Int) :=
 if x.2.2 = true ∧ y.2.2 = true then
  if x.2.1 > (m : Int) ∨ y.2.1 > (m : Int) ∨ (0 < x.1 ∧ x.1 % 2 = 0) ∨ (0 < y.1 ∧ y.1 % 2 = 1) then (14, none)
  else if x.1 = 0 ∧ y.1 = 0 then (0, some (ByteArray.empty, 0))
  else if x.1 = y.1 + 1 then (0, some (f x.1 x.2.1, x.1))
  else if 0 < x.1 ∧ y.1 = x.1 + 1 then (0, some (f y.1 y.2.1, y.1))
  else (14, none)
 else (14, none)
theorem openD_T {d : DS} (hd : d.down = false) (h4 : 4 ≤ d.secs.length) : openD d = openT (half d.secs * 64) (parseT (rd d 0)) (parseT (rd d 1)) (fun a l => textR (rd d) (first d.secs a) l) := by
  rw [openD, if_neg (by simp [hd]), openR, if_neg (by omega), parse_T, parse_T, openT]
  by_cases h0 : (parseT (rd d 0)).2.2 = true
  · by_cases h1 : (parseT (rd d 1)).2.2 = true
    · rw [if_pos h0, if_pos h1, if_pos ⟨h0, h1⟩]
    · rw [if_pos h0, if_neg h1, if_neg (fun h => h1 h.2)]
  · rw [if_neg h0, if_neg (show ¬ ((parseT (rd d 0)).2.2 = true ∧ (parseT (rd d 1)).2.2 = true) from fun h => h0 h.1)]
section
variable {m : Nat} {x y : Int × Int × Bool} {f : Int → Int → ByteArray}
theorem openT_bad1 (h : x.2.2 = false ∨ y.2.2 = false) : openT m x y f = (14, none) := by
 rw [openT, if_neg]
 rintro ⟨h1, h2⟩
 rcases h with h | h
 · rw [h1] at h; cases h
 · rw [h2] at h; cases h
theorem openT_bad2 (h : x.2.1 > (m : Int) ∨ y.2.1 > (m : Int) ∨ (0 < x.1 ∧ x.1 % 2 = 0) ∨ (0 < y.1 ∧ y.1 % 2 = 1)) : openT m x y f = (14, none) := by
 rw [openT]
 by_cases hh : x.2.2 = true ∧ y.2.2 = true
 · rw [if_pos hh, if_pos h]
 · rw [if_neg hh]
theorem openT_bad3 (h : ¬ (x.1 = 0 ∧ y.1 = 0)) (h2 : ¬ x.1 = y.1 + 1) (h3 : ¬ (0 < x.1 ∧ y.1 = x.1 + 1)) : openT m x y f = (14, none) := by
  rw [openT]
  by_cases hh : x.2.2 = true ∧ y.2.2 = true
  · rw [if_pos hh, if_neg h, if_neg h2, if_neg h3]
    split <;> rfl
  · rw [if_neg hh]
theorem openT_zero (hx : x.2.2 = true) (hy : y.2.2 = true) (h : ¬ (x.2.1 > (m : Int) ∨ y.2.1 > (m : Int) ∨ (0 < x.1 ∧ x.1 % 2 = 0) ∨ (0 < y.1 ∧ y.1 % 2 = 1))) (h1 : x.1 = 0 ∧ y.1 = 0) : openT m x y f = (0, some (ByteArray.empty, 0)) := by
 rw [openT, if_pos ⟨hx, hy⟩, if_neg h, if_pos h1]
theorem openT_a (hx : x.2.2 = true) (hy : y.2.2 = true) (h : ¬ (x.2.1 > (m : Int) ∨ y.2.1 > (m : Int) ∨ (0 < x.1 ∧ x.1 % 2 = 0) ∨ (0 < y.1 ∧ y.1 % 2 = 1))) (h1 : ¬ (x.1 = 0 ∧ y.1 = 0)) (h2 : x.1 = y.1 + 1) : openT m x y f = (0, some (f x.1 x.2.1, x.1)) := by
 rw [openT, if_pos ⟨hx, hy⟩, if_neg h, if_neg h1, if_pos h2]
theorem openT_b (hx : x.2.2 = true) (hy : y.2.2 = true) (h : ¬ (x.2.1 > (m : Int) ∨ y.2.1 > (m : Int) ∨ (0 < x.1 ∧ x.1 % 2 = 0) ∨ (0 < y.1 ∧ y.1 % 2 = 1))) (h1 : ¬ (x.1 = 0 ∧ y.1 = 0)) (h2 : ¬ x.1 = y.1 + 1) (h3 : 0 < x.1 ∧ y.1 = x.1 + 1) : openT m x y f = (0, some (f y.1 y.2.1, y.1)) := by
 rw [openT, if_pos ⟨hx, hy⟩, if_neg h, if_neg h1, if_neg h2, if_pos h3]
end
theorem strCells_app (a b : ByteArray) : Lib.strCells (a ++ b) = Lib.strCells a ++ Lib.strCells b := by simp [Lib.strCells, ByteArray.data_append]
end Go.Jn

