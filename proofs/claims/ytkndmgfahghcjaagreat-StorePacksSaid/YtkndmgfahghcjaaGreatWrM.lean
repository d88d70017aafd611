import Derived.Test.YtkndmgfahghcjaaGreatSLR
/- Numbers as bytes, of plain data: what the wire's Writer and Reader compute. -/
namespace Go.Wr
open Go Go.SL

def zz (n : Int) : Nat := if 0 ≤ n then (2 * n).toNat else (-2 * n - 1).toNat
def un (z : Nat) : Int := if z % 2 = 0 then ((z / 2 : Nat) : Int) else -((z / 2 : Nat) : Int) - 1
theorem zz_un (z : Nat) : zz (un z) = z := by
 unfold un zz
 split <;> split <;> omega
theorem zz_lt {n : Int} (h1 : -9223372036854775808 ≤ n) (h2 : n ≤ 9223372036854775807) : zz n < 18446744073709551616 := by
 unfold zz; split <;> omega

def enc (z : Nat) : List UInt8 := if z < 128 then [UInt8.ofNat z] else UInt8.ofNat (z % 128 + 128) :: enc (z / 128)
termination_by z
theorem enc_lt {z : Nat} (h : z < 128) : enc z = [UInt8.ofNat z] := by rw [enc, if_pos h]
theorem enc_ge {z : Nat} (h : ¬ z < 128) : enc z = UInt8.ofNat (z % 128 + 128) :: enc (z / 128) := by rw [enc, if_neg h]

def u8v (c : UInt8) : Value := .int .u8 ((c.toNat : Nat) : Int)
theorem u8v_ofNat {x : Nat} (h : x < 256) : u8v (UInt8.ofNat x) = .int .u8 ((x : Nat) : Int) := by
 rw [u8v, UInt8.toNat_ofNat_of_lt' (by simpa using h)]
theorem u8_snoc (m : List UInt8) {x : Nat} (h : x < 256) : (m ++ [UInt8.ofNat x]).map u8v = m.map u8v ++ [Value.int .u8 ((x : Nat) : Int)] := by
 rw [List.map_append, List.map_singleton, u8v_ofNat h]

/-! ### What the code's operations on unsigned numbers are -/
theorem wrap_u64 {a : Int} (h1 : 0 ≤ a) (h2 : a < 18446744073709551616) : IntKind.u64.wrap a = a := by
 simp only [IntKind.wrap, IntKind.signed, IntKind.bits, Bool.false_and, Bool.false_eq_true, if_false]
 omega
theorem wrap_u64' (a : Int) : IntKind.u64.wrap a = a % 18446744073709551616 := by
 simp only [IntKind.wrap, IntKind.signed, IntKind.bits, Bool.false_and, Bool.false_eq_true, if_false]
 rfl
theorem wrap_u8' (a : Int) : IntKind.u8.wrap a = a % 256 := by
 simp only [IntKind.wrap, IntKind.signed, IntKind.bits, Bool.false_and, Bool.false_eq_true, if_false]
 rfl
theorem or128 (z : Nat) : IntKind.u8.wrap ((BitVec.ofInt IntKind.u8.bits (((z % 256 : Nat) : Int)) ||| BitVec.ofInt IntKind.u8.bits 128).toNat) = ((z % 128 + 128 : Nat) : Int) := by
 have key : ∀ x : Fin 256, (BitVec.ofInt 8 ((x.val : Nat) : Int) ||| BitVec.ofInt 8 128).toNat = x.val % 128 + 128 := by decide +kernel
 have h := key ⟨z % 256, Nat.mod_lt _ (by decide)⟩
 show IntKind.u8.wrap ((BitVec.ofInt 8 (((z % 256 : Nat) : Int)) ||| BitVec.ofInt 8 128).toNat) = _
 rw [h, wrap_u8']
 simp only; omega
theorem sh63 {n : Int} (h1 : -9223372036854775808 ≤ n) (h2 : n ≤ 9223372036854775807) : n.fdiv (2 ^ min (Int.toNat 63) IntKind.i64.bits) = if 0 ≤ n then 0 else -1 := by
 show n.fdiv 9223372036854775808 = _
 rw [Int.fdiv_eq_ediv_of_nonneg _ (by omega)]
 split <;> omega
theorem zzcode {n : Int} (h1 : -9223372036854775808 ≤ n) (h2 : n ≤ 9223372036854775807) :
    IntKind.u64.wrap ((BitVec.ofInt IntKind.u64.bits (IntKind.u64.wrap (IntKind.u64.wrap n * 2 ^ min (Int.toNat 1) IntKind.u64.bits)) ^^^ BitVec.ofInt IntKind.u64.bits (IntKind.u64.wrap (if 0 ≤ n then 0 else -1))).toNat) = ((zz n : Nat) : Int) := by
  have e1 : IntKind.u64.wrap (IntKind.u64.wrap n * 2 ^ min (Int.toNat 1) IntKind.u64.bits) = (2 * n) % 18446744073709551616 := by
    rw [wrap_u64', wrap_u64']
    show (n % 18446744073709551616 * 2) % 18446744073709551616 = _
    omega
  rw [e1]
  show IntKind.u64.wrap ((BitVec.ofInt 64 (2 * n % 18446744073709551616) ^^^ BitVec.ofInt 64 (IntKind.u64.wrap (if 0 ≤ n then 0 else -1))).toNat) = _
  have hz := zz_lt h1 h2
  by_cases h : 0 ≤ n
  · rw [if_pos h, wrap_u64 (a := 0) (by decide) (by decide)]
    have : BitVec.ofInt 64 0 = 0#64 := rfl
    rw [this, BitVec.xor_zero, BitVec.toNat_ofInt]
    have : zz n = (2 * n).toNat := by unfold zz; rw [if_pos h]
    rw [this] at hz ⊢
    rw [wrap_u64 (by omega) (by omega)]
    omega
  · rw [if_neg h]
    have e2 : BitVec.ofInt 64 (IntKind.u64.wrap (-1)) = BitVec.allOnes 64 := by decide
    rw [e2, BitVec.xor_allOnes, BitVec.toNat_not, BitVec.toNat_ofInt]
    have : zz n = (-2 * n - 1).toNat := by unfold zz; rw [if_neg h]
    rw [this] at hz ⊢
    rw [wrap_u64 (by omega) (by omega)]
    omega
theorem shr7 (z : Nat) : ((z : Nat) : Int).fdiv (2 ^ min (Int.toNat 7) IntKind.u64.bits) = ((z / 128 : Nat) : Int) := by
 show ((z : Nat) : Int).fdiv 128 = _
 rw [Int.fdiv_eq_ediv_of_nonneg _ (by omega)]
 omega
theorem conv8 (z : Nat) : IntKind.u8.wrap ((z : Nat) : Int) = ((z % 256 : Nat) : Int) := by rw [wrap_u8']; omega

/-! ### Rows of bytes, compared -/
theorem enc_ne (z : Nat) : 1 ≤ (enc z).length := by
 by_cases h : z < 128
 · rw [enc_lt h]; simp
 · rw [enc_ge h]; simp
theorem enc_len_le : ∀ (k z : Nat), z < 128 ^ (k + 1) → (enc z).length ≤ k + 1
  | 0, z, h => by rw [enc_lt (by simpa using h)]; simp
  | k + 1, z, h => by
    by_cases hz : z < 128
    · rw [enc_lt hz]; simp
    · rw [enc_ge hz]
      have := enc_len_le k (z / 128) (by rw [Nat.div_lt_iff_lt_mul (by decide)]; rw [Nat.pow_succ] at h; exact h)
      simp only [List.length_cons]; omega
/-! ### Numbers taken -/
/-- What stands at a place: the number without a sign, and the place behind it. -/
def dec (s : ByteArray) (at_ : Nat) : Nat → Nat → Nat → Option (Nat × Nat)
 | 0, _, _ => none
 | f + 1, i, z => match s[at_ + i]? with
  | none => none
  | some c => if (i = 9 ∧ 1 < c.toNat) ∨ (0 < i ∧ c.toNat = 0) then none else if c.toNat < 128 then some (z + c.toNat * 128 ^ i, at_ + i + 1) else dec s at_ f (i + 1) (z + c.toNat % 128 * 128 ^ i)
def takeNum (s : ByteArray) (at_ : Nat) : Option (Int × Nat) := (dec s at_ 10 0 0).map fun p => (un p.1, p.2)
theorem and127 (c : UInt8) : IntKind.u8.wrap ((BitVec.ofInt IntKind.u8.bits ((c.toNat : Nat) : Int) &&& BitVec.ofInt IntKind.u8.bits 127).toNat) = ((c.toNat % 128 : Nat) : Int) := by
 have key : ∀ x : Fin 256, (BitVec.ofInt 8 ((x.val : Nat) : Int) &&& BitVec.ofInt 8 127).toNat = x.val % 128 := by decide +kernel
 have h := key ⟨c.toNat, c.toNat_lt⟩
 show IntKind.u8.wrap ((BitVec.ofInt 8 ((c.toNat : Nat) : Int) &&& BitVec.ofInt 8 127).toNat) = _
 rw [h, wrap_u8']
 simp only; omega
theorem two7 (i : Nat) : (2 : Nat) ^ (7 * i) = 128 ^ i := by rw [Nat.pow_mul]
/-- What is put in from above. -/
theorem or7 {z c i : Nat} (hz : z < 128 ^ i) (hi : i ≤ 9) (hc : i = 9 → c ≤ 1) (hc2 : c < 128) : z + c * 128 ^ i < 18446744073709551616 ∧
    IntKind.u64.wrap ((BitVec.ofInt IntKind.u64.bits ((z : Nat) : Int) ||| BitVec.ofInt IntKind.u64.bits ((c * 128 ^ i : Nat) : Int)).toNat) = ((z + c * 128 ^ i : Nat) : Int) := by
  have hp : 128 ^ i ≤ 128 ^ 9 := Nat.pow_le_pow_right (by decide) hi
  have h9 : c * 128 ^ i < 18446744073709551616 - 128 ^ i + 1 := by
    by_cases h : i = 9
    · subst h; have := hc rfl
      have : c * 128 ^ 9 ≤ 1 * 128 ^ 9 := Nat.mul_le_mul_right _ this
      have e9 : (128 : Nat) ^ 9 = 9223372036854775808 := by decide
      omega
    · have h8 : 128 ^ i ≤ 128 ^ 8 := Nat.pow_le_pow_right (by decide) (by omega)
      have h3 : c * 128 ^ i ≤ 127 * 128 ^ i := Nat.mul_le_mul_right _ (by omega)
      have e8 : (128 : Nat) ^ 8 = 72057594037927936 := by decide
      omega
  have e9 : (128 : Nat) ^ 9 = 9223372036854775808 := by decide
  have hlt : z + c * 128 ^ i < 18446744073709551616 := by omega
  refine ⟨hlt, ?_⟩
  show IntKind.u64.wrap ((BitVec.ofInt 64 ((z : Nat) : Int) ||| BitVec.ofInt 64 ((c * 128 ^ i : Nat) : Int)).toNat) = _
  have e1 : (BitVec.ofInt 64 ((z : Nat) : Int)).toNat = z := by
    rw [BitVec.ofInt_natCast, BitVec.toNat_ofNat]; exact Nat.mod_eq_of_lt (by omega)
  have e2 : (BitVec.ofInt 64 ((c * 128 ^ i : Nat) : Int)).toNat = c * 128 ^ i := by
    rw [BitVec.ofInt_natCast, BitVec.toNat_ofNat]; exact Nat.mod_eq_of_lt (by omega)
  rw [BitVec.toNat_or, e1, e2, ← two7 i, Nat.mul_comm c, Nat.or_comm, ← Nat.two_pow_add_eq_or_of_lt (by rw [two7]; exact hz) c, Nat.add_comm]
  rw [wrap_u64 (by omega) (by rw [two7, Nat.mul_comm]; omega)]
theorem shl7 {c i : Nat} (hi : i ≤ 9) (hc : i = 9 → c ≤ 1) (hc2 : c < 128) : IntKind.u64.wrap (((c : Nat) : Int) * 2 ^ min (Int.toNat ((7 * i : Nat) : Int)) IntKind.u64.bits) = ((c * 128 ^ i : Nat) : Int) := by
 have h := (or7 (z := 0) (Nat.pow_pos (by decide)) hi hc hc2).1
 have e : (((c : Nat) : Int) * 2 ^ min (Int.toNat ((7 * i : Nat) : Int)) IntKind.u64.bits) = ((c * 128 ^ i : Nat) : Int) := by
  rw [show min (Int.toNat ((7 * i : Nat) : Int)) IntKind.u64.bits = 7 * i from by simp only [Int.toNat_natCast, IntKind.bits]; omega, ← two7]
  push_cast; rfl
 rw [e, wrap_u64 (by omega) (by omega)]

theorem and1 {Z : Nat} (h : Z < 18446744073709551616) : IntKind.u64.wrap ((BitVec.ofInt IntKind.u64.bits ((Z : Nat) : Int) &&& BitVec.ofInt IntKind.u64.bits 1).toNat) = ((Z % 2 : Nat) : Int) := by
 show IntKind.u64.wrap ((BitVec.ofInt 64 ((Z : Nat) : Int) &&& BitVec.ofInt 64 1).toNat) = _
 have e1 : (BitVec.ofInt 64 ((Z : Nat) : Int)).toNat = Z := by
  rw [BitVec.ofInt_natCast, BitVec.toNat_ofNat]; exact Nat.mod_eq_of_lt (by omega)
 have e2 : (BitVec.ofInt 64 1).toNat = 1 := by decide
 rw [BitVec.toNat_and, e1, e2, Nat.and_one_is_mod, wrap_u64 (by omega) (by omega)]
theorem shr1 (Z : Nat) : ((Z : Nat) : Int).fdiv (2 ^ min (Int.toNat 1) IntKind.u64.bits) = ((Z / 2 : Nat) : Int) := by
 show ((Z : Nat) : Int).fdiv 2 = _
 rw [Int.fdiv_eq_ediv_of_nonneg _ (by omega)]
 omega
theorem xor_un {Z : Nat} (h : Z < 18446744073709551616) : IntKind.i64.wrap ((BitVec.ofInt IntKind.i64.bits ((Z / 2 : Nat) : Int) ^^^ BitVec.ofInt IntKind.i64.bits (-((Z % 2 : Nat) : Int))).toNat) = un Z := by
  show IntKind.i64.wrap ((BitVec.ofInt 64 ((Z / 2 : Nat) : Int) ^^^ BitVec.ofInt 64 (-((Z % 2 : Nat) : Int))).toNat) = un Z
  have e1 : (BitVec.ofInt 64 ((Z / 2 : Nat) : Int)).toNat = Z / 2 := by
    rw [BitVec.ofInt_natCast, BitVec.toNat_ofNat]; exact Nat.mod_eq_of_lt (by omega)
  unfold un
  by_cases hz : Z % 2 = 0
  · rw [if_pos hz, hz]
    have : BitVec.ofInt 64 (-((0 : Nat) : Int)) = 0#64 := by decide
    rw [this, BitVec.xor_zero, e1, wrap_i64 (by omega) (by omega)]
  · rw [if_neg hz, show Z % 2 = 1 by omega]
    have : BitVec.ofInt 64 (-((1 : Nat) : Int)) = BitVec.allOnes 64 := by decide
    rw [this, BitVec.xor_allOnes, BitVec.toNat_not, e1]
    simp only [IntKind.wrap, IntKind.signed, IntKind.bits, Bool.true_and]
    rw [if_pos (by simp; omega)]
    omega
/-- What the Reader's number says, and where it leaves the Reader. -/
def NumR (s : ByteArray) (at_ : Nat) (v : Int) (ok : Bool) (a : Nat) : Prop := (match takeNum s at_ with | some (v0, a0) => ok = true ∧ v = v0 ∧ a = a0 | none => ok = false) ∧ a ≤ s.size
theorem NumR.none {s : ByteArray} {at_ a f i z : Nat} {v : Int} (h : dec s at_ 10 0 0 = dec s at_ f i z) (hn : dec s at_ f i z = none) (ha : a ≤ s.size) : NumR s at_ v false a := by
 refine ⟨?_, ha⟩
 rw [takeNum, h, hn]; rfl
theorem NumR.some {s : ByteArray} {at_ a f i z Z : Nat} (h : dec s at_ 10 0 0 = dec s at_ f i z) (hn : dec s at_ f i z = .some (Z, a)) (ha : a ≤ s.size) : NumR s at_ (un Z) true a := by
 refine ⟨?_, ha⟩
 rw [takeNum, h, hn]; exact ⟨rfl, rfl, rfl⟩
theorem dec_none {s : ByteArray} {at_ f i z : Nat} (h : s[at_ + i]? = none) : dec s at_ (f + 1) i z = none := by rw [dec, h]
theorem dec_bad {s : ByteArray} {at_ f i z : Nat} {c : UInt8} (h : s[at_ + i]? = some c) (hb : (i = 9 ∧ 1 < c.toNat) ∨ (0 < i ∧ c.toNat = 0)) : dec s at_ (f + 1) i z = none := by rw [dec, h]; simp only; rw [if_pos hb]
theorem dec_end {s : ByteArray} {at_ f i z : Nat} {c : UInt8} (h : s[at_ + i]? = some c) (hb : ¬ ((i = 9 ∧ 1 < c.toNat) ∨ (0 < i ∧ c.toNat = 0))) (hc : c.toNat < 128) : dec s at_ (f + 1) i z = some (z + c.toNat % 128 * 128 ^ i, at_ + i + 1) := by
 rw [dec, h]; simp only; rw [if_neg hb, if_pos hc, Nat.mod_eq_of_lt hc]
theorem dec_more {s : ByteArray} {at_ f i z : Nat} {c : UInt8} (h : s[at_ + i]? = some c) (hb : ¬ (i = 9 ∧ 1 < c.toNat)) (hc : ¬ c.toNat < 128) : dec s at_ (f + 1) i z = dec s at_ f (i + 1) (z + c.toNat % 128 * 128 ^ i) := by
 rw [dec, h]; simp only; rw [if_neg (by omega), if_neg hc]
end Go.Wr

