import Derived.Test.YtkndmgfahghcjaaGreatWrM
import Derived.Test.YtkndmgfahghcjaaGreatDkL
import Derived.Lib.Strings
/- The wire's laws, of plain data alone. -/
namespace Go.Wr
open Go Go.SL

def ba (l : List UInt8) : ByteArray := ⟨l.toArray⟩
theorem ba_size (l : List UInt8) : (ba l).size = l.length := by simp [ba, ByteArray.size]
theorem wrap_range (a : Int) : -9223372036854775808 ≤ IntKind.i64.wrap a ∧ IntKind.i64.wrap a ≤ 9223372036854775807 := by
 simp only [IntKind.wrap, IntKind.signed, IntKind.bits, Bool.true_and]
 have h0 := Int.emod_nonneg a (show (2 ^ 64 : Int) ≠ 0 by decide)
 have h1 := Int.emod_lt_of_pos a (show (0 : Int) < 2 ^ 64 by decide)
 split <;> rename_i h <;> simp only [ge_iff_le, decide_eq_true_eq] at h <;> omega
/-! ### What is written of a thing: the answer, the bytes -/
def byteW (n : Int) : Int × List UInt8 := if n < 0 ∨ n > 255 then (1, []) else (0, [UInt8.ofNat n.toNat])
def listW (n : Int) : Int × List UInt8 := if n < 0 then (1, []) else if n > 65536 then (3, []) else (0, enc (zz n))
def textW (s : ByteArray) : Int × List UInt8 := if 65536 < s.size then (3, []) else (0, enc (zz (s.size : Int)) ++ s.data.toList)
structure ItemR where
 kind : Int
 n : Int
 s : ByteArray
def itemW (x : ItemR) : Int × List UInt8 := if x.kind = 0 then byteW x.n else if x.kind = 1 then (0, enc (zz x.n)) else if x.kind = 2 then byteW (if x.n > 0 then 1 else 0) else if x.kind = 3 then textW x.s else listW x.n

def bytesW (l : List ItemR) : List UInt8 := l.flatMap fun x => (itemW x).2
theorem ba_cat (l m : List UInt8) : ba l ++ ba m = ba (l ++ m) := by
 apply congrArg ByteArray.mk (a₁ := (ba l ++ ba m).data) (a₂ := (l ++ m).toArray)
 apply Array.ext'
 simp [ba]
end Go.Wr

