import Derived.Test.YtkndmgfahghcjaaGreatWrN
/- The wire: what stands at a place, in plain data. -/
namespace Go.Wr
open Go Go.SL

def takeList (s : ByteArray) (a : Nat) : Option (Nat × Nat) := match takeNum s a with
 | some p => if 0 ≤ p.1 ∧ p.1 ≤ 65536 then some (p.1.toNat, p.2) else none
 | none => none
def takeText (s : ByteArray) (a : Nat) : Option (ByteArray × Nat) := match takeList s a with
 | some p => if p.2 + p.1 ≤ s.size then some (s.extract p.2 (p.2 + p.1), p.2 + p.1) else none
 | none => none
end Go.Wr

