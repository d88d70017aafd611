import Derived.Test.YtkndmgfahghcjaaGreatWrL
import Derived.Test.YtkndmgfahghcjaaGreatSLD
/- The wire: the document's answer, in plain data. -/
namespace Go.SL
open Go Go.RowKit
section
variable {P : Program} {W0 : World} {E : Nat → Value} {L : List HP} {x : Operand} {ty : TypeId}
end
end Go.SL
namespace Go.Wr
open Go Go.SL
/-! ### The document's answer -/
theorem textW_len (s : ByteArray) : (textW s).2.length ≤ 65546 := by
  unfold textW; split
  · simp
  · have := enc_len_le 9 _ (Nat.lt_trans (zz_lt (n := (s.size : Int)) (by omega) (by omega)) (by decide))
    simp only [List.length_append, Array.length_toList]
    have : s.data.size = s.size := rfl
    omega
end Go.Wr

