/- The wire's laws, of plain data alone. -/
import Derived.Test.YtlbanhhdoiidnaaWrM
import Derived.Lib.Strings
namespace Go.Wr
open Go Go.SL

def ba (l : List UInt8) : ByteArray := ⟨l.toArray⟩
theorem ba_size (l : List UInt8) : (ba l).size = l.length := by simp [ba, ByteArray.size]
theorem ba_inj {l m : List UInt8} (h : ba l = ba m) : l = m := by
  have := congrArg (fun s : ByteArray => s.data.toList) h
  simpa [ba] using this
theorem ba_take (l : List UInt8) (k : Nat) : ((ba l).extract 0 k).data.toList = l.take k := by
  rw [Lib.extract_data]; simp [ba]
theorem ord_eq {m n : Int} (h : ba (enc (zz m)) = ba (enc (zz n))) : m = n := by
  have e := ba_inj h
  exact zz_inj (enc_take _ _ (by rw [e]))
theorem ord_pre {m n : Int} (h : ¬ m = n) : ¬ (ba (enc (zz m))).extract 0 (min (ba (enc (zz m))).size (ba (enc (zz n))).size) = (ba (enc (zz n))).extract 0 (min (ba (enc (zz m))).size (ba (enc (zz n))).size) := fun e => by
  have e2 := congrArg (fun s : ByteArray => s.data.toList) e
  simp only [ba_take, ba_size] at e2
  exact h (zz_inj (enc_take _ _ e2))
theorem ord_len {n : Int} (h1 : -9223372036854775808 ≤ n) (h2 : n ≤ 9223372036854775807) : 1 ≤ (ba (enc (zz n))).size ∧ (ba (enc (zz n))).size ≤ 10 := by
  rw [ba_size]
  exact ⟨enc_ne _, enc_len_le 9 _ (Nat.lt_trans (zz_lt h1 h2) (by decide))⟩
theorem ord_mono {m n : Int} (h0 : ¬ m < 0) (h : ¬ n < m) : (ba (enc (zz m))).size ≤ (ba (enc (zz n))).size := by
  rw [ba_size, ba_size]
  refine enc_len_mono _ _ ?_
  unfold zz
  rw [if_pos (by omega), if_pos (by omega)]
  omega
end Go.Wr
