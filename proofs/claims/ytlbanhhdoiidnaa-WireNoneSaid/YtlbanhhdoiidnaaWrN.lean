/- The wire: the document's answer, in plain data. -/
import Derived.Test.YtlbanhhdoiidnaaWrL
import Derived.Test.YtlbanhhdoiidnaaSLD
namespace Go.SL
open Go Go.RowKit
section
variable {P : Program} {W0 : World} {E : Nat → Value} {L : List HP} {x : Operand} {ty : TypeId}
/-- string(b) of bytes that a slice owns. -/
theorem q_str_sl {src dst e e' n i : Nat} {v : Value} {xs : List Value} {l : List UInt8} (hs : P.underlying src = some (.slice e)) (he : P.underlying e = some (.int .u8)) (hd : P.underlying dst = some .string)
    (hx : evE E x = v) (hi : L[i]? = some (sl e' 1 v n xs)) (hxs : xs = l.map fun c => Value.int .u8 ((c.toNat : Nat) : Int)) : Quiet P W0 E L (.convert src dst x) ty (.string ⟨l.toArray⟩) := fun w d pos aft g hst => by
  subst hxs
  rcases st_sl_cases (st_at hst hi) with ⟨e1, _, e3⟩ | ⟨b, cap, e1, _, hl, hs2⟩
  · subst e1
    obtain rfl : l = [] := by cases l with
      | nil => rfl
      | cons a l => simp at e3
    exact (q_str_nil hs he hd hx) w d pos aft g hst
  · have hn : l.length = n := by simpa using hl
    exact q_str_of (L := slp e' 1 b cap (l.map fun c => Value.int .u8 ((c.toNat : Nat) : Int)) :: L.eraseIdx i) hs he hd (hx.trans e1) hn (fun j u hj => .row (i := 0) rfl (by rw [Nat.zero_add]; exact hj)) w d pos aft g hs2
end
end Go.SL
namespace Go.Wr
open Go Go.SL
/-! ### The document's answer -/
theorem nil_cat (s : ByteArray) : (⟨#[]⟩ : ByteArray) ++ s = s := by
  apply congrArg ByteArray.mk (a₁ := ((⟨#[]⟩ : ByteArray) ++ s).data) (a₂ := s.data)
  apply Array.ext'
  simp
theorem nilb {s : ByteArray} (h : s.size ≤ 9223372036854775807) : (⟨#[]⟩ : ByteArray).size + s.size ≤ 9223372036854775807 := by
  rw [show (⟨#[]⟩ : ByteArray).size = 0 from rfl, Nat.zero_add]; exact h
theorem ba_app (l : List UInt8) (s : ByteArray) : ba l ++ s = ba (l ++ s.data.toList) := by
  have : s = ba s.data.toList := by simp [ba]
  exact (congrArg (ba l ++ ·) this).trans (ba_cat l _)
theorem zz_mul {n : Int} (h0 : n ≥ 0) (h2 : n ≤ 9223372036854775807) : IntKind.u64.wrap (n * 2) = ((zz n : Nat) : Int) := by
  rw [wrap_u64 (by omega) (by omega)]; unfold zz; rw [if_pos h0]; omega
theorem zz_add {n : Int} (h0 : ¬ n ≥ 0) (h1 : -9223372036854775808 ≤ n) : IntKind.u64.wrap (-(n + 1) * 2 + 1) = ((zz n : Nat) : Int) := by
  rw [wrap_u64 (by omega) (by omega)]; unfold zz; rw [if_neg (by omega)]; omega
theorem few1 {r1 : Int} {n : Nat} (h : Go.Dk.beyondB [r1] = false) (h1 : 268435456 ≤ n → r1 = (n : Int)) : n < 268435456 := by
  have e1 := Go.Dk.beyond_le h r1 (by simp)
  rcases Nat.lt_or_ge n 268435456 with h' | h'
  · exact h'
  · have := h1 h'; omega
theorem textW_len (s : ByteArray) : (textW s).2.length ≤ 65546 := by
  unfold textW; split
  · simp
  · have := enc_len_le 9 _ (Nat.lt_trans (zz_lt (n := (s.size : Int)) (by omega) (by omega)) (by decide))
    simp only [List.length_append, Array.length_toList]
    have : s.data.size = s.size := rfl
    omega
theorem strCells_ba (l : List UInt8) : Lib.strCells (ba l) = l.map u8v := by
  simp only [Lib.strCells, ba]
  rfl
theorem itemW_bad {x : ItemR} (h : ¬ (itemW x).1 = 0) : (itemW x).2 = [] := by
  have hb : ∀ n : Int, ¬ (byteW n).1 = 0 → (byteW n).2 = [] := fun n h => by
    unfold byteW at h ⊢
    split at h
    · rename_i h'; rw [if_pos h']
    · exact absurd rfl h
  unfold itemW at h ⊢
  split at h
  · rename_i h'; rw [if_pos h']; exact hb _ h
  rename_i h'; rw [if_neg h']
  split at h
  · exact absurd rfl h
  rename_i h'; rw [if_neg h']
  split at h
  · rename_i h'; rw [if_pos h']; exact hb _ h
  rename_i h'; rw [if_neg h']
  split at h
  · rename_i h'; rw [if_pos h']
    unfold textW at h ⊢
    split at h
    · rename_i h'; rw [if_pos h']
    · exact absurd rfl h
  · rename_i h'; rw [if_neg h']
    unfold listW at h ⊢
    split at h
    · rename_i h'; rw [if_pos h']
    rename_i h'; rw [if_neg h']
    split at h
    · rename_i h'; rw [if_pos h']
    · exact absurd rfl h
end Go.Wr
