/- The laws' plain part: calls on journals whose state is known. -/
import Derived.Test.YtnhejdnigblnoaaJnX
namespace Go.Jn
open Go Go.SL Go.Dk
set_option linter.unusedVariables false
section
variable {S : List ByteArray} {t s : ByteArray} {q : Int} {dn : Bool} {k : Nat}
theorem Ok.wf (h : Ok S t q) : WF ⟨S, [], dn, k, none⟩ := ⟨h.wfl, fun _ _ h => by cases h⟩
theorem put_js (h : Ok S t q) (hq : q < 9223372036854775807) (hs : s.size ≤ half S * 64) (k : Nat) :
  ∃ S', S'.length = S.length ∧ Ok S' s (q + 1) ∧ (JS.mk t q false).put ⟨S, [], false, k, none⟩ s = (0, ⟨S', [], false, k + nPieces s + 3, none⟩, ⟨s, q + 1, false⟩) := by
 obtain ⟨S', h1, h2, h3⟩ := put_ends h hq hs k
 refine ⟨S', h1, h2, ?_⟩
 rw [JS.put, if_neg (by simp), if_neg (by show ¬ half S * 64 < s.size; omega), h3, if_pos rfl]
theorem put_big {c : Option (Nat × Int)} (hs : half S * 64 < s.size) : (JS.mk t q false).put ⟨S, [], false, k, c⟩ s = (5, ⟨S, [], false, k, c⟩, ⟨t, q, false⟩) := by
 rw [JS.put, if_neg (by simp), if_pos hs]
end
theorem few (s : ByteArray) {n : Nat} (h : s.size ≤ n) : nPieces s ≤ (n + 63) / 64 := by unfold nPieces; omega
/-! ### Texts -/
def txtB (b i : Nat) : UInt8 := UInt8.ofNat (b + i % 7)
def txtL (b n : Nat) : List UInt8 := (List.range n).map (txtB b)
def txt (n : Int) (b : Nat) : ByteArray := if n < 0 ∨ n > 131072 then ⟨#[]⟩ else ⟨(txtL b n.toNat).toArray⟩
theorem txtL_len (b n : Nat) : (txtL b n).length = n := by simp [txtL]
theorem txt_step {b n k : Nat} (h : k < n) : (txtL b k ++ List.replicate (n - k) 0).set k (txtB b k) = txtL b (k + 1) ++ List.replicate (n - (k + 1)) 0 := by
 rw [List.set_append_right _ _ (by rw [txtL_len]; exact Nat.le_refl _), txtL_len, Nat.sub_self, show n - k = (n - (k + 1)) + 1 by omega, List.replicate_succ, List.set_cons_zero]
 simp [txtL, List.range_succ]
theorem txt_val {b k : Nat} (hb : b < 256) : IntKind.u8.wrap ((b : Int) + (((k % 7 : Nat)) : Int)) = ((txtB b k).toNat : Int) := by
 rw [wrap8, txtB, UInt8.toNat_ofNat']
 omega
theorem tmod7 (k : Nat) : ((k : Nat) : Int).tmod 7 = ((k % 7 : Nat) : Int) := rfl
theorem txt_size {n : Int} {b : Nat} (h0 : 0 ≤ n) (h1 : n ≤ 131072) : (((txt n b).size : Nat) : Int) = n := by
 rw [txt, if_neg (by omega)]
 show (((txtL b n.toNat).toArray.size : Nat) : Int) = n
 rw [List.size_toArray, txtL_len]
 omega
theorem txt_le (n : Int) (b : Nat) : (txt n b).size ≤ 131072 := by
  by_cases h : n < 0 ∨ n > 131072
  · rw [txt, if_pos h]; exact Nat.zero_le _
  · have := txt_size (n := n) (b := b) (by omega) (by omega)
    omega
end Go.Jn
