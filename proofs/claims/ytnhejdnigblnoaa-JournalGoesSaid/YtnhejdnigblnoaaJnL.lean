/- The laws' plain part: calls on journals whose state is known. -/
import Derived.Test.YtnhejdnigblnoaaJnX
namespace Go.Jn
open Go Go.SL Go.Dk
set_option linter.unusedVariables false
section
variable {S : List ByteArray} {t s : ByteArray} {q : Int} {dn : Bool} {k : Nat}
theorem Ok.wf (h : Ok S t q) : WF ⟨S, [], dn, k, none⟩ := ⟨h.wfl, fun _ _ h => by cases h⟩
theorem Ok.wfc (h : Ok S t q) {c : Nat} {b : Int} (hc : c ≤ 9223372036854775807) : WF ⟨S, [], dn, k, some (c, b)⟩ := ⟨h.wfl, fun n b' e => by cases e; exact hc⟩
theorem Ok.rng (h : Ok S t q) : 0 ≤ q ∧ q ≤ 9223372036854775807 ∧ 4 ≤ S.length := opens_rng h.opens
theorem low_any (d : DS) : LowD 9223372036854775807 d := ⟨fun _ _ _ _ hn _ => hn.2, fun _ _ _ _ _ hn _ => hn.2⟩
theorem put_kp {d : DS} (h : WF d) (h0 : 0 ≤ q) (hq : q < 9223372036854775807) : Kp d (putD d q s).2 (nPieces s + 3) := (put_keeps h (low_any d) h0 (by omega) (Int.le_refl _)).1
theorem put_js (h : Ok S t q) (hq : q < 9223372036854775807) (hs : s.size ≤ half S * 64) (k : Nat) :
    ∃ S', S'.length = S.length ∧ Ok S' s (q + 1) ∧ (JS.mk t q false).put ⟨S, [], false, k, none⟩ s = (0, ⟨S', [], false, k + nPieces s + 3, none⟩, ⟨s, q + 1, false⟩) := by
  obtain ⟨S', h1, h2, h3⟩ := put_ends h hq hs k
  refine ⟨S', h1, h2, ?_⟩
  rw [JS.put, if_neg (by simp), if_neg (by show ¬ half S * 64 < s.size; omega), h3, if_pos rfl]
theorem put_big {c : Option (Nat × Int)} (hs : half S * 64 < s.size) : (JS.mk t q false).put ⟨S, [], false, k, c⟩ s = (5, ⟨S, [], false, k, c⟩, ⟨t, q, false⟩) := by
  rw [JS.put, if_neg (by simp), if_pos hs]
theorem cut_js (h : Ok S t q) (hq : q < 9223372036854775807) (hs : s.size ≤ half S * 64) (k : Nat) {c : Nat} (bits : Int) (hc : c ≤ 9223372036854775807) :
    ∃ S' k' t' q', S'.length = S.length ∧ Ok S' t' q' ∧ k' ≤ k + nPieces s + 3 ∧
      ((nPieces s + 3 ≤ c ∧ t' = s ∧ q' = q + 1 ∧ (JS.mk t q false).put ⟨S, [], false, k, some (c, bits)⟩ s = (0, ⟨S', [], false, k', some (c - nPieces s - 3, bits)⟩, ⟨s, q + 1, false⟩)) ∨
       (c < nPieces s + 3 ∧ (c < nPieces s + 2 → t' = t ∧ q' = q) ∧ ((t' = t ∧ q' = q) ∨ (t' = s ∧ q' = q + 1)) ∧ (JS.mk t q false).put ⟨S, [], false, k, some (c, bits)⟩ s = (6, ⟨S', [], true, k', none⟩, ⟨t, q, true⟩))) := by
  obtain ⟨S', k', t', q', h1, h2, h3⟩ := cut_ends h hq hs k c bits
  have hk := (put_kp (s := s) (h.wfc (dn := false) (k := k) (c := c) (b := bits) hc) h.rng.1 hq).count
  have e : ∀ r, putD ⟨S, [], false, k, some (c, bits)⟩ q s = r → (JS.mk t q false).put ⟨S, [], false, k, some (c, bits)⟩ s = if r.1 = 0 then (0, r.2, ⟨s, q + 1, false⟩) else (r.1, r.2, ⟨t, q, true⟩) := fun r hr => by
    rw [JS.put, if_neg (by simp), if_neg (by show ¬ half S * 64 < s.size; omega), hr]
  refine ⟨S', k', t', q', h1, h2, ?_, ?_⟩
  · rcases h3 with ⟨_, _, _, hp⟩ | ⟨_, _, _, hp⟩ <;> (rw [hp] at hk; have hk : k' ≤ k + (nPieces s + 3) := hk; omega)
  · rcases h3 with ⟨g1, g2, g3, hp⟩ | ⟨g1, g2, g3, hp⟩
    · exact .inl ⟨g1, g2, g3, by rw [e _ hp, if_pos rfl]⟩
    · exact .inr ⟨g1, g2, g3, by rw [e _ hp, if_neg (by show ¬ (6 : Int) = 0; decide)]⟩
/-- A Put, of whatever length. -/
theorem put_any (h : Ok S t q) (hq : q < 9223372036854775807) (s : ByteArray) (k : Nat) :
    ∃ e S' k' t' q', S'.length = S.length ∧ Ok S' t' q' ∧ k' ≤ k + nPieces s + 3 ∧ q' ≤ q + 1 ∧ (JS.mk t q false).put ⟨S, [], false, k, none⟩ s = (e, ⟨S', [], false, k', none⟩, ⟨t', q', false⟩) := by
  by_cases hs : s.size ≤ half S * 64
  · obtain ⟨S', h1, h2, h3⟩ := put_js h hq hs k
    exact ⟨_, S', _, s, q + 1, h1, h2, by omega, by omega, h3⟩
  · exact ⟨_, S, k, t, q, rfl, h, by omega, by omega, put_big (by omega)⟩
theorem cut_any (h : Ok S t q) (hq : q < 9223372036854775807) (s : ByteArray) (k : Nat) {c : Nat} (bits : Int) (hc : c ≤ 9223372036854775807) :
    ∃ e S' k' t' q' dn c' js, S'.length = S.length ∧ Ok S' t' q' ∧ k' ≤ k + nPieces s + 3 ∧ q' ≤ q + 1 ∧ WF ⟨S', [], dn, k', c'⟩ ∧ (dn = true → c' = none) ∧ (JS.mk t q false).put ⟨S, [], false, k, some (c, bits)⟩ s = (e, ⟨S', [], dn, k', c'⟩, js) := by
  by_cases hs : s.size ≤ half S * 64
  · obtain ⟨S', k', t', q', h1, h2, h3, h4⟩ := cut_js h hq hs k bits hc
    rcases h4 with ⟨_, g2, g3, hp⟩ | ⟨_, _, g3, hp⟩
    · exact ⟨_, S', k', t', q', _, _, _, h1, h2, h3, by omega, h2.wfc (by omega), (fun h => by cases h), hp⟩
    · exact ⟨_, S', k', t', q', _, _, _, h1, h2, h3, by rcases g3 with g | g <;> (have := g.2; omega), h2.wf, (fun _ => rfl), hp⟩
  · exact ⟨_, S, k, t, q, _, _, _, rfl, h, by omega, by omega, h.wfc hc, (fun h => by cases h), put_big (by omega)⟩
end
theorem cut_ok {S : List ByteArray} {G : List (Nat × ByteArray)} {k : Nat} {c : Option (Nat × Int)} {n b : Int} (hn : ¬ n < 0) : (⟨S, G, false, k, c⟩ : DS).cutTo n b = (0, ⟨S, G, false, k, some (n.toNat, b)⟩) := by
  rw [DS.cutTo, if_neg (by simp), if_neg hn]
theorem cost_size (s : ByteArray) : (cost ((s.size : Nat) : Int)) = (((nPieces s + 3 : Nat) : Int), 0) := by
  rw [cost, if_neg (by omega)]
  unfold nPieces
  congr 1
theorem half_64 {S : List ByteArray} (h : S.length = 64) : half S = 31 := by rw [half, h]
theorem few (s : ByteArray) {n : Nat} (h : s.size ≤ n) : nPieces s ≤ (n + 63) / 64 := by unfold nPieces; omega
theorem beyond_three {n m k : Nat} (h : beyondB [(n : Int), (m : Int), (k : Int)] = false) : n ≤ 262144 ∧ m ≤ 262144 ∧ k ≤ 262144 := by
  have h1 := beyond_le h n (by simp)
  have h2 := beyond_le h m (by simp)
  have h3 := beyond_le h k (by simp)
  omega
/-! ### Texts -/
def txtB (b i : Nat) : UInt8 := UInt8.ofNat (b + i % 7)
def txtL (b n : Nat) : List UInt8 := (List.range n).map (txtB b)
def txt (n : Int) (b : Nat) : ByteArray := if n < 0 ∨ n > 131072 then ⟨#[]⟩ else ⟨(txtL b n.toNat).toArray⟩
theorem txtL_len (b n : Nat) : (txtL b n).length = n := by simp [txtL]
theorem txt_step {b n k : Nat} (h : k < n) : (txtL b k ++ List.replicate (n - k) 0).set k (txtB b k) = txtL b (k + 1) ++ List.replicate (n - (k + 1)) 0 := by
  rw [List.set_append_right _ _ (by rw [txtL_len]; exact Nat.le_refl _), txtL_len, Nat.sub_self, show n - k = (n - (k + 1)) + 1 by omega, List.replicate_succ, List.set_cons_zero]
  simp [txtL, List.range_succ]
theorem txt_val {b k : Nat} (hb : b < 256) : IntKind.u8.wrap ((b : Int) + (((k % 7 : Nat)) : Int)) = ((txtB b k).toNat : Int) := by
  rw [wrap8, txtB, UInt8.toNat_ofNat']
  omega
theorem tmod7 (k : Nat) : ((k : Nat) : Int).tmod 7 = ((k % 7 : Nat) : Int) := rfl
theorem txt_size {n : Int} {b : Nat} (h0 : 0 ≤ n) (h1 : n ≤ 131072) : (((txt n b).size : Nat) : Int) = n := by
  rw [txt, if_neg (by omega)]
  show (((txtL b n.toNat).toArray.size : Nat) : Int) = n
  rw [List.size_toArray, txtL_len]
  omega
theorem txt_le (n : Int) (b : Nat) : (txt n b).size ≤ 131072 := by
  by_cases h : n < 0 ∨ n > 131072
  · rw [txt, if_pos h]; exact Nat.zero_le _
  · have := txt_size (n := n) (b := b) (by omega) (by omega)
    omega
end Go.Jn
