import Derived.Test.YtkndmgfahghcjaaGreatJnP
import Derived.Lib.AppendStr
/- The journal's theorem, in plain data: wherever the disk goes down while a text is put, the text that was there is found, or the new one. -/
namespace Go.Jn
open Go Go.SL Go.Dk
set_option linter.unusedVariables false

/-! ### Sectors behind writes -/
theorem readL_off {x : ByteArray} {i : Nat} : ∀ {ws : List (Nat × ByteArray)}, (∀ p ∈ ws, p.1 ≠ i) → readL x i ws = x
 | [], _ => rfl
 | p :: r, h => by rw [readL, if_neg (h p List.mem_cons_self), readL_off (fun q hq => h q (List.mem_cons_of_mem _ hq))]
theorem readL_pieces {s x : ByteArray} {f i : Nat} (h : i < nPieces s) : readL x (f + i) (pieces s f) = piece s i := by
  unfold pieces
  have key : ∀ m, readL x (f + i) ((List.range m).map fun j => (f + j, piece s j)) = if i < m then piece s i else x := by
    intro m
    induction m with
    | zero => rfl
    | succ m ih =>
      rw [List.range_succ, List.map_append, List.map_singleton, readL_snoc, ih]
      by_cases e : m = i
      · subst e; rw [if_pos rfl, if_pos (by omega)]
      · rw [if_neg (by omega)]
        by_cases h1 : i < m
        · rw [if_pos h1, if_pos (by omega)]
        · rw [if_neg h1, if_neg (by omega)]
  rw [key, if_pos h]
theorem pieces_mem {s : ByteArray} {f : Nat} {p : Nat × ByteArray} (h : p ∈ pieces s f) : f ≤ p.1 ∧ p.1 < f + nPieces s := by
 unfold pieces at h
 obtain ⟨i, hi, rfl⟩ := List.mem_map.1 h
 have := List.mem_range.1 hi
 simp only
 omega
theorem fallL_off {i : Nat} : ∀ {ws : List (Nat × ByteArray)} {S : List ByteArray} {b : Int}, (∀ p ∈ ws, p.1 ≠ i) → at0 (fallL S ws b) i = at0 S i
 | [], _, _, _ => rfl
 | p :: r, S, b, h => by
  rw [fallL, fallL_off (fun q hq => h q (List.mem_cons_of_mem _ hq))]
  show ((S.set p.1 _).getD i default) = _
  rw [List.getD_eq_getElem?_getD, List.getElem?_set_ne (h p List.mem_cons_self), ← List.getD_eq_getElem?_getD]
  rfl
theorem syncL_off {i : Nat} {ws : List (Nat × ByteArray)} {S : List ByteArray} (hok : okW S ws) (h : ∀ p ∈ ws, p.1 ≠ i) : at0 (syncL S ws) i = at0 S i := by
 show (syncL S ws).getD i default = _
 rw [syncL_getD ws S i (fun p hp => (hok p hp).1), readL_off h]
 rfl
theorem syncL_piece {s : ByteArray} {f i : Nat} {S : List ByteArray} (hok : okW S (pieces s f)) (h : i < nPieces s) : at0 (syncL S (pieces s f)) (f + i) = piece s i := by
 show (syncL S (pieces s f)).getD (f + i) default = _
 rw [syncL_getD _ S _ (fun p hp => (hok p hp).1), readL_pieces h]

/-! ### Heads, torn -/
def z32 : ByteArray := noughts.extract 32 64
theorem head_hi (n l : Int) : (headB n l).extract 32 64 = z32 := by
 apply ext_data
 rw [ByteArray.data_extract, Array.toList_extract]
 have h1 : (headL n l).drop 32 = List.replicate 32 0 := by
  show (bytesOf n 8 ++ (bytesOf l 4 ++ List.replicate 51 0)).drop 31 = _
  rw [List.drop_append, List.drop_of_length_le (by rw [bytesOf_len]; decide), bytesOf_len, List.nil_append, List.drop_append, List.drop_of_length_le (by rw [bytesOf_len]; decide), bytesOf_len, List.nil_append, List.drop_replicate]
 show List.extract ((headL n l).toArray).toList 32 64 = _
 rw [List.toList_toArray, List.extract_eq_take_drop, h1]
 rfl
theorem parse_hi {x : ByteArray} {n l : Int} (h : parse x = some (n, l)) : x.size = 64 ∧ x.extract 32 x.size = z32 := by
 rcases parse_some h with ⟨_, _, rfl⟩ | ⟨_, _, _, _, rfl⟩
 · exact ⟨rfl, rfl⟩
 · exact ⟨headB_size _ _, by rw [headB_size]; exact head_hi _ _⟩
theorem cut_cat {x : ByteArray} (h : x.size = 64) (h2 : x.extract 32 x.size = z32) : x.extract 0 32 ++ z32 = x := by
 rw [← h2, ByteArray.extract_append_extract, show min 0 32 = 0 from rfl, show max 32 x.size = x.size by omega, ByteArray.extract_zero_size]
theorem torn_head {old h : ByteArray} {n l m k : Int} (h1 : parse old = some (n, l)) (h2 : parse h = some (m, k)) (b : Int) : torn old h b = old ∨ torn old h b = h := by
 have g1 := parse_hi h1
 have g2 := parse_hi h2
 unfold torn
 split
 · exact .inl rfl
 split
 · exact .inr rfl
 split
 · rw [g1.2, cut_cat g2.1 g2.2]; exact .inr rfl
 · rw [g2.2, cut_cat g1.1 g1.2]; exact .inl rfl

/-! ### A Put, whatever becomes of it -/
structure Ok (S : List ByteArray) (t : ByteArray) (q : Int) : Prop where
 opens : Opens S t q
 le : S.length ≤ 4096
 size : ∀ s ∈ S, s.size = 64
theorem Ok.wfl {S : List ByteArray} {t : ByteArray} {q : Int} (h : Ok S t q) : WFl S [] := ⟨h.le, h.size, fun _ h => (by cases h), fun _ h => (by cases h)⟩
section
variable {S : List ByteArray} {t s : ByteArray} {q : Int}
theorem first_far (S : List ByteArray) (q : Int) : 2 ≤ first S q := by unfold first; split <;> omega
theorem first_apart {S : List ByteArray} {q : Int} {i j : Nat} (hi : i < half S) (hj : j < half S) : first S (q + 1) + j ≠ first S q + i := by
 unfold first
 rcases Int.emod_two_eq q with hm | hm
 · rw [if_pos (show (q + 1) % 2 = 1 by omega), if_neg (show ¬ q % 2 = 1 by omega)]; omega
 · rw [if_neg (show ¬ (q + 1) % 2 = 1 by omega), if_pos hm]; omega
theorem pieces_few (hs : s.size ≤ half S * 64) : nPieces s ≤ half S := by unfold nPieces; omega
theorem sync_sizes (h : Ok S t q) (hs : s.size ≤ half S * 64) {f : Nat} (hok : okW S (pieces s f)) : WFl (syncL S (pieces s f)) [] := wf_syncL _ _ h.le h.size (fun p hp => (hok p hp).2)
/-- The text's sectors alone are lost, or stay, or are torn. -/
theorem ok_fall (h : Ok S t q) (hs : s.size ≤ half S * 64) (ws : List (Nat × ByteArray)) (hw : ∀ p ∈ ws, p ∈ pieces s (first S (q + 1))) (b : Int) : Ok (fallL S ws b) t q := by
  have hr := opens_rng h.opens
  have hok := pieces_ok (q := q + 1) hs hr.2.2
  have hn := pieces_few (S := S) hs
  have hf := first_far S (q + 1)
  refine ⟨opens_keep h.opens (fallL_len _ _ _) (fallL_off fun p hp => ?_) (fallL_off fun p hp => ?_) (fun i hi => fallL_off fun p hp => ?_), by rw [fallL_len]; exact h.le, wf_fallL h.wfl ws b S (fun p hp => hok p (hw p hp)) h.size⟩
  · have := pieces_mem (hw p hp); omega
  · have := pieces_mem (hw p hp); omega
  · have := pieces_mem (hw p hp)
    have h2 := first_apart (q := q) (j := p.1 - first S (q + 1)) hi (by omega)
    omega
theorem ok_sync (h : Ok S t q) (hs : s.size ≤ half S * 64) : Ok (syncL S (pieces s (first S (q + 1)))) t q := by
  have hr := opens_rng h.opens
  have hok := pieces_ok (q := q + 1) hs hr.2.2
  have hn := pieces_few (S := S) hs
  have hf := first_far S (q + 1)
  have hwf := sync_sizes h hs hok
  refine ⟨opens_keep h.opens (syncL_len _ _) (syncL_off hok fun p hp => ?_) (syncL_off hok fun p hp => ?_) (fun i hi => syncL_off hok fun p hp => ?_), hwf.len, hwf.size⟩
  · have := pieces_mem hp; omega
  · have := pieces_mem hp; omega
  · have := pieces_mem hp
    have h2 := first_apart (q := q) (j := p.1 - first S (q + 1)) hi (by omega)
    omega
/-- With its head in its place the new text is there. -/
theorem ok_head (h : Ok S t q) (hq : q < 9223372036854775807) (hs : s.size ≤ half S * 64) {a : Nat} (ha : (a : Int) = q % 2) : Ok ((syncL S (pieces s (first S (q + 1)))).set a (headB (q + 1) (s.size : Int))) s (q + 1) := by
  have hr := opens_rng h.opens
  have hok := pieces_ok (q := q + 1) hs hr.2.2
  have hn := pieces_few (S := S) hs
  have hf := first_far S (q + 1)
  have hwf := sync_sizes h hs hok
  have hlen : a < (syncL S (pieces s (first S (q + 1)))).length := by rw [syncL_len]; omega
  refine ⟨opens_put h.opens hq (by rw [List.length_set, syncL_len]) hs h.le ha ?_ ?_ (fun i hi => ?_), by rw [List.length_set]; exact hwf.len, fun x hx => ?_⟩
  · show ((syncL S _).set a _).getD a default = _
    rw [getD_set hlen, if_pos rfl]
  · show ((syncL S _).set a _).getD (1 - a) default = _
    rw [getD_set hlen, if_neg (by omega)]
    refine syncL_off hok fun p hp => ?_
    have := pieces_mem hp; omega
  · show ((syncL S _).set a _).getD (first S (q + 1) + i) default = _
    rw [getD_set hlen, if_neg (by omega)]
    exact syncL_piece hok hi
  · rcases List.mem_or_eq_of_mem_set hx with hx | rfl
    · exact hwf.size _ hx
    · exact headB_size _ _
theorem parse_at (h : Opens S t q) {a : Nat} (ha : a ≤ 1) : ∃ n l, parse (at0 S a) = some (n, l) := by
 obtain ⟨x, lx, y, ly, hh, _⟩ := opens_iff.1 h
 rcases (show a = 0 ∨ a = 1 by omega) with rfl | rfl
 · exact ⟨_, _, hh.p0⟩
 · exact ⟨_, _, hh.p1⟩
/-- A torn head is the old one, or the new one. -/
theorem ok_torn (h : Ok S t q) (hq : q < 9223372036854775807) (hs : s.size ≤ half S * 64) {a : Nat} (ha : (a : Int) = q % 2) (b : Int) :
    Ok (fallL (syncL S (pieces s (first S (q + 1)))) [(a, headB (q + 1) (s.size : Int))] b) t q ∨ Ok (fallL (syncL S (pieces s (first S (q + 1)))) [(a, headB (q + 1) (s.size : Int))] b) s (q + 1) := by
  have hr := opens_rng h.opens
  have h1 := ok_sync h hs
  obtain ⟨n, l, hp⟩ := parse_at h1.opens (show a ≤ 1 by omega)
  have hh4 : half S * 64 < 4294967296 := by have := h.le; unfold half; omega
  have hpar : parse (headB (q + 1) (s.size : Int)) = some (q + 1, (s.size : Int)) := parse_head ⟨by omega, by omega⟩ (by omega) (by omega) (by omega)
  rcases torn_head hp hpar (b % 4) with e | e
  · refine .inl ?_
    show Ok ((syncL S _).set a (torn ((syncL S _).getD a default) _ (b % 4))) t q
    rw [show torn ((syncL S (pieces s (first S (q + 1)))).getD a default) (headB (q + 1) (s.size : Int)) (b % 4) = at0 (syncL S (pieces s (first S (q + 1)))) a from e, at0, set_getD]
    exact h1
  · refine .inr ?_
    show Ok ((syncL S _).set a (torn ((syncL S _).getD a default) _ (b % 4))) s (q + 1)
    rw [show torn ((syncL S (pieces s (first S (q + 1)))).getD a default) (headB (q + 1) (s.size : Int)) (b % 4) = headB (q + 1) (s.size : Int) from e]
    exact ok_head h hq hs ha
end
/-- What a Put comes to, without a cut. -/
theorem put_ends {S : List ByteArray} {t s : ByteArray} {q : Int} (h : Ok S t q) (hq : q < 9223372036854775807) (hs : s.size ≤ half S * 64) (k : Nat) :
  ∃ S', S'.length = S.length ∧ Ok S' s (q + 1) ∧ putD ⟨S, [], false, k, none⟩ q s = (0, ⟨S', [], false, k + nPieces s + 3, none⟩) := by
 obtain ⟨a, ha, _⟩ := mod2 q
 exact ⟨_, by rw [List.length_set, syncL_len], ok_head h hq hs ha, put_none hs (opens_rng h.opens).2.2 ha⟩
/-- What a Put comes to, under a cut. -/
theorem cut_ends {S : List ByteArray} {t s : ByteArray} {q : Int} (h : Ok S t q) (hq : q < 9223372036854775807) (hs : s.size ≤ half S * 64) (k c : Nat) (bits : Int) :
    ∃ S' k' t' q', S'.length = S.length ∧ Ok S' t' q' ∧
      ((nPieces s + 3 ≤ c ∧ t' = s ∧ q' = q + 1 ∧ putD ⟨S, [], false, k, some (c, bits)⟩ q s = (0, ⟨S', [], false, k', some (c - nPieces s - 3, bits)⟩)) ∨
       (c < nPieces s + 3 ∧ (c < nPieces s + 2 → t' = t ∧ q' = q) ∧ ((t' = t ∧ q' = q) ∨ (t' = s ∧ q' = q + 1)) ∧ putD ⟨S, [], false, k, some (c, bits)⟩ q s = (6, ⟨S', [], true, k', none⟩))) := by
  obtain ⟨a, ha, _⟩ := mod2 q
  have hp := put_cut (k := k) (c := c) (bits := bits) (q := q) hs (opens_rng h.opens).2.2 ha
  by_cases h1 : c < nPieces s
  · rw [if_pos h1] at hp
    exact ⟨_, _, t, q, fallL_len _ _ _, ok_fall h hs _ (fun p hp => List.mem_of_mem_take (List.mem_of_mem_take hp)) bits, .inr ⟨by omega, fun _ => ⟨rfl, rfl⟩, .inl ⟨rfl, rfl⟩, hp⟩⟩
  rw [if_neg h1] at hp
  by_cases h2 : c = nPieces s
  · rw [if_pos h2] at hp
    exact ⟨_, _, t, q, fallL_len _ _ _, ok_fall h hs _ (fun p hp => List.mem_of_mem_take hp) bits, .inr ⟨by omega, fun _ => ⟨rfl, rfl⟩, .inl ⟨rfl, rfl⟩, hp⟩⟩
  rw [if_neg h2] at hp
  by_cases h3 : c = nPieces s + 1
  · rw [if_pos h3] at hp
    exact ⟨_, _, t, q, syncL_len _ _, ok_sync h hs, .inr ⟨by omega, fun _ => ⟨rfl, rfl⟩, .inl ⟨rfl, rfl⟩, hp⟩⟩
  rw [if_neg h3] at hp
  by_cases h4 : c = nPieces s + 2
  · rw [if_pos h4] at hp
    rcases ok_torn h hq hs ha bits with ho | ho
    · exact ⟨_, _, t, q, by rw [fallL_len, syncL_len], ho, .inr ⟨by omega, fun _ => ⟨rfl, rfl⟩, .inl ⟨rfl, rfl⟩, hp⟩⟩
    · exact ⟨_, _, s, q + 1, by rw [fallL_len, syncL_len], ho, .inr ⟨by omega, fun hc => by omega, .inr ⟨rfl, rfl⟩, hp⟩⟩
  rw [if_neg h4] at hp
  exact ⟨_, _, s, q + 1, by rw [List.length_set, syncL_len], ok_head h hq hs ha, .inl ⟨by omega, rfl, rfl, hp⟩⟩
theorem openD_up {S : List ByteArray} {t : ByteArray} {q : Int} {k : Nat} {c : Option (Nat × Int)} (h : Ok S t q) : openD ⟨S, [], false, k, c⟩ = (0, some (t, q)) := h.opens
theorem ok_new {n : Nat} (h4 : 4 ≤ n) (h : n ≤ 4096) : Ok (List.replicate n noughts) ByteArray.empty 0 := by
 have e : ∀ i, i < n → at0 (List.replicate n noughts) i = noughts := fun i hi => by unfold at0; simp [List.getD, hi]
 refine ⟨opens_iff.2 ⟨0, 0, 0, 0, ⟨by simpa using h4, by rw [e 0 (by omega)]; exact parse_noughts, by rw [e 1 (by omega)]; exact parse_noughts, by omega, by omega, by omega, by omega⟩, .inl ⟨rfl, rfl, rfl, rfl⟩⟩, by simpa using h, fun s hs => by rw [(List.mem_replicate.1 hs).2]; rfl⟩
end Go.Jn

/- What the code's operations on heads come to. -/
namespace Go.Jn
open Go Go.SL Go.Dk
set_option linter.unusedVariables false
theorem bytesOf_get {n : Int} : ∀ {k i : Nat}, i < k → (bytesOf n k)[i]? = some (hByte n (k - 1 - i))
 | k + 1, 0, _ => rfl
 | k + 1, i + 1, h => by
  rw [bytesOf, List.getElem?_cons_succ, bytesOf_get (by omega)]
  congr 2; omega
theorem shr_byte (n : Int) {k : Nat} (hk : k ≤ 7) : IntKind.u8.wrap (n.fdiv (2 ^ min (Int.toNat ((8 * k : Nat) : Int)) IntKind.i64.bits)) = ((hByte n k).toNat : Int) := by
 rw [hByte_nat, wrap8, Int.toNat_natCast, show min (8 * k) IntKind.i64.bits = 8 * k from Nat.min_eq_left (by show 8 * k ≤ 64; omega), Int.pow_mul, Int.fdiv_eq_ediv_of_nonneg _ (Int.pow_nonneg (by decide))]
 rfl
theorem or_byte {a c : Int} (h0 : 0 ≤ c) (h1 : c < 256) : IntKind.i64.wrap ((BitVec.ofInt IntKind.i64.bits (IntKind.i64.wrap (a * 2 ^ min (Int.toNat 8) IntKind.i64.bits)) ||| BitVec.ofInt IntKind.i64.bits c).toNat) = IntKind.i64.wrap (a * 256 + c) := by
 show IntKind.i64.wrap ((BitVec.ofInt 64 (IntKind.i64.wrap (a * 256)) ||| BitVec.ofInt 64 c).toNat) = _
 obtain ⟨m, hm⟩ : ∃ m : Nat, (m : Int) = a % 72057594037927936 := ⟨(a % 72057594037927936).toNat, by omega⟩
 obtain ⟨k, rfl⟩ := Int.eq_ofNat_of_zero_le h0
 have e1 : (BitVec.ofInt 64 (IntKind.i64.wrap (a * 256))).toNat = m <<< 8 := by
  rw [BitVec.toNat_ofInt, wrap64, Nat.shiftLeft_eq]
  have : ((2 ^ 64 : Nat) : Int) = 18446744073709551616 := rfl
  rw [this]
  omega
 have e2 : (BitVec.ofInt 64 ((k : Nat) : Int)).toNat = k := by
  rw [BitVec.toNat_ofInt]
  have : ((2 ^ 64 : Nat) : Int) = 18446744073709551616 := rfl
  rw [this]
  omega
 rw [BitVec.toNat_or, e1, e2, ← Nat.shiftLeft_add_eq_or_of_lt (by omega), Nat.shiftLeft_eq, wrap64, wrap64]
 omega
theorem num_snoc (l : List UInt8) (c : UInt8) (a : Int) : num a (l ++ [c]) = IntKind.i64.wrap (num a l * 256 + (c.toNat : Int)) := by simp [num, List.foldl_append]

/-! ### A head, byte by byte -/
def hd1 (n : Int) (i : Nat) : List UInt8 := 74 :: ((bytesOf n 8).take i ++ List.replicate (63 - i) 0)
def hd2 (n l : Int) (i : Nat) : List UInt8 := 74 :: (bytesOf n 8 ++ ((bytesOf l 4).take i ++ List.replicate (55 - i) 0))
theorem set_at {A : List UInt8} {i m : Nat} {x : UInt8} (h : i = A.length) : (A ++ List.replicate (m + 1) 0).set i x = A ++ [x] ++ List.replicate m 0 := by
 subst h
 rw [List.set_append_right _ _ (Nat.le_refl _), Nat.sub_self, List.replicate_succ, List.set_cons_zero, List.append_assoc, List.singleton_append]
theorem hd1_step {n : Int} {i : Nat} (h : i < 8) : (hd1 n i).set (1 + i) (hByte n (7 - i)) = hd1 n (i + 1) := by
 have hg := bytesOf_get (n := n) (k := 8) h
 obtain ⟨hl, he⟩ := List.getElem?_eq_some_iff.1 hg
 unfold hd1
 rw [Nat.add_comm 1 i, List.set_cons_succ, show 63 - i = (63 - (i + 1)) + 1 by omega, set_at (by rw [List.length_take, bytesOf_len]; omega), List.take_succ_eq_append_getElem hl, he]
theorem hd1_len (n : Int) {i : Nat} (h : i ≤ 8) : (hd1 n i).length = 64 := by simp [hd1, bytesOf_len]; omega
theorem hd2_start (n l : Int) : hd1 n 8 = hd2 n l 0 := by
 unfold hd1 hd2
 rw [List.take_of_length_le (by rw [bytesOf_len]; exact Nat.le_refl _)]; rfl
theorem hd2_step {n l : Int} {i : Nat} (h : i < 4) : (hd2 n l i).set (9 + i) (hByte l (3 - i)) = hd2 n l (i + 1) := by
 have hg := bytesOf_get (n := l) (k := 4) h
 obtain ⟨hl, he⟩ := List.getElem?_eq_some_iff.1 hg
 unfold hd2
 rw [show 9 + i = (8 + i) + 1 by omega, List.set_cons_succ, List.set_append_right _ _ (by rw [bytesOf_len]; omega), bytesOf_len, show 8 + i - 8 = i by omega, show 55 - i = (55 - (i + 1)) + 1 by omega, set_at (by rw [List.length_take, bytesOf_len]; omega), List.take_succ_eq_append_getElem hl, he]
theorem hd2_len (n l : Int) {i : Nat} (h : i ≤ 4) : (hd2 n l i).length = 64 := by simp [hd2, bytesOf_len]; omega
theorem hd2_end (n l : Int) : hd2 n l 4 = headL n l := by
 unfold hd2 headL
 rw [List.take_of_length_le (by rw [bytesOf_len]; exact Nat.le_refl _)]
theorem sectors_eq {n : Nat} (h : 1 ≤ n) : (((n : Nat) : Int) - 2).tdiv 2 = (((n - 2) / 2 : Nat) : Int) := by
  rcases Nat.lt_or_ge n 2 with h2 | h2
  · obtain rfl : n = 1 := by omega
    rfl
  · rw [show ((n : Nat) : Int) - 2 = ((n - 2 : Nat) : Int) by omega]
    rfl
theorem tmod2_eq {q : Int} (h : 0 ≤ q) : q.tmod 2 = q % 2 := Int.tmod_eq_emod_of_nonneg h
theorem bytes_at {s : ByteArray} {i : Nat} (h : i < s.size) : ∃ c, s.data.toList[i]? = some c := ⟨_, List.getElem?_eq_getElem (by simpa using h)⟩
theorem take_at {s : ByteArray} {i : Nat} {c : UInt8} (h : s.data.toList[i]? = some c) : s.data.toList.take (i + 1) = s.data.toList.take i ++ [c] := by
 obtain ⟨hl, he⟩ := List.getElem?_eq_some_iff.1 h
 rw [List.take_succ_eq_append_getElem hl, he]
theorem str_at {s : ByteArray} {i m : Nat} {c : UInt8} {z : Value} (h : s.data.toList[i]? = some c) : ((s.data.toList.map fun b => Value.int .u8 b.toNat) ++ List.replicate m z)[i]? = some (.int .u8 ((c.toNat : Nat) : Int)) := by
 have hl := (List.getElem?_eq_some_iff.1 h).1
 rw [List.getElem?_append_left (by simpa using hl), List.getElem?_map, h]; rfl
/-- What parse tells. -/
def parseT (s : ByteArray) : Int × Int × Bool := if s = noughts then (0, 0, true) else (sNum s, sLen s, decide (0 < sNum s ∧ s = headB (sNum s) (sLen s)))
theorem cut_num {s : ByteArray} (h : s.size = 64) : num 0 ((s.extract 1 9).data.toList.take 8) = sNum s := by
 unfold sNum
 rw [ByteArray.data_extract, Array.toList_extract, List.extract_eq_take_drop, List.take_take]; rfl
theorem cut_len {s : ByteArray} (h : s.size = 64) : num 0 ((s.extract 9 13).data.toList.take 4) = sLen s := by
 unfold sLen
 rw [ByteArray.data_extract, Array.toList_extract, List.extract_eq_take_drop, List.take_take]; rfl
theorem rd_read {d : DS} {i : Nat} (hd : d.down = false) (h : i < d.secs.length) : d.read (i : Int) = (rd d i, 0) := read_ok hd (by omega)
theorem rd_size {d : DS} (hw : WF d) {i : Nat} (h : i < d.secs.length) : (rd d i).size = 64 := by
 have key : ∀ (l : List (Nat × ByteArray)) (x : ByteArray), x.size = 64 → (∀ p ∈ l, p.2.size = 64) → (readL x i l).size = 64 := by
  intro l
  induction l with
  | nil => intro x hx _; exact hx
  | cons p r ih =>
   intro x hx hl
   rw [readL]
   refine ih _ ?_ (fun q hq => hl q (List.mem_cons_of_mem _ hq))
   split
   · exact hl p List.mem_cons_self
   · exact hx
 exact key _ _ (by rw [List.getD_eq_getElem?_getD, List.getElem?_eq_getElem h]; exact hw.l.size _ (List.getElem_mem _)) hw.l.size'
theorem catR_size {R : Nat → ByteArray} {f : Nat} : ∀ k, (∀ i, i < k → (R (f + i)).size = 64) → (catR R f k).size = k * 64
 | 0, _ => rfl
 | k + 1, h => by rw [catR, ByteArray.size_append, catR_size k (fun i hi => h i (by omega)), h k (by omega)]; omega
theorem first_le {d : DS} (h4 : 4 ≤ d.secs.length) (q : Int) {k : Nat} (hk : k < half d.secs) : first d.secs q + k < d.secs.length := by
 unfold first half at *; split <;> omega
theorem wrap_succ {a : Int} (h0 : 0 ≤ a) (h1 : a ≤ 9223372036854775807) : (a < 9223372036854775807 ∧ IntKind.i64.wrap (a + 1) = a + 1) ∨ (a = 9223372036854775807 ∧ IntKind.i64.wrap (a + 1) = -9223372036854775808) := by
 rw [wrap64]; omega
theorem parse_T (s : ByteArray) : parse s = if (parseT s).2.2 = true then some ((parseT s).1, (parseT s).2.1) else none := by
  unfold parse parseT
  by_cases h : s = noughts
  · rw [if_pos h, if_pos h]; rfl
  · rw [if_neg h, if_neg h]
    by_cases h2 : 0 < sNum s ∧ s = headB (sNum s) (sLen s)
    · rw [if_pos h2, if_pos (decide_eq_true h2)]
    · rw [if_neg h2, if_neg (by simpa using h2)]
theorem parseT_rng {s : ByteArray} (h : (parseT s).2.2 = true) : 0 ≤ (parseT s).1 ∧ (parseT s).1 ≤ 9223372036854775807 ∧ 0 ≤ (parseT s).2.1 ∧ (parseT s).2.1 < 4294967296 := by
 have := parse_T s
 rw [if_pos h] at this
 rcases parse_some this with ⟨h1, h2, _⟩ | ⟨h1, h2, h3, h4, _⟩
 · omega
 · have := h2.2; omega
/-- What is opened, by what parse tells. -/
def openT (m : Nat) (x y : Int × Int × Bool) (f : Int → Int → ByteArray) : Int × Option (ByteArray × Int) :=
 if x.2.2 = true ∧ y.2.2 = true then
  if x.2.1 > (m : Int) ∨ y.2.1 > (m : Int) ∨ (0 < x.1 ∧ x.1 % 2 = 0) ∨ (0 < y.1 ∧ y.1 % 2 = 1) then (14, none)
  else if x.1 = 0 ∧ y.1 = 0 then (0, some (ByteArray.empty, 0))
  else if x.1 = y.1 + 1 then (0, some (f x.1 x.2.1, x.1))
  else if 0 < x.1 ∧ y.1 = x.1 + 1 then (0, some (f y.1 y.2.1, y.1))
  else (14, none)
 else (14, none)
theorem openD_T {d : DS} (hd : d.down = false) (h4 : 4 ≤ d.secs.length) : openD d = openT (half d.secs * 64) (parseT (rd d 0)) (parseT (rd d 1)) (fun a l => textR (rd d) (first d.secs a) l) := by
  rw [openD, if_neg (by simp [hd]), openR, if_neg (by omega), parse_T, parse_T, openT]
  by_cases h0 : (parseT (rd d 0)).2.2 = true
  · by_cases h1 : (parseT (rd d 1)).2.2 = true
    · rw [if_pos h0, if_pos h1, if_pos ⟨h0, h1⟩]
    · rw [if_pos h0, if_neg h1, if_neg (fun h => h1 h.2)]
  · rw [if_neg h0, if_neg (show ¬ ((parseT (rd d 0)).2.2 = true ∧ (parseT (rd d 1)).2.2 = true) from fun h => h0 h.1)]
section
variable {m : Nat} {x y : Int × Int × Bool} {f : Int → Int → ByteArray}
theorem openT_bad1 (h : x.2.2 = false ∨ y.2.2 = false) : openT m x y f = (14, none) := by
 rw [openT, if_neg]
 rintro ⟨h1, h2⟩
 rcases h with h | h
 · rw [h1] at h; cases h
 · rw [h2] at h; cases h
theorem openT_bad2 (h : x.2.1 > (m : Int) ∨ y.2.1 > (m : Int) ∨ (0 < x.1 ∧ x.1 % 2 = 0) ∨ (0 < y.1 ∧ y.1 % 2 = 1)) : openT m x y f = (14, none) := by
 rw [openT]
 by_cases hh : x.2.2 = true ∧ y.2.2 = true
 · rw [if_pos hh, if_pos h]
 · rw [if_neg hh]
theorem openT_bad3 (h : ¬ (x.1 = 0 ∧ y.1 = 0)) (h2 : ¬ x.1 = y.1 + 1) (h3 : ¬ (0 < x.1 ∧ y.1 = x.1 + 1)) : openT m x y f = (14, none) := by
  rw [openT]
  by_cases hh : x.2.2 = true ∧ y.2.2 = true
  · rw [if_pos hh, if_neg h, if_neg h2, if_neg h3]
    split <;> rfl
  · rw [if_neg hh]
theorem openT_zero (hx : x.2.2 = true) (hy : y.2.2 = true) (h : ¬ (x.2.1 > (m : Int) ∨ y.2.1 > (m : Int) ∨ (0 < x.1 ∧ x.1 % 2 = 0) ∨ (0 < y.1 ∧ y.1 % 2 = 1))) (h1 : x.1 = 0 ∧ y.1 = 0) : openT m x y f = (0, some (ByteArray.empty, 0)) := by
 rw [openT, if_pos ⟨hx, hy⟩, if_neg h, if_pos h1]
theorem openT_a (hx : x.2.2 = true) (hy : y.2.2 = true) (h : ¬ (x.2.1 > (m : Int) ∨ y.2.1 > (m : Int) ∨ (0 < x.1 ∧ x.1 % 2 = 0) ∨ (0 < y.1 ∧ y.1 % 2 = 1))) (h1 : ¬ (x.1 = 0 ∧ y.1 = 0)) (h2 : x.1 = y.1 + 1) : openT m x y f = (0, some (f x.1 x.2.1, x.1)) := by
 rw [openT, if_pos ⟨hx, hy⟩, if_neg h, if_neg h1, if_pos h2]
theorem openT_b (hx : x.2.2 = true) (hy : y.2.2 = true) (h : ¬ (x.2.1 > (m : Int) ∨ y.2.1 > (m : Int) ∨ (0 < x.1 ∧ x.1 % 2 = 0) ∨ (0 < y.1 ∧ y.1 % 2 = 1))) (h1 : ¬ (x.1 = 0 ∧ y.1 = 0)) (h2 : ¬ x.1 = y.1 + 1) (h3 : 0 < x.1 ∧ y.1 = x.1 + 1) : openT m x y f = (0, some (f y.1 y.2.1, y.1)) := by
 rw [openT, if_pos ⟨hx, hy⟩, if_neg h, if_neg h1, if_neg h2, if_pos h3]
end
theorem strCells_app (a b : ByteArray) : Lib.strCells (a ++ b) = Lib.strCells a ++ Lib.strCells b := by simp [Lib.strCells, ByteArray.data_append]
end Go.Jn

