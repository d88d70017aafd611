/- The journal's theorem, in plain data: wherever the disk goes down while a text is put, the text that was there is found, or the new one. -/
import Derived.Test.YtnhejdnigblnoaaJnP
namespace Go.Jn
open Go Go.SL Go.Dk
set_option linter.unusedVariables false

/-! ### Sectors behind writes -/
theorem readL_off {x : ByteArray} {i : Nat} : ∀ {ws : List (Nat × ByteArray)}, (∀ p ∈ ws, p.1 ≠ i) → readL x i ws = x
  | [], _ => rfl
  | p :: r, h => by rw [readL, if_neg (h p List.mem_cons_self), readL_off (fun q hq => h q (List.mem_cons_of_mem _ hq))]
theorem readL_pieces {s x : ByteArray} {f i : Nat} (h : i < nPieces s) : readL x (f + i) (pieces s f) = piece s i := by
  unfold pieces
  have key : ∀ m, readL x (f + i) ((List.range m).map fun j => (f + j, piece s j)) = if i < m then piece s i else x := by
    intro m
    induction m with
    | zero => rfl
    | succ m ih =>
      rw [List.range_succ, List.map_append, List.map_singleton, readL_snoc, ih]
      by_cases e : m = i
      · subst e; rw [if_pos rfl, if_pos (by omega)]
      · rw [if_neg (by omega)]
        by_cases h1 : i < m
        · rw [if_pos h1, if_pos (by omega)]
        · rw [if_neg h1, if_neg (by omega)]
  rw [key, if_pos h]
theorem pieces_mem {s : ByteArray} {f : Nat} {p : Nat × ByteArray} (h : p ∈ pieces s f) : f ≤ p.1 ∧ p.1 < f + nPieces s := by
  unfold pieces at h
  obtain ⟨i, hi, rfl⟩ := List.mem_map.1 h
  have := List.mem_range.1 hi
  simp only
  omega
theorem fallL_off {i : Nat} : ∀ {ws : List (Nat × ByteArray)} {S : List ByteArray} {b : Int}, (∀ p ∈ ws, p.1 ≠ i) → at0 (fallL S ws b) i = at0 S i
  | [], _, _, _ => rfl
  | p :: r, S, b, h => by
    rw [fallL, fallL_off (fun q hq => h q (List.mem_cons_of_mem _ hq))]
    show ((S.set p.1 _).getD i default) = _
    rw [List.getD_eq_getElem?_getD, List.getElem?_set_ne (h p List.mem_cons_self), ← List.getD_eq_getElem?_getD]
    rfl
theorem syncL_off {i : Nat} {ws : List (Nat × ByteArray)} {S : List ByteArray} (hok : okW S ws) (h : ∀ p ∈ ws, p.1 ≠ i) : at0 (syncL S ws) i = at0 S i := by
  show (syncL S ws).getD i default = _
  rw [syncL_getD ws S i (fun p hp => (hok p hp).1), readL_off h]
  rfl
theorem syncL_piece {s : ByteArray} {f i : Nat} {S : List ByteArray} (hok : okW S (pieces s f)) (h : i < nPieces s) : at0 (syncL S (pieces s f)) (f + i) = piece s i := by
  show (syncL S (pieces s f)).getD (f + i) default = _
  rw [syncL_getD _ S _ (fun p hp => (hok p hp).1), readL_pieces h]

/-! ### Heads, torn -/
def z32 : ByteArray := noughts.extract 32 64
theorem head_hi (n l : Int) : (headB n l).extract 32 64 = z32 := by
  apply ext_data
  rw [ByteArray.data_extract, Array.toList_extract]
  have h1 : (headL n l).drop 32 = List.replicate 32 0 := by
    show (bytesOf n 8 ++ (bytesOf l 4 ++ List.replicate 51 0)).drop 31 = _
    rw [List.drop_append, List.drop_of_length_le (by rw [bytesOf_len]; decide), bytesOf_len, List.nil_append, List.drop_append, List.drop_of_length_le (by rw [bytesOf_len]; decide), bytesOf_len, List.nil_append, List.drop_replicate]
  show List.extract ((headL n l).toArray).toList 32 64 = _
  rw [List.toList_toArray, List.extract_eq_take_drop, h1]
  rfl
theorem parse_hi {x : ByteArray} {n l : Int} (h : parse x = some (n, l)) : x.size = 64 ∧ x.extract 32 x.size = z32 := by
  rcases parse_some h with ⟨_, _, rfl⟩ | ⟨_, _, _, _, rfl⟩
  · exact ⟨rfl, rfl⟩
  · exact ⟨headB_size _ _, by rw [headB_size]; exact head_hi _ _⟩
theorem cut_cat {x : ByteArray} (h : x.size = 64) (h2 : x.extract 32 x.size = z32) : x.extract 0 32 ++ z32 = x := by
  rw [← h2, ByteArray.extract_append_extract, show min 0 32 = 0 from rfl, show max 32 x.size = x.size by omega, ByteArray.extract_zero_size]
theorem torn_head {old h : ByteArray} {n l m k : Int} (h1 : parse old = some (n, l)) (h2 : parse h = some (m, k)) (b : Int) : torn old h b = old ∨ torn old h b = h := by
  have g1 := parse_hi h1
  have g2 := parse_hi h2
  unfold torn
  split
  · exact .inl rfl
  split
  · exact .inr rfl
  split
  · rw [g1.2, cut_cat g2.1 g2.2]; exact .inr rfl
  · rw [g2.2, cut_cat g1.1 g1.2]; exact .inl rfl

/-! ### A Put, whatever becomes of it -/
structure Ok (S : List ByteArray) (t : ByteArray) (q : Int) : Prop where
  opens : Opens S t q
  le : S.length ≤ 4096
  size : ∀ s ∈ S, s.size = 64
theorem Ok.wfl {S : List ByteArray} {t : ByteArray} {q : Int} (h : Ok S t q) : WFl S [] := ⟨h.le, h.size, fun _ h => (by cases h), fun _ h => (by cases h)⟩
section
variable {S : List ByteArray} {t s : ByteArray} {q : Int}
theorem first_far (S : List ByteArray) (q : Int) : 2 ≤ first S q := by unfold first; split <;> omega
theorem first_apart {S : List ByteArray} {q : Int} {i j : Nat} (hi : i < half S) (hj : j < half S) : first S (q + 1) + j ≠ first S q + i := by
  unfold first
  rcases Int.emod_two_eq q with hm | hm
  · rw [if_pos (show (q + 1) % 2 = 1 by omega), if_neg (show ¬ q % 2 = 1 by omega)]; omega
  · rw [if_neg (show ¬ (q + 1) % 2 = 1 by omega), if_pos hm]; omega
theorem pieces_few (hs : s.size ≤ half S * 64) : nPieces s ≤ half S := by unfold nPieces; omega
theorem sync_sizes (h : Ok S t q) (hs : s.size ≤ half S * 64) {f : Nat} (hok : okW S (pieces s f)) : WFl (syncL S (pieces s f)) [] := wf_syncL _ _ h.le h.size (fun p hp => (hok p hp).2)
/-- The text's sectors alone are lost, or stay, or are torn. -/
theorem ok_fall (h : Ok S t q) (hs : s.size ≤ half S * 64) (ws : List (Nat × ByteArray)) (hw : ∀ p ∈ ws, p ∈ pieces s (first S (q + 1))) (b : Int) : Ok (fallL S ws b) t q := by
  have hr := opens_rng h.opens
  have hok := pieces_ok (q := q + 1) hs hr.2.2
  have hn := pieces_few (S := S) hs
  have hf := first_far S (q + 1)
  refine ⟨opens_keep h.opens (fallL_len _ _ _) (fallL_off fun p hp => ?_) (fallL_off fun p hp => ?_) (fun i hi => fallL_off fun p hp => ?_), by rw [fallL_len]; exact h.le, wf_fallL h.wfl ws b S (fun p hp => hok p (hw p hp)) h.size⟩
  · have := pieces_mem (hw p hp); omega
  · have := pieces_mem (hw p hp); omega
  · have := pieces_mem (hw p hp)
    have h2 := first_apart (q := q) (j := p.1 - first S (q + 1)) hi (by omega)
    omega
theorem ok_sync (h : Ok S t q) (hs : s.size ≤ half S * 64) : Ok (syncL S (pieces s (first S (q + 1)))) t q := by
  have hr := opens_rng h.opens
  have hok := pieces_ok (q := q + 1) hs hr.2.2
  have hn := pieces_few (S := S) hs
  have hf := first_far S (q + 1)
  have hwf := sync_sizes h hs hok
  refine ⟨opens_keep h.opens (syncL_len _ _) (syncL_off hok fun p hp => ?_) (syncL_off hok fun p hp => ?_) (fun i hi => syncL_off hok fun p hp => ?_), hwf.len, hwf.size⟩
  · have := pieces_mem hp; omega
  · have := pieces_mem hp; omega
  · have := pieces_mem hp
    have h2 := first_apart (q := q) (j := p.1 - first S (q + 1)) hi (by omega)
    omega
/-- With its head in its place the new text is there. -/
theorem ok_head (h : Ok S t q) (hq : q < 9223372036854775807) (hs : s.size ≤ half S * 64) {a : Nat} (ha : (a : Int) = q % 2) : Ok ((syncL S (pieces s (first S (q + 1)))).set a (headB (q + 1) (s.size : Int))) s (q + 1) := by
  have hr := opens_rng h.opens
  have hok := pieces_ok (q := q + 1) hs hr.2.2
  have hn := pieces_few (S := S) hs
  have hf := first_far S (q + 1)
  have hwf := sync_sizes h hs hok
  have hlen : a < (syncL S (pieces s (first S (q + 1)))).length := by rw [syncL_len]; omega
  refine ⟨opens_put h.opens hq (by rw [List.length_set, syncL_len]) hs h.le ha ?_ ?_ (fun i hi => ?_), by rw [List.length_set]; exact hwf.len, fun x hx => ?_⟩
  · show ((syncL S _).set a _).getD a default = _
    rw [getD_set hlen, if_pos rfl]
  · show ((syncL S _).set a _).getD (1 - a) default = _
    rw [getD_set hlen, if_neg (by omega)]
    refine syncL_off hok fun p hp => ?_
    have := pieces_mem hp; omega
  · show ((syncL S _).set a _).getD (first S (q + 1) + i) default = _
    rw [getD_set hlen, if_neg (by omega)]
    exact syncL_piece hok hi
  · rcases List.mem_or_eq_of_mem_set hx with hx | rfl
    · exact hwf.size _ hx
    · exact headB_size _ _
theorem parse_at (h : Opens S t q) {a : Nat} (ha : a ≤ 1) : ∃ n l, parse (at0 S a) = some (n, l) := by
  obtain ⟨x, lx, y, ly, hh, _⟩ := opens_iff.1 h
  rcases (show a = 0 ∨ a = 1 by omega) with rfl | rfl
  · exact ⟨_, _, hh.p0⟩
  · exact ⟨_, _, hh.p1⟩
/-- A torn head is the old one, or the new one. -/
theorem ok_torn (h : Ok S t q) (hq : q < 9223372036854775807) (hs : s.size ≤ half S * 64) {a : Nat} (ha : (a : Int) = q % 2) (b : Int) :
    Ok (fallL (syncL S (pieces s (first S (q + 1)))) [(a, headB (q + 1) (s.size : Int))] b) t q ∨ Ok (fallL (syncL S (pieces s (first S (q + 1)))) [(a, headB (q + 1) (s.size : Int))] b) s (q + 1) := by
  have hr := opens_rng h.opens
  have h1 := ok_sync h hs
  obtain ⟨n, l, hp⟩ := parse_at h1.opens (show a ≤ 1 by omega)
  have hh4 : half S * 64 < 4294967296 := by have := h.le; unfold half; omega
  have hpar : parse (headB (q + 1) (s.size : Int)) = some (q + 1, (s.size : Int)) := parse_head ⟨by omega, by omega⟩ (by omega) (by omega) (by omega)
  rcases torn_head hp hpar (b % 4) with e | e
  · refine .inl ?_
    show Ok ((syncL S _).set a (torn ((syncL S _).getD a default) _ (b % 4))) t q
    rw [show torn ((syncL S (pieces s (first S (q + 1)))).getD a default) (headB (q + 1) (s.size : Int)) (b % 4) = at0 (syncL S (pieces s (first S (q + 1)))) a from e, at0, set_getD]
    exact h1
  · refine .inr ?_
    show Ok ((syncL S _).set a (torn ((syncL S _).getD a default) _ (b % 4))) s (q + 1)
    rw [show torn ((syncL S (pieces s (first S (q + 1)))).getD a default) (headB (q + 1) (s.size : Int)) (b % 4) = headB (q + 1) (s.size : Int) from e]
    exact ok_head h hq hs ha
end
/-- What a Put comes to, without a cut. -/
theorem put_ends {S : List ByteArray} {t s : ByteArray} {q : Int} (h : Ok S t q) (hq : q < 9223372036854775807) (hs : s.size ≤ half S * 64) (k : Nat) :
    ∃ S', S'.length = S.length ∧ Ok S' s (q + 1) ∧ putD ⟨S, [], false, k, none⟩ q s = (0, ⟨S', [], false, k + nPieces s + 3, none⟩) := by
  obtain ⟨a, ha, _⟩ := mod2 q
  exact ⟨_, by rw [List.length_set, syncL_len], ok_head h hq hs ha, put_none hs (opens_rng h.opens).2.2 ha⟩
/-- What a Put comes to, under a cut. -/
theorem cut_ends {S : List ByteArray} {t s : ByteArray} {q : Int} (h : Ok S t q) (hq : q < 9223372036854775807) (hs : s.size ≤ half S * 64) (k c : Nat) (bits : Int) :
    ∃ S' k' t' q', S'.length = S.length ∧ Ok S' t' q' ∧
      ((nPieces s + 3 ≤ c ∧ t' = s ∧ q' = q + 1 ∧ putD ⟨S, [], false, k, some (c, bits)⟩ q s = (0, ⟨S', [], false, k', some (c - nPieces s - 3, bits)⟩)) ∨
       (c < nPieces s + 3 ∧ (c < nPieces s + 2 → t' = t ∧ q' = q) ∧ ((t' = t ∧ q' = q) ∨ (t' = s ∧ q' = q + 1)) ∧ putD ⟨S, [], false, k, some (c, bits)⟩ q s = (6, ⟨S', [], true, k', none⟩))) := by
  obtain ⟨a, ha, _⟩ := mod2 q
  have hp := put_cut (k := k) (c := c) (bits := bits) (q := q) hs (opens_rng h.opens).2.2 ha
  by_cases h1 : c < nPieces s
  · rw [if_pos h1] at hp
    exact ⟨_, _, t, q, fallL_len _ _ _, ok_fall h hs _ (fun p hp => List.mem_of_mem_take (List.mem_of_mem_take hp)) bits, .inr ⟨by omega, fun _ => ⟨rfl, rfl⟩, .inl ⟨rfl, rfl⟩, hp⟩⟩
  rw [if_neg h1] at hp
  by_cases h2 : c = nPieces s
  · rw [if_pos h2] at hp
    exact ⟨_, _, t, q, fallL_len _ _ _, ok_fall h hs _ (fun p hp => List.mem_of_mem_take hp) bits, .inr ⟨by omega, fun _ => ⟨rfl, rfl⟩, .inl ⟨rfl, rfl⟩, hp⟩⟩
  rw [if_neg h2] at hp
  by_cases h3 : c = nPieces s + 1
  · rw [if_pos h3] at hp
    exact ⟨_, _, t, q, syncL_len _ _, ok_sync h hs, .inr ⟨by omega, fun _ => ⟨rfl, rfl⟩, .inl ⟨rfl, rfl⟩, hp⟩⟩
  rw [if_neg h3] at hp
  by_cases h4 : c = nPieces s + 2
  · rw [if_pos h4] at hp
    rcases ok_torn h hq hs ha bits with ho | ho
    · exact ⟨_, _, t, q, by rw [fallL_len, syncL_len], ho, .inr ⟨by omega, fun _ => ⟨rfl, rfl⟩, .inl ⟨rfl, rfl⟩, hp⟩⟩
    · exact ⟨_, _, s, q + 1, by rw [fallL_len, syncL_len], ho, .inr ⟨by omega, fun hc => by omega, .inr ⟨rfl, rfl⟩, hp⟩⟩
  rw [if_neg h4] at hp
  exact ⟨_, _, s, q + 1, by rw [List.length_set, syncL_len], ok_head h hq hs ha, .inl ⟨by omega, rfl, rfl, hp⟩⟩
theorem openD_up {S : List ByteArray} {t : ByteArray} {q : Int} {k : Nat} {c : Option (Nat × Int)} (h : Ok S t q) : openD ⟨S, [], false, k, c⟩ = (0, some (t, q)) := h.opens
theorem ok_new {n : Nat} (h4 : 4 ≤ n) (h : n ≤ 4096) : Ok (List.replicate n noughts) ByteArray.empty 0 := by
  have e : ∀ i, i < n → at0 (List.replicate n noughts) i = noughts := fun i hi => by unfold at0; simp [List.getD, hi]
  refine ⟨opens_iff.2 ⟨0, 0, 0, 0, ⟨by simpa using h4, by rw [e 0 (by omega)]; exact parse_noughts, by rw [e 1 (by omega)]; exact parse_noughts, by omega, by omega, by omega, by omega⟩, .inl ⟨rfl, rfl, rfl, rfl⟩⟩, by simpa using h, fun s hs => by rw [(List.mem_replicate.1 hs).2]; rfl⟩
end Go.Jn
