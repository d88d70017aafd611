import Derived.Test.YtkndmgfahghcjaaGreatJnP
/- The journal's theorem, in plain data: wherever the disk goes down while a text is put, the text that was there is found, or the new one. -/
namespace Go.Jn
open Go Go.SL Go.Dk
set_option linter.unusedVariables false

/-! ### Sectors behind writes -/
theorem readL_off {x : ByteArray} {i : Nat} : ∀ {ws : List (Nat × ByteArray)}, (∀ p ∈ ws, p.1 ≠ i) → readL x i ws = x
 | [], _ => rfl
 | p :: r, h => by rw [readL, if_neg (h p List.mem_cons_self), readL_off (fun q hq => h q (List.mem_cons_of_mem _ hq))]
theorem readL_pieces {s x : ByteArray} {f i : Nat} (h : i < nPieces s) : readL x (f + i) (pieces s f) = piece s i := by
  unfold pieces
  have key : ∀ m, readL x (f + i) ((List.range m).map fun j => (f + j, piece s j)) = if i < m then piece s i else x := by
    intro m
    induction m with
    | zero => rfl
    | succ m ih =>
      rw [List.range_succ, List.map_append, List.map_singleton, readL_snoc, ih]
      by_cases e : m = i
      · subst e; rw [if_pos rfl, if_pos (by omega)]
      · rw [if_neg (by omega)]
        by_cases h1 : i < m
        · rw [if_pos h1, if_pos (by omega)]
        · rw [if_neg h1, if_neg (by omega)]
  rw [key, if_pos h]
theorem pieces_mem {s : ByteArray} {f : Nat} {p : Nat × ByteArray} (h : p ∈ pieces s f) : f ≤ p.1 ∧ p.1 < f + nPieces s := by
 unfold pieces at h
 obtain ⟨i, hi, rfl⟩ := List.mem_map.1 h
 have := List.mem_range.1 hi
 simp only
 omega
theorem syncL_off {i : Nat} {ws : List (Nat × ByteArray)} {S : List ByteArray} (hok : okW S ws) (h : ∀ p ∈ ws, p.1 ≠ i) : at0 (syncL S ws) i = at0 S i := by
 show (syncL S ws).getD i default = _
 rw [syncL_getD ws S i (fun p hp => (hok p hp).1), readL_off h]
 rfl
theorem syncL_piece {s : ByteArray} {f i : Nat} {S : List ByteArray} (hok : okW S (pieces s f)) (h : i < nPieces s) : at0 (syncL S (pieces s f)) (f + i) = piece s i := by
 show (syncL S (pieces s f)).getD (f + i) default = _
 rw [syncL_getD _ S _ (fun p hp => (hok p hp).1), readL_pieces h]

/-! ### Heads, torn -/
def z32 : ByteArray := noughts.extract 32 64
/-! ### A Put, whatever becomes of it -/
structure Ok (S : List ByteArray) (t : ByteArray) (q : Int) : Prop where
 opens : Opens S t q
 le : S.length ≤ 4096
 size : ∀ s ∈ S, s.size = 64
theorem Ok.wfl {S : List ByteArray} {t : ByteArray} {q : Int} (h : Ok S t q) : WFl S [] := ⟨h.le, h.size, fun _ h => (by cases h), fun _ h => (by cases h)⟩
section
variable {S : List ByteArray} {t s : ByteArray} {q : Int}
theorem first_far (S : List ByteArray) (q : Int) : 2 ≤ first S q := by unfold first; split <;> omega
theorem pieces_few (hs : s.size ≤ half S * 64) : nPieces s ≤ half S := by unfold nPieces; omega
theorem sync_sizes (h : Ok S t q) (hs : s.size ≤ half S * 64) {f : Nat} (hok : okW S (pieces s f)) : WFl (syncL S (pieces s f)) [] := wf_syncL _ _ h.le h.size (fun p hp => (hok p hp).2)
/-- With its head in its place the new text is there. -/
theorem ok_head (h : Ok S t q) (hq : q < 9223372036854775807) (hs : s.size ≤ half S * 64) {a : Nat} (ha : (a : Int) = q % 2) : Ok ((syncL S (pieces s (first S (q + 1)))).set a (headB (q + 1) (s.size : Int))) s (q + 1) := by
  have hr := opens_rng h.opens
  have hok := pieces_ok (q := q + 1) hs hr.2.2
  have hn := pieces_few (S := S) hs
  have hf := first_far S (q + 1)
  have hwf := sync_sizes h hs hok
  have hlen : a < (syncL S (pieces s (first S (q + 1)))).length := by rw [syncL_len]; omega
  refine ⟨opens_put h.opens hq (by rw [List.length_set, syncL_len]) hs h.le ha ?_ ?_ (fun i hi => ?_), by rw [List.length_set]; exact hwf.len, fun x hx => ?_⟩
  · show ((syncL S _).set a _).getD a default = _
    rw [getD_set hlen, if_pos rfl]
  · show ((syncL S _).set a _).getD (1 - a) default = _
    rw [getD_set hlen, if_neg (by omega)]
    refine syncL_off hok fun p hp => ?_
    have := pieces_mem hp; omega
  · show ((syncL S _).set a _).getD (first S (q + 1) + i) default = _
    rw [getD_set hlen, if_neg (by omega)]
    exact syncL_piece hok hi
  · rcases List.mem_or_eq_of_mem_set hx with hx | rfl
    · exact hwf.size _ hx
    · exact headB_size _ _
end
/-- What a Put comes to, without a cut. -/
theorem put_ends {S : List ByteArray} {t s : ByteArray} {q : Int} (h : Ok S t q) (hq : q < 9223372036854775807) (hs : s.size ≤ half S * 64) (k : Nat) :
  ∃ S', S'.length = S.length ∧ Ok S' s (q + 1) ∧ putD ⟨S, [], false, k, none⟩ q s = (0, ⟨S', [], false, k + nPieces s + 3, none⟩) := by
 obtain ⟨a, ha, _⟩ := mod2 q
 exact ⟨_, by rw [List.length_set, syncL_len], ok_head h hq hs ha, put_none hs (opens_rng h.opens).2.2 ha⟩
theorem openD_up {S : List ByteArray} {t : ByteArray} {q : Int} {k : Nat} {c : Option (Nat × Int)} (h : Ok S t q) : openD ⟨S, [], false, k, c⟩ = (0, some (t, q)) := h.opens
theorem ok_new {n : Nat} (h4 : 4 ≤ n) (h : n ≤ 4096) : Ok (List.replicate n noughts) ByteArray.empty 0 := by
 have e : ∀ i, i < n → at0 (List.replicate n noughts) i = noughts := fun i hi => by unfold at0; simp [List.getD, hi]
 refine ⟨opens_iff.2 ⟨0, 0, 0, 0, ⟨by simpa using h4, by rw [e 0 (by omega)]; exact parse_noughts, by rw [e 1 (by omega)]; exact parse_noughts, by omega, by omega, by omega, by omega⟩, .inl ⟨rfl, rfl, rfl, rfl⟩⟩, by simpa using h, fun s hs => by rw [(List.mem_replicate.1 hs).2]; rfl⟩
end Go.Jn

