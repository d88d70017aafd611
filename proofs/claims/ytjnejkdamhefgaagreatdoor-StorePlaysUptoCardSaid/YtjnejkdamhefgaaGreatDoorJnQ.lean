/- A part of the proof. -/
import Derived.Test.YtjnejkdamhefgaaGreatDoorJnM
namespace Go.Jn
open Go Go.SL Go.Dk
set_option linter.unusedVariables false
theorem rest_size (s : ByteArray) (i : Nat) : (rest s i).size = s.size - i * 64 := by
 unfold rest; rw [ByteArray.size_extract]; omega
theorem padB_size (r : ByteArray) : (padB r).size = 64 := by
 unfold padB
 rw [ByteArray.size_append, ByteArray.size_extract, ByteArray.size_extract, show noughts.size = 64 from rfl]; omega
theorem piece_size (s : ByteArray) (i : Nat) : (piece s i).size = 64 := padB_size _
theorem piece_full {s : ByteArray} {i : Nat} (h : (i + 1) * 64 ≤ s.size) : piece s i = s.extract (i * 64) ((i + 1) * 64) := by
 unfold piece padB
 rw [rest_size, show min (s.size - i * 64) 64 = 64 by omega, show noughts.extract 64 64 = ByteArray.empty from ByteArray.extract_same, ByteArray.append_empty]
 unfold rest
 rw [ByteArray.extract_extract]
 congr 1
 omega
theorem piece_last {s : ByteArray} {i : Nat} (h : s.size < (i + 1) * 64) : ∃ p, piece s i = s.extract (i * 64) s.size ++ p := by
 refine ⟨noughts.extract (min (rest s i).size 64) 64, ?_⟩
 unfold piece padB
 rw [show min (rest s i).size 64 = (rest s i).size by rw [rest_size]; omega]
 rw [ByteArray.extract_zero_size]
 rfl
theorem cat_full {s : ByteArray} {R : Nat → ByteArray} {f : Nat} (h : ∀ i, i < nPieces s → R (f + i) = piece s i) : ∀ k, k * 64 ≤ s.size → catR R f k = s.extract 0 (k * 64)
 | 0, _ => by rw [catR, show s.extract 0 (0 * 64) = ByteArray.empty from ByteArray.extract_same]
 | k + 1, hk => by
  rw [catR, cat_full h k (by omega), h k (by unfold nPieces; omega), piece_full hk, ByteArray.extract_append_extract]
  congr 1 <;> omega
theorem textR_pieces {s : ByteArray} {R : Nat → ByteArray} {f : Nat} (h : ∀ i, i < nPieces s → R (f + i) = piece s i) : textR R f (s.size : Int) = s := by
  unfold textR
  rw [Int.toNat_natCast]
  by_cases h0 : ((s.size + 63) / 64) * 64 ≤ s.size
  · rw [cat_full h _ h0, show (s.size + 63) / 64 * 64 = s.size by omega, ByteArray.extract_zero_size, ByteArray.extract_zero_size]
  · obtain ⟨k, hk⟩ : ∃ k, (s.size + 63) / 64 = k + 1 := ⟨(s.size + 63) / 64 - 1, by omega⟩
    obtain ⟨p, hp⟩ := piece_last (s := s) (i := k) (by omega)
    rw [hk, catR, cat_full h k (by omega), h k (by unfold nPieces; omega), hp, ← ByteArray.append_assoc, ByteArray.extract_append_extract, show min 0 (k * 64) = 0 by omega, show max (k * 64) s.size = s.size by omega, ByteArray.extract_zero_size, ByteArray.extract_append_eq_left rfl]
def at0 (S : List ByteArray) (i : Nat) : ByteArray := S.getD i default
def Opens (S : List ByteArray) (t : ByteArray) (q : Int) : Prop := openR (at0 S) S = (0, some (t, q))
structure Heads (S : List ByteArray) (a la b lb : Int) : Prop where
 len : 4 ≤ S.length
 p0 : parse (at0 S 0) = some (a, la)
 p1 : parse (at0 S 1) = some (b, lb)
 la : la ≤ ((half S * 64 : Nat) : Int)
 lb : lb ≤ ((half S * 64 : Nat) : Int)
 odd : 0 < a → a % 2 = 1
 even : 0 < b → b % 2 = 0
def Which (S : List ByteArray) (a la b lb : Int) (t : ByteArray) (q : Int) : Prop :=
 (a = 0 ∧ b = 0 ∧ t = ByteArray.empty ∧ q = 0) ∨ (0 < a ∧ a = b + 1 ∧ t = textR (at0 S) (first S a) la ∧ q = a) ∨ (0 < a ∧ b = a + 1 ∧ t = textR (at0 S) (first S b) lb ∧ q = b)
theorem parse_nonneg {s : ByteArray} {n l : Int} (h : parse s = some (n, l)) : 0 ≤ n ∧ n ≤ 9223372036854775807 ∧ 0 ≤ l := by
 rcases parse_some h with ⟨rfl, rfl, _⟩ | ⟨h1, h2, h3, _⟩
 · decide
 · exact ⟨by omega, h2.2, h3⟩
theorem opens_iff {S : List ByteArray} {t : ByteArray} {q : Int} : Opens S t q ↔ ∃ a la b lb, Heads S a la b lb ∧ Which S a la b lb t q := by
  unfold Opens openR
  constructor
  · intro h
    split at h
    · cases h
    rename_i hl
    split at h
    · rename_i a la b lb e0 e1
      have n0 := parse_nonneg e0
      have n1 := parse_nonneg e1
      split at h
      · cases h
      rename_i hb
      have hh : Heads S a la b lb := ⟨by omega, e0, e1, by omega, by omega, fun h => by omega, fun h => by omega⟩
      refine ⟨a, la, b, lb, hh, ?_⟩
      split at h
      · rename_i h0; cases h; exact .inl ⟨h0.1, h0.2, rfl, rfl⟩
      split at h
      · rename_i h0; cases h; exact .inr (.inl ⟨by omega, h0, rfl, rfl⟩)
      split at h
      · rename_i h0; cases h; exact .inr (.inr ⟨h0.1, h0.2, rfl, rfl⟩)
      · cases h
    · cases h
  · rintro ⟨a, la, b, lb, hh, hw⟩
    have n0 := parse_nonneg hh.p0
    have n1 := parse_nonneg hh.p1
    have h1 := hh.odd
    have h2 := hh.even
    have h3 := hh.la
    have h4 := hh.lb
    have h5 := hh.len
    rw [if_neg (by omega)]
    simp only [hh.p0, hh.p1]
    rw [if_neg (by omega)]
    rcases hw with ⟨h6, h7, rfl, rfl⟩ | ⟨h6, h7, rfl, rfl⟩ | ⟨h6, h7, rfl, rfl⟩
    · rw [if_pos ⟨h6, h7⟩]
    · rw [if_neg (by omega), if_pos h7]
    · rw [if_neg (by omega), if_neg (by omega), if_pos ⟨h6, h7⟩]
theorem half_congr {S S' : List ByteArray} (h : S'.length = S.length) : half S' = half S := by unfold half; rw [h]
theorem first_congr {S S' : List ByteArray} (h : S'.length = S.length) (n : Int) : first S' n = first S n := by unfold first; rw [half_congr h]
theorem opens_rng {S : List ByteArray} {t : ByteArray} {q : Int} (h : Opens S t q) : 0 ≤ q ∧ q ≤ 9223372036854775807 ∧ 4 ≤ S.length := by
 obtain ⟨a, la, b, lb, hh, hw⟩ := opens_iff.1 h
 have n0 := parse_nonneg hh.p0
 have n1 := parse_nonneg hh.p1
 have := hh.len
 rcases hw with ⟨_, _, _, rfl⟩ | ⟨_, _, _, rfl⟩ | ⟨_, _, _, rfl⟩ <;> omega
theorem opens_put {S S' : List ByteArray} {t s : ByteArray} {q : Int} {k : Nat} (h : Opens S t q) (hq : q < 9223372036854775807) (hl : S'.length = S.length) (hs : s.size ≤ half S * 64) (hS : S.length ≤ 4096) (hk : (k : Int) = q % 2)
    (hd : at0 S' k = headB (q + 1) (s.size : Int)) (ho : at0 S' (1 - k) = at0 S (1 - k)) (hp : ∀ i, i < nPieces s → at0 S' (first S (q + 1) + i) = piece s i) : Opens S' s (q + 1) := by
  have hr := opens_rng h
  have hh4 : half S * 64 < 4294967296 := by unfold half; omega
  have hpar : parse (headB (q + 1) (s.size : Int)) = some (q + 1, (s.size : Int)) := parse_head ⟨by omega, by omega⟩ (by omega) (by omega) (by omega)
  have htx : textR (at0 S') (first S' (q + 1)) (s.size : Int) = s := by rw [first_congr hl]; exact textR_pieces hp
  obtain ⟨a, la, b, lb, hh, hw⟩ := opens_iff.1 h
  have n0 := parse_nonneg hh.p0
  have n1 := parse_nonneg hh.p1
  have h1 := hh.odd
  have h2 := hh.even
  rcases Int.emod_two_eq q with hm | hm
  · obtain rfl : k = 0 := by omega
    refine opens_iff.2 ⟨q + 1, (s.size : Int), b, lb, ⟨by rw [hl]; exact hh.len, by rw [hd]; exact hpar, by rw [show (1 : Nat) = 1 - 0 from rfl, ho]; exact hh.p1, by rw [half_congr hl]; omega, by rw [half_congr hl]; exact hh.lb, fun _ => by omega, h2⟩, .inr (.inl ⟨by omega, ?_, htx.symm, rfl⟩)⟩
    rcases hw with ⟨_, _, _, rfl⟩ | ⟨_, _, _, rfl⟩ | ⟨_, _, _, rfl⟩ <;> omega
  · obtain rfl : k = 1 := by omega
    refine opens_iff.2 ⟨a, la, q + 1, (s.size : Int), ⟨by rw [hl]; exact hh.len, by rw [show (0 : Nat) = 1 - 1 from rfl, ho]; exact hh.p0, by rw [hd]; exact hpar, by rw [half_congr hl]; exact hh.la, by rw [half_congr hl]; omega, h1, fun _ => by omega⟩, .inr (.inr ⟨?_, ?_, htx.symm, rfl⟩)⟩
    · rcases hw with ⟨_, _, _, rfl⟩ | ⟨_, _, _, rfl⟩ | ⟨_, _, _, rfl⟩ <;> omega
    · rcases hw with ⟨_, _, _, rfl⟩ | ⟨_, _, _, rfl⟩ | ⟨_, _, _, rfl⟩ <;> omega
def okW (S : List ByteArray) (ws : List (Nat × ByteArray)) : Prop := ∀ p ∈ ws, p.1 < S.length ∧ p.2.size = 64
theorem write_eq {S : List ByteArray} {G : List (Nat × ByteArray)} {k : Nat} {cut : Option (Nat × Int)} {a : Nat} {s : ByteArray} (ha : a < S.length) (hs : s.size = 64) :
  (⟨S, G, false, k, cut⟩ : DS).write (a : Int) s = (⟨S, G, false, k, cut⟩ : DS).doW a s := write_ok rfl (by show ¬ (a : Int) ≥ (S.length : Int); omega) (by omega)
theorem wall_none {S : List ByteArray} : ∀ {ws : List (Nat × ByteArray)} {G : List (Nat × ByteArray)} {k : Nat}, okW S ws → wall ⟨S, G, false, k, none⟩ ws = (0, ⟨S, G ++ ws, false, k + ws.length, none⟩)
 | [], G, k, _ => by simp [wall]
 | p :: ws, G, k, h => by
  have hp := h p List.mem_cons_self
  have e : (⟨S, G, false, k, none⟩ : DS).write (p.1 : Int) p.2 = (0, ⟨S, G ++ [p], false, k + 1, none⟩) := by rw [write_eq hp.1 hp.2]; rfl
  rw [wall, e, if_pos rfl, wall_none (fun q hq => h q (List.mem_cons_of_mem _ hq))]
  simp only [List.append_assoc, List.singleton_append, List.length_cons, Prod.mk.injEq, DS.mk.injEq, true_and, and_true]
  omega
theorem mod2 (q : Int) : ∃ a : Nat, (a : Int) = q % 2 ∧ a ≤ 1 := ⟨(q % 2).toNat, by omega, by omega⟩
theorem pieces_ok {S : List ByteArray} {s : ByteArray} {q : Int} (hs : s.size ≤ half S * 64) (h4 : 4 ≤ S.length) : okW S (pieces s (first S q)) := by
 intro p hp
 unfold pieces at hp
 obtain ⟨i, hi, rfl⟩ := List.mem_map.1 hp
 refine ⟨?_, piece_size _ _⟩
 have hi := List.mem_range.1 hi
 unfold nPieces at hi
 unfold first half at *
 simp only
 split <;> omega
section
variable {S : List ByteArray} {k c : Nat} {bits : Int} {q : Int} {s : ByteArray}
theorem headD_none {a : Nat} (ha : (a : Int) = q % 2) (h1 : a < S.length) (l : Int) : headD ⟨S, [], false, k, none⟩ q l = (0, ⟨syncL S [(a, headB (q + 1) l)], [], false, k + 2, none⟩) := by
 have e : (⟨S, [], false, k, none⟩ : DS).write (q % 2) (headB (q + 1) l) = (0, ⟨S, [(a, headB (q + 1) l)], false, k + 1, none⟩) := by rw [← ha, write_eq h1 (headB_size _ _)]; rfl
 unfold headD
 rw [e, if_pos rfl]
 rfl
theorem put_none (hs : s.size ≤ half S * 64) (h4 : 4 ≤ S.length) {a : Nat} (ha : (a : Int) = q % 2) : putD ⟨S, [], false, k, none⟩ q s =
  (0, ⟨syncL (syncL S (pieces s (first S (q + 1)))) [(a, headB (q + 1) (s.size : Int))], [], false, k + nPieces s + 3, none⟩) := by
 have hw := wall_none (S := S) (G := []) (k := k) (pieces_ok (q := q + 1) hs h4)
 unfold putD
 rw [show (⟨S, [], false, k, none⟩ : DS).secs = S from rfl, hw, if_pos rfl]
 unfold syncD
 show (if (0 : Int) = 0 then headD ⟨syncL S (pieces s (first S (q + 1))), [], false, k + (pieces s (first S (q + 1))).length + 1, none⟩ q (s.size : Int) else _) = _
 rw [if_pos rfl, headD_none ha (by rw [syncL_len]; omega), pieces_len]
end
theorem readL_off {x : ByteArray} {i : Nat} : ∀ {ws : List (Nat × ByteArray)}, (∀ p ∈ ws, p.1 ≠ i) → readL x i ws = x
 | [], _ => rfl
 | p :: r, h => by rw [readL, if_neg (h p List.mem_cons_self), readL_off (fun q hq => h q (List.mem_cons_of_mem _ hq))]
theorem readL_pieces {s x : ByteArray} {f i : Nat} (h : i < nPieces s) : readL x (f + i) (pieces s f) = piece s i := by
  unfold pieces
  have key : ∀ m, readL x (f + i) ((List.range m).map fun j => (f + j, piece s j)) = if i < m then piece s i else x := by
    intro m
    induction m with
    | zero => rfl
    | succ m ih =>
      rw [List.range_succ, List.map_append, List.map_singleton, readL_snoc, ih]
      by_cases e : m = i
      · subst e; rw [if_pos rfl, if_pos (by omega)]
      · rw [if_neg (by omega)]
        by_cases h1 : i < m
        · rw [if_pos h1, if_pos (by omega)]
        · rw [if_neg h1, if_neg (by omega)]
  rw [key, if_pos h]
theorem pieces_mem {s : ByteArray} {f : Nat} {p : Nat × ByteArray} (h : p ∈ pieces s f) : f ≤ p.1 ∧ p.1 < f + nPieces s := by
 unfold pieces at h
 obtain ⟨i, hi, rfl⟩ := List.mem_map.1 h
 have := List.mem_range.1 hi
 simp only
 omega
theorem syncL_off {i : Nat} {ws : List (Nat × ByteArray)} {S : List ByteArray} (hok : okW S ws) (h : ∀ p ∈ ws, p.1 ≠ i) : at0 (syncL S ws) i = at0 S i := by
 show (syncL S ws).getD i default = _
 rw [syncL_getD ws S i (fun p hp => (hok p hp).1), readL_off h]
 rfl
theorem syncL_piece {s : ByteArray} {f i : Nat} {S : List ByteArray} (hok : okW S (pieces s f)) (h : i < nPieces s) : at0 (syncL S (pieces s f)) (f + i) = piece s i := by
 show (syncL S (pieces s f)).getD (f + i) default = _
 rw [syncL_getD _ S _ (fun p hp => (hok p hp).1), readL_pieces h]
def z32 : ByteArray := noughts.extract 32 64
structure Ok (S : List ByteArray) (t : ByteArray) (q : Int) : Prop where
 opens : Opens S t q
 le : S.length ≤ 4096
 size : ∀ s ∈ S, s.size = 64
theorem Ok.wfl {S : List ByteArray} {t : ByteArray} {q : Int} (h : Ok S t q) : WFl S [] := ⟨h.le, h.size, fun _ h => (by cases h), fun _ h => (by cases h)⟩
section
variable {S : List ByteArray} {t s : ByteArray} {q : Int}
theorem first_far (S : List ByteArray) (q : Int) : 2 ≤ first S q := by unfold first; split <;> omega
theorem pieces_few (hs : s.size ≤ half S * 64) : nPieces s ≤ half S := by unfold nPieces; omega
theorem sync_sizes (h : Ok S t q) (hs : s.size ≤ half S * 64) {f : Nat} (hok : okW S (pieces s f)) : WFl (syncL S (pieces s f)) [] := wf_syncL _ _ h.le h.size (fun p hp => (hok p hp).2)
theorem ok_head (h : Ok S t q) (hq : q < 9223372036854775807) (hs : s.size ≤ half S * 64) {a : Nat} (ha : (a : Int) = q % 2) : Ok ((syncL S (pieces s (first S (q + 1)))).set a (headB (q + 1) (s.size : Int))) s (q + 1) := by
  have hr := opens_rng h.opens
  have hok := pieces_ok (q := q + 1) hs hr.2.2
  have hn := pieces_few (S := S) hs
  have hf := first_far S (q + 1)
  have hwf := sync_sizes h hs hok
  have hlen : a < (syncL S (pieces s (first S (q + 1)))).length := by rw [syncL_len]; omega
  refine ⟨opens_put h.opens hq (by rw [List.length_set, syncL_len]) hs h.le ha ?_ ?_ (fun i hi => ?_), by rw [List.length_set]; exact hwf.len, fun x hx => ?_⟩
  · show ((syncL S _).set a _).getD a default = _
    rw [getD_set hlen, if_pos rfl]
  · show ((syncL S _).set a _).getD (1 - a) default = _
    rw [getD_set hlen, if_neg (by omega)]
    refine syncL_off hok fun p hp => ?_
    have := pieces_mem hp; omega
  · show ((syncL S _).set a _).getD (first S (q + 1) + i) default = _
    rw [getD_set hlen, if_neg (by omega)]
    exact syncL_piece hok hi
  · rcases List.mem_or_eq_of_mem_set hx with hx | rfl
    · exact hwf.size _ hx
    · exact headB_size _ _
end
theorem put_ends {S : List ByteArray} {t s : ByteArray} {q : Int} (h : Ok S t q) (hq : q < 9223372036854775807) (hs : s.size ≤ half S * 64) (k : Nat) :
  ∃ S', S'.length = S.length ∧ Ok S' s (q + 1) ∧ putD ⟨S, [], false, k, none⟩ q s = (0, ⟨S', [], false, k + nPieces s + 3, none⟩) := by
 obtain ⟨a, ha, _⟩ := mod2 q
 exact ⟨_, by rw [List.length_set, syncL_len], ok_head h hq hs ha, put_none hs (opens_rng h.opens).2.2 ha⟩
theorem openD_up {S : List ByteArray} {t : ByteArray} {q : Int} {k : Nat} {c : Option (Nat × Int)} (h : Ok S t q) : openD ⟨S, [], false, k, c⟩ = (0, some (t, q)) := h.opens
theorem ok_new {n : Nat} (h4 : 4 ≤ n) (h : n ≤ 4096) : Ok (List.replicate n noughts) ByteArray.empty 0 := by
 have e : ∀ i, i < n → at0 (List.replicate n noughts) i = noughts := fun i hi => by unfold at0; simp [List.getD, hi]
 refine ⟨opens_iff.2 ⟨0, 0, 0, 0, ⟨by simpa using h4, by rw [e 0 (by omega)]; exact parse_noughts, by rw [e 1 (by omega)]; exact parse_noughts, by omega, by omega, by omega, by omega⟩, .inl ⟨rfl, rfl, rfl, rfl⟩⟩, by simpa using h, fun s hs => by rw [(List.mem_replicate.1 hs).2]; rfl⟩
end Go.Jn
