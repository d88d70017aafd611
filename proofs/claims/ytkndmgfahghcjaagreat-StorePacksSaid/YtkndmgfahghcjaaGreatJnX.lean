import Derived.Test.YtkndmgfahghcjaaGreatJnP
import Derived.Test.YtkndmgfahghcjaaGreatJnV
/- Numbers of texts stay small, whatever is done: the plain part of JournalPlays. -/
namespace Go.Jn
open Go Go.SL Go.Dk
set_option linter.unusedVariables false

/-- If this is a head's first half, its number is at most M. -/
def Low (M : Int) (x : ByteArray) : Prop := ∀ n l, fits n → lo x = lo (headB n l) → n ≤ M
theorem Low.mono {M M' : Int} (h : M ≤ M') {x : ByteArray} (hx : Low M x) : Low M' x := fun n l hn e => Int.le_trans (hx n l hn e) h
theorem Low.torn {M : Int} {old s : ByteArray} {k : Int} (h1 : old.size = 64) (h2 : s.size = 64) (ho : Low M old) (hs : Low M s) : Low M (torn old s k) := by
 intro n l hn e
 rcases torn_lo k h1 h2 with h | h
 · exact ho n l hn (h.symm.trans e)
 · exact hs n l hn (h.symm.trans e)
theorem lo_at {x : ByteArray} {i : Nat} (h : i < 32) : (lo x).data.toList[i]? = x.data.toList[i]? := by
 unfold lo
 rw [ByteArray.data_extract, Array.toList_extract, List.extract_eq_take_drop, List.drop_zero, List.getElem?_take, if_pos h]
theorem low_first {x : ByteArray} (M : Int) (h : x.data.toList[0]? ≠ some 74) : Low M x := by
 intro n l hn e
 have := congrArg (fun s : ByteArray => s.data.toList[0]?) e
 simp only [lo_at (x := x) (i := 0) (by omega), lo_at (x := headB n l) (i := 0) (by omega), head_first] at this
 exact absurd this h
theorem low_noughts (M : Int) : Low M noughts := low_first M (by rw [show noughts.data.toList[0]? = some 0 from rfl]; decide)
/-- No head of a disk has a number above M. -/
structure LowD (M : Int) (d : DS) : Prop where
 secs : ∀ a, a ≤ 1 → Low M (d.secs.getD a default)
 since : ∀ p ∈ d.since, p.1 ≤ 1 → Low M p.2
theorem LowD.mono {M M' : Int} (h : M ≤ M') {d : DS} (hd : LowD M d) : LowD M' d := ⟨fun a ha => (hd.secs a ha).mono h, fun p hp ha => (hd.since p hp ha).mono h⟩
theorem low_readL {M : Int} {a : Nat} (ha : a ≤ 1) : ∀ (l : List (Nat × ByteArray)) (x : ByteArray), Low M x → (∀ p ∈ l, p.1 ≤ 1 → Low M p.2) → Low M (readL x a l)
 | [], _, h, _ => h
 | p :: r, x, h, hl => by
  rw [readL]
  refine low_readL ha r _ ?_ (fun q hq => hl q (List.mem_cons_of_mem _ hq))
  split
  · rename_i e; exact hl p List.mem_cons_self (by omega)
  · exact h
theorem LowD.rd {M : Int} {d : DS} (h : LowD M d) {a : Nat} (ha : a ≤ 1) : Low M (rd d a) := low_readL ha _ _ (h.secs a ha) h.since
theorem low_fallL {M : Int} : ∀ (ws : List (Nat × ByteArray)) (S : List ByteArray) (b : Int), (∀ s ∈ S, s.size = 64) → (∀ p ∈ ws, p.1 < S.length ∧ p.2.size = 64 ∧ (p.1 ≤ 1 → Low M p.2)) → (∀ a, a ≤ 1 → Low M (S.getD a default)) → ∀ a, a ≤ 1 → Low M ((fallL S ws b).getD a default)
  | [], _, _, _, _, h => h
  | p :: r, S, b, h1, h2, h3 => by
    have hp := h2 p List.mem_cons_self
    have hz : (S.getD p.1 default).size = 64 := by rw [List.getD_eq_getElem?_getD, List.getElem?_eq_getElem hp.1]; exact h1 _ (List.getElem_mem _)
    refine low_fallL r _ (b / 4) (fun s hs => ?_) (fun q hq => ?_) (fun a ha => ?_)
    · rcases List.mem_or_eq_of_mem_set hs with hs | rfl
      · exact h1 s hs
      · exact torn_size0 _ hz hp.2.1
    · rw [List.length_set]; exact h2 q (List.mem_cons_of_mem _ hq)
    · rw [getD_set hp.1]
      split
      · rename_i e; exact Low.torn hz hp.2.1 (h3 _ (by omega)) (hp.2.2 (by omega))
      · exact h3 a ha
theorem low_syncL {M : Int} : ∀ (ws : List (Nat × ByteArray)) (S : List ByteArray), (∀ p ∈ ws, p.1 < S.length ∧ (p.1 ≤ 1 → Low M p.2)) → (∀ a, a ≤ 1 → Low M (S.getD a default)) → ∀ a, a ≤ 1 → Low M ((syncL S ws).getD a default)
  | [], _, _, h => h
  | p :: r, S, h2, h3 => by
    have hp := h2 p List.mem_cons_self
    refine low_syncL r _ (fun q hq => ?_) (fun a ha => ?_)
    · rw [List.length_set]; exact h2 q (List.mem_cons_of_mem _ hq)
    · rw [getD_set hp.1]
      split
      · rename_i e; exact hp.2 (by omega)
      · exact h3 a ha
theorem LowD.fall {M : Int} {d : DS} (hw : WF d) (h : LowD M d) (b : Int) : LowD M (d.fall b) :=
 ⟨low_fallL _ _ _ hw.l.size (fun p hp => ⟨hw.l.at_ p (List.mem_of_mem_take hp), hw.l.size' p (List.mem_of_mem_take hp), h.since p (List.mem_of_mem_take hp)⟩) h.secs, fun p hp => by cases hp⟩
theorem LowD.may {M : Int} {d : DS} (hw : WF d) (h : LowD M d) : LowD M d.may.2 := by
 unfold DS.may
 split
 · exact h
 · exact h.fall hw _
 · exact ⟨h.secs, h.since⟩
theorem LowD.write {M : Int} {d : DS} (hw : WF d) (h : LowD M d) (a : Int) (s : ByteArray) (hs : a ≤ 1 → Low M s) : LowD M (d.write a s).2 := by
  unfold DS.write
  split; · exact h
  split; · exact h
  rename_i hb
  have hm := LowD.may hw h
  unfold DS.doW
  split
  · rename_i d' hd; rw [hd] at hm; exact hm
  · rename_i d' hd; rw [hd] at hm
    refine ⟨hm.secs, fun p hp hp1 => ?_⟩
    rcases List.mem_append.1 hp with hp | hp
    · exact hm.since p hp hp1
    · rw [List.mem_singleton] at hp; subst hp; exact hs (by simp only at hp1; omega)
theorem LowD.sync {M : Int} {d : DS} (hw : WF d) (h : LowD M d) : LowD M d.sync.2 := by
  unfold DS.sync
  split; · exact h
  have hm := LowD.may hw h
  have hw2 := hw.may
  unfold DS.doS
  split
  · rename_i d' hd; rw [hd] at hm; exact hm
  · rename_i d' hd; rw [hd] at hm hw2
    exact ⟨low_syncL _ _ (fun p hp => ⟨hw2.l.at_ p hp, hm.since p hp⟩) hm.secs, fun p hp => by cases hp⟩
theorem LowD.start {M : Int} {d : DS} (h : LowD M d) : LowD M d.start.2 := by
 unfold DS.start; split
 · exact ⟨h.secs, h.since⟩
 · exact h
theorem LowD.new {M : Int} (n : Nat) (hn : 2 ≤ n) : LowD M (DS.new n) :=
 ⟨fun a ha => by show Low M ((List.replicate n noughts).getD a default); rw [List.getD_eq_getElem?_getD, List.getElem?_replicate, if_pos (by omega)]; exact low_noughts M, fun p hp => by cases hp⟩
/-- What a Put keeps. -/
structure Kp (d0 d : DS) (m : Nat) : Prop where
 wf : WF d
 since : d.since.length ≤ d0.since.length + m
 count : d.count ≤ d0.count + m
 len : d.secs.length = d0.secs.length
theorem Kp.refl {d : DS} (h : WF d) : Kp d d 0 := ⟨h, Nat.le_refl _, Nat.le_refl _, rfl⟩
theorem Kp.step {d0 d d' : DS} {m : Nat} (h : Kp d0 d m) (hw : WF d') (h1 : d'.since.length ≤ d.since.length + 1) (h2 : d'.count ≤ d.count + 1) (h3 : d'.secs.length = d.secs.length) : Kp d0 d' (m + 1) :=
 ⟨hw, by have := h.since; omega, by have := h.count; omega, h3.trans h.len⟩
theorem Kp.le {d0 d : DS} {m m' : Nat} (h : Kp d0 d m) (hm : m ≤ m') : Kp d0 d m' := ⟨h.wf, by have := h.since; omega, by have := h.count; omega, h.len⟩
theorem write_small (d : DS) (a : Int) (s : ByteArray) : (d.write a s).2.since.length ≤ d.since.length + 1 ∧ (d.write a s).2.count ≤ d.count + 1 ∧ (d.write a s).2.secs.length = d.secs.length := by
 have hm := may_len d
 refine ⟨?_, ?_, ?_⟩ <;> (unfold DS.write; split; · first | omega | (simp only; omega) | simp) <;> (split; · first | omega | (simp only; omega) | simp) <;> (unfold DS.doW; split <;> rename_i e <;> (have e2 := congrArg Prod.snd e; simp only at e2; rw [e2] at hm; simp only [List.length_append, List.length_singleton]; omega))
theorem sync_small (d : DS) : d.sync.2.since.length ≤ d.since.length + 1 ∧ d.sync.2.count ≤ d.count + 1 ∧ d.sync.2.secs.length = d.secs.length := by
 have hm := may_len d
 refine ⟨?_, ?_, ?_⟩ <;> (unfold DS.sync; split; · first | omega | (simp only; omega) | simp) <;> (unfold DS.doS; split <;> rename_i e <;> (have e2 := congrArg Prod.snd e; simp only at e2; rw [e2] at hm; simp only [syncL_len, List.length_nil]; omega))
theorem Kp.write {d0 d : DS} {m : Nat} (h : Kp d0 d m) (a : Int) (s : ByteArray) : Kp d0 (d.write a s).2 (m + 1) := h.step (h.wf.write a s) (write_small d a s).1 (write_small d a s).2.1 (write_small d a s).2.2
theorem Kp.sync {d0 d : DS} {m : Nat} (h : Kp d0 d m) : Kp d0 d.sync.2 (m + 1) := h.step h.wf.sync (sync_small d).1 (sync_small d).2.1 (sync_small d).2.2
end Go.Jn

/- A text in pieces, piece by piece. -/
namespace Go.Jn
open Go Go.SL Go.Dk
set_option linter.unusedVariables false
theorem rest_zero (s : ByteArray) : rest s 0 = s := by simp [rest]
theorem rest_next (s : ByteArray) (i : Nat) : (rest s i).extract (min (rest s i).size 64) (rest s i).size = rest s (i + 1) := by
  rw [rest_size]
  unfold rest
  rw [ByteArray.extract_extract]
  by_cases h : s.size - i * 64 ≤ 64
  · rw [Nat.min_eq_left h, ByteArray.extract_eq_empty_iff.2 (by omega), ByteArray.extract_eq_empty_iff.2 (by omega)]
  · rw [Nat.min_eq_right (by omega)]
    congr 1 <;> omega
theorem rest_end {s : ByteArray} {i : Nat} (hi : i ≤ nPieces s) (h : rest s i = ⟨#[]⟩) : i = nPieces s := by
 have := congrArg ByteArray.size h
 rw [rest_size] at this
 have h2 : (⟨#[]⟩ : ByteArray).size = 0 := rfl
 unfold nPieces at *
 omega
theorem rest_more {s : ByteArray} {i : Nat} (h : ¬ rest s i = ⟨#[]⟩) : i < nPieces s ∧ i * 64 < s.size := by
 have h2 : ¬ (rest s i).size = 0 := fun e => h (ByteArray.size_eq_zero_iff.1 e)
 rw [rest_size] at h2
 unfold nPieces
 omega
theorem wall_at {s : ByteArray} {f i : Nat} (d : DS) (h : i < nPieces s) : wall d ((pieces s f).drop i) =
  if (d.write ((f + i : Nat) : Int) (piece s i)).1 = 0 then wall (d.write ((f + i : Nat) : Int) (piece s i)).2 ((pieces s f).drop (i + 1)) else d.write ((f + i : Nat) : Int) (piece s i) := by
 obtain ⟨hl, he⟩ := List.getElem?_eq_some_iff.1 (pieces_get (s := s) (f := f) h)
 rw [List.drop_eq_getElem_cons hl, he, wall]
theorem wall_done {s : ByteArray} {f : Nat} (d : DS) : wall d ((pieces s f).drop (nPieces s)) = (0, d) := by
 rw [List.drop_of_length_le (by rw [pieces_len]; exact Nat.le_refl _)]; rfl
theorem pieces_le {s : ByteArray} {n : Nat} (h : s.size ≤ n * 64) : nPieces s ≤ n := by unfold nPieces; omega
end Go.Jn

