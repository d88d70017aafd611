import Derived.Test.YtkndmgfahghcjaaGreatSLP
/- Texts of pairs as the document reads them: all pairs first, then what is wrong with them. -/
namespace Go.St
open Go Go.SL Go.Wr
set_option linter.unusedVariables false
/-- Pairs are read, in whatever order. -/
def readU (s : ByteArray) : Nat → Nat → Option (List PairR × Nat)
 | 0, a => some ([], a)
 | n + 1, a => match takeText s a with
  | none => none
  | some (x, b) => match takeText s b with
   | none => none
   | some (t, c) => (readU s n c).map fun r => (⟨x, t, false⟩ :: r.1, r.2)
theorem readP_U {s : ByteArray} : ∀ {n : Nat} {prev : Option ByteArray} {a b : Nat} {l : List PairR}, readP s n prev a = some (l, b) → readU s n a = some (l, b)
 | 0, prev, a, b, l, h => h
 | n + 1, prev, a, b, l, h => by
  unfold readP at h
  unfold readU
  rcases h1 : takeText s a with _ | ⟨x, c⟩
  · rw [h1] at h; cases h
  rw [h1] at h
  simp only at h ⊢
  rcases h2 : takeText s c with _ | ⟨t, d⟩
  · rw [h2] at h; cases h
  rw [h2] at h
  simp only at h ⊢
  split at h
  · cases h
  rcases h3 : readP s n (some x) d with _ | ⟨l', b'⟩
  · rw [h3] at h; cases h
  rw [h3] at h
  rw [readP_U h3]
  exact h
theorem readU_P {s : ByteArray} : ∀ {n : Nat} {prev : Option ByteArray} {a b : Nat} {l : List PairR}, readU s n a = some (l, b) → wrongP prev l = 0 → readP s n prev a = some (l, b)
 | 0, prev, a, b, l, h, _ => h
 | n + 1, prev, a, b, l, h, hw => by
  unfold readU at h
  unfold readP
  rcases h1 : takeText s a with _ | ⟨x, c⟩
  · rw [h1] at h; cases h
  rw [h1] at h
  simp only at h ⊢
  rcases h2 : takeText s c with _ | ⟨t, d⟩
  · rw [h2] at h; cases h
  rw [h2] at h
  simp only at h ⊢
  rcases h3 : readU s n d with _ | ⟨l', b'⟩
  · rw [h3] at h; cases h
  rw [h3] at h
  simp only [Option.map_some, Option.some.injEq, Prod.mk.injEq] at h
  obtain ⟨rfl, rfl⟩ := h
  obtain ⟨_, _, g3, g4⟩ := wrongP_cons hw
  rw [if_neg (fun e => by obtain ⟨q, e1, e2⟩ := e; exact e2 (g3 q e1)), readU_P h3 g4]
  rfl
theorem readU_len {s : ByteArray} : ∀ {n a b : Nat} {l : List PairR}, readU s n a = some (l, b) → l.length = n
 | 0, a, b, l, h => by unfold readU at h; cases h; rfl
 | n + 1, a, b, l, h => by
  unfold readU at h
  rcases h1 : takeText s a with _ | ⟨x, c⟩
  · rw [h1] at h; cases h
  rw [h1] at h
  simp only at h
  rcases h2 : takeText s c with _ | ⟨t, d⟩
  · rw [h2] at h; cases h
  rw [h2] at h
  simp only at h
  rcases h3 : readU s n d with _ | ⟨l', b'⟩
  · rw [h3] at h; cases h
  rw [h3] at h
  simp only [Option.map_some, Option.some.injEq, Prod.mk.injEq] at h
  obtain ⟨rfl, rfl⟩ := h
  rw [List.length_cons, readU_len h3]
theorem pack_ok {l : List PairR} (h : (packP l).2 = 0) : l.length ≤ 256 ∧ wrongP none l = 0 := by
 refine ⟨pack_few h, ?_⟩
 unfold packP at h
 split at h
 · cases h
 split at h
 · assumption
 · exact h
/-- What was read so far. -/
def RelU (s : ByteArray) (n a0 k : Nat) (l : List PairR) (a : Nat) : Prop := readU s n a0 = (readU s (n - k) a).map fun r => (l ++ r.1, r.2)
theorem RelU.start (s : ByteArray) (n a0 : Nat) : RelU s n a0 0 [] a0 := by
 unfold RelU; rw [Nat.sub_zero]; cases readU s n a0 <;> rfl
theorem RelU.bad1 {s : ByteArray} {n a0 k a : Nat} {l : List PairR} (h : RelU s n a0 k l a) (hk : k < n) (h1 : takeText s a = none) : readU s n a0 = none := by
 unfold RelU at h; rw [h, show n - k = (n - k - 1) + 1 by omega, readU, h1]; rfl
theorem RelU.bad2 {s : ByteArray} {n a0 k a b : Nat} {x : ByteArray} {l : List PairR} (h : RelU s n a0 k l a) (hk : k < n) (h1 : takeText s a = some (x, b)) (h2 : takeText s b = none) : readU s n a0 = none := by
 unfold RelU at h; rw [h, show n - k = (n - k - 1) + 1 by omega, readU, h1]; simp only; rw [h2]; rfl
theorem RelU.next {s : ByteArray} {n a0 k a b c : Nat} {x t : ByteArray} {l : List PairR} (h : RelU s n a0 k l a) (hk : k < n) (h1 : takeText s a = some (x, b)) (h2 : takeText s b = some (t, c)) : RelU s n a0 (k + 1) (l ++ [⟨x, t, false⟩]) c := by
 unfold RelU at *
 rw [h, show n - k = (n - (k + 1)) + 1 by omega, readU, h1]
 simp only
 rw [h2]
 simp only
 cases readU s (n - (k + 1)) c with
 | none => rfl
 | some r => simp
theorem RelU.done {s : ByteArray} {n a0 a : Nat} {l : List PairR} (h : RelU s n a0 n l a) : readU s n a0 = some (l, a) := by
 unfold RelU at h; rw [h, Nat.sub_self, readU]; simp
theorem u_none {s : ByteArray} {n a0 : Nat} (hl : takeList s 0 = some (n, a0)) (h : readU s n a0 = none) : unpackP s = none := by
 unfold unpackP; rw [hl]; simp only
 split
 · rfl
 cases hr : readP s n none a0 with
 | none => rfl
 | some r => rw [readP_U (l := r.1) (b := r.2) hr] at h; cases h
theorem u_end {s : ByteArray} {n a0 b : Nat} {l : List PairR} (hl : takeList s 0 = some (n, a0)) (h : readU s n a0 = some (l, b)) (hb : b ≠ s.size) : unpackP s = none := by
 unfold unpackP; rw [hl]; simp only
 split
 · rfl
 cases hr : readP s n none a0 with
 | none => rfl
 | some r =>
  obtain ⟨l', b'⟩ := r
  rw [readP_U hr] at h
  simp only [Option.some.injEq, Prod.mk.injEq] at h
  simp only
  rw [if_neg (by rw [h.2]; exact hb)]
theorem u_pack {s : ByteArray} {n a0 b : Nat} {l : List PairR} (hl : takeList s 0 = some (n, a0)) (h : readU s n a0 = some (l, b)) (hp : ¬ (packP l).2 = 0) : unpackP s = none := by
  cases hu : unpackP s with
  | none => rfl
  | some l' =>
    have e := pack_unpack hu
    unfold unpackP at hu
    rw [hl] at hu
    simp only at hu
    split at hu
    · cases hu
    rcases hr : readP s n none a0 with _ | ⟨l2, b2⟩
    · rw [hr] at hu; cases hu
    rw [hr] at hu
    simp only at hu
    split at hu
    · simp only [Option.some.injEq] at hu
      rw [readP_U hr] at h
      simp only [Option.some.injEq, Prod.mk.injEq] at h
      rw [← h.1, hu, e] at hp
      exact absurd rfl hp
    · cases hu
theorem u_ok {s : ByteArray} {n a0 b : Nat} {l : List PairR} (hl : takeList s 0 = some (n, a0)) (h : readU s n a0 = some (l, b)) (hb : b = s.size) (hp : (packP l).2 = 0) : unpackP s = some l := by
 have h1 := pack_ok hp
 have h2 := readU_len h
 unfold unpackP; rw [hl]; simp only
 rw [if_neg (by omega), readU_P h h1.2]
 simp only
 rw [if_pos hb]
theorem listW_zero {n : Nat} (h : n ≤ 65536) : (listW (n : Int)).1 = 0 := by rw [listW, if_neg (by omega), if_neg (by omega)]
theorem textW_zero {s : ByteArray} (h : s.size ≤ 65536) : (textW s).1 = 0 := by rw [textW, if_neg (by omega)]
end Go.St

