/- A sender's chain of secrets and its keys, in plain data. -/
import Derived.Test.YtjjghmkjdgogiaaGreatDoorAcP
namespace Go.Proofs.YtjjghmkjdgogiaaGreatDoor
open Go Go.SL Go.Dd Go.RowKit
set_option linter.unusedVariables false
def i64R (x : Int) : Prop := -9223372036854775808 ≤ x ∧ x ≤ 9223372036854775807
/-- The secret of a number. -/
def IsS (T : List TermR) (app s : Int) : Nat → Nat → Prop
 | 0, x => ∃ d : Nat, atN T d = some ⟨2, s, 0, 0⟩ ∧ atN T x = some ⟨4, 9, app, (d : Int)⟩
 | i + 1, x => ∃ y : Nat, IsS T app s i y ∧ atN T x = some ⟨4, 10, (y : Int), 0⟩
def IsK (T : List TermR) (app s : Int) (i x : Nat) : Prop := ∃ y : Nat, IsS T app s i y ∧ atN T x = some ⟨4, 11, (y : Int), 0⟩
theorem IsS.ext {a b : List TermR} (h : Ext a b) {app s : Int} : ∀ {i x : Nat}, IsS a app s i x → IsS b app s i x
 | 0, _, ⟨d, h1, h2⟩ => ⟨d, h.at h1, h.at h2⟩
 | i + 1, _, ⟨y, h1, h2⟩ => ⟨y, IsS.ext h h1, h.at h2⟩
theorem IsK.ext {a b : List TermR} (h : Ext a b) {app s : Int} {i x : Nat} (hk : IsK a app s i x) : IsK b app s i x := by
 obtain ⟨y, h1, h2⟩ := hk; exact ⟨y, h1.ext h, h.at h2⟩
theorem IsS.at {T : List TermR} {app s : Int} : ∀ {i x : Nat}, IsS T app s i x → ∃ t, atN T x = some t ∧ t.kind = 4 ∧ (t.n = 9 ∧ i = 0 ∨ t.n = 10 ∧ 0 < i)
 | 0, _, ⟨d, h1, h2⟩ => ⟨_, h2, rfl, .inl ⟨rfl, rfl⟩⟩
 | i + 1, _, ⟨y, h1, h2⟩ => ⟨_, h2, rfl, .inr ⟨rfl, Nat.succ_pos i⟩⟩
theorem IsS.iff {T : List TermR} (hw : Wf T) {app s s' : Int} : ∀ {i j x x' : Nat}, IsS T app s i x → IsS T app s' j x' → (x = x' ↔ s = s' ∧ i = j)
  | 0, 0, x, x', ⟨d, h1, h2⟩, ⟨d', h1', h2'⟩ => by
    constructor
    · rintro rfl
      rw [h2] at h2'
      have hd : d = d' := by
        have := congrArg TermR.b (Option.some.inj h2')
        exact Int.ofNat.inj this
      subst hd
      rw [h1] at h1'
      exact ⟨congrArg TermR.n (Option.some.inj h1'), rfl⟩
    · rintro ⟨rfl, _⟩
      have hd := at_one hw h1 h1'
      subst hd
      exact at_one hw h2 h2'
  | 0, j + 1, x, x', ⟨d, h1, h2⟩, ⟨y', h1', h2'⟩ => by
    constructor
    · rintro rfl
      rw [h2] at h2'
      have := congrArg TermR.n (Option.some.inj h2')
      exact absurd this (by show ¬ (9 : Int) = 10; decide)
    · rintro ⟨_, h⟩; cases h
  | i + 1, 0, x, x', ⟨y, h1, h2⟩, ⟨d', h1', h2'⟩ => by
    constructor
    · rintro rfl
      rw [h2] at h2'
      have := congrArg TermR.n (Option.some.inj h2')
      exact absurd this (by show ¬ (10 : Int) = 9; decide)
    · rintro ⟨_, h⟩; cases h
  | i + 1, j + 1, x, x', ⟨y, h1, h2⟩, ⟨y', h1', h2'⟩ => by
    have ih := IsS.iff hw h1 h1'
    constructor
    · rintro rfl
      rw [h2] at h2'
      have hy : y = y' := by
        have := congrArg TermR.a (Option.some.inj h2')
        exact Int.ofNat.inj this
      have := ih.1 hy
      exact ⟨this.1, by rw [this.2]⟩
    · rintro ⟨hs, hi⟩
      have hy := ih.2 ⟨hs, Nat.succ.inj hi⟩
      subst hy
      exact at_one hw h2 h2'
theorem IsK.iff {T : List TermR} (hw : Wf T) {app s s' : Int} {i j x x' : Nat} (h : IsK T app s i x) (h' : IsK T app s' j x') : x = x' ↔ s = s' ∧ i = j := by
  obtain ⟨y, h1, h2⟩ := h
  obtain ⟨y', h1', h2'⟩ := h'
  have ih := IsS.iff hw h1 h1'
  constructor
  · rintro rfl
    rw [h2] at h2'
    refine ih.1 ?_
    have := congrArg TermR.a (Option.some.inj h2')
    exact Int.ofNat.inj this
  · intro h
    have hy := ih.2 h
    subst hy
    exact at_one hw h2 h2'

/-! ### What the code makes -/
abbrev Stg := List TermR × Nat
def beginR (ts : List TermR) (app s : Int) : Stg := ((mk (mk ts ⟨2, s, 0, 0⟩).1 ⟨4, 9, app, ((mk ts ⟨2, s, 0, 0⟩).2.1 : Int)⟩).1, (mk (mk ts ⟨2, s, 0, 0⟩).1 ⟨4, 9, app, ((mk ts ⟨2, s, 0, 0⟩).2.1 : Int)⟩).2.1)
def nextS (z : Stg) : Stg := ((mk z.1 ⟨4, 10, (z.2 : Int), 0⟩).1, (mk z.1 ⟨4, 10, (z.2 : Int), 0⟩).2.1)
def chainR (ts : List TermR) (app s : Int) : Nat → Stg
 | 0 => beginR ts app s
 | n + 1 => nextS (chainR ts app s n)
def keyF (z : Stg) : Stg := ((mk z.1 ⟨4, 11, (z.2 : Int), 0⟩).1, (mk z.1 ⟨4, 11, (z.2 : Int), 0⟩).2.1)
/-- A stage on the way. -/
structure StI (ts : List TermR) (m : Nat) (z : Stg) : Prop where
 wf : Wf z.1
 ext : Ext ts z.1
 len : z.1.length ≤ ts.length + m
 pos : 1 ≤ z.2 ∧ z.2 ≤ z.1.length
theorem kdf_made {ts : List TermR} {l a b : Int} (hw : Wf ts) (h0 : 0 ≤ l ∧ l ≤ 100) (ha : 1 ≤ a ∧ a ≤ (ts.length : Int)) (hb : (1 ≤ b ∧ b ≤ (ts.length : Int)) ∨ b = 0) (hl : ts.length < 1048576) :
  okT ⟨4, l, a, b⟩ ∧ mk ts ⟨4, l, a, b⟩ = ((mk ts ⟨4, l, a, b⟩).1, (mk ts ⟨4, l, a, b⟩).2.1, 0) ∧ atN (mk ts ⟨4, l, a, b⟩).1 (mk ts ⟨4, l, a, b⟩).2.1 = some ⟨4, l, a, b⟩ ∧ StI ts 1 ((mk ts ⟨4, l, a, b⟩).1, (mk ts ⟨4, l, a, b⟩).2.1) := by
 have ok : okT ⟨4, l, a, b⟩ := by unfold okT; simp only; omega
 obtain ⟨h1, h2, h3, h4⟩ := mk_facts ok (may_kdf h0.1 ha hb) hl
 exact ⟨ok, h1, h2, ⟨hw.mk (by show 4 < 256; decide) (by simp only; omega), h3, h4, at_rng h2⟩⟩
theorem data_made {ts : List TermR} {x : Int} (hw : Wf ts) (hx : i64R x) (hl : ts.length < 1048576) :
  okT ⟨2, x, 0, 0⟩ ∧ mk ts ⟨2, x, 0, 0⟩ = ((mk ts ⟨2, x, 0, 0⟩).1, (mk ts ⟨2, x, 0, 0⟩).2.1, 0) ∧ atN (mk ts ⟨2, x, 0, 0⟩).1 (mk ts ⟨2, x, 0, 0⟩).2.1 = some ⟨2, x, 0, 0⟩ ∧ StI ts 1 ((mk ts ⟨2, x, 0, 0⟩).1, (mk ts ⟨2, x, 0, 0⟩).2.1) := by
 have ok : okT ⟨2, x, 0, 0⟩ := by unfold okT i64R at *; simp only; omega
 obtain ⟨h1, h2, h3, h4⟩ := mk_facts ok may_data hl
 exact ⟨ok, h1, h2, ⟨hw.mk (by show 2 < 256; decide) hx, h3, h4, at_rng h2⟩⟩
theorem StI.trans {a b : List TermR} {z : Stg} {m k : Nat} (he : Ext a b) (hl : b.length ≤ a.length + m) (h : StI b k z) : StI a (m + k) z := ⟨h.wf, he.trans h.ext, by have := h.len; omega, h.pos⟩
theorem begin_made {ts : List TermR} {app s : Int} (hw : Wf ts) (ha : 1 ≤ app ∧ app ≤ (ts.length : Int)) (hs : i64R s) (hl : ts.length + 2 ≤ 1048576) :
  StI ts 2 (beginR ts app s) ∧ IsS (beginR ts app s).1 app s 0 (beginR ts app s).2 := by
 obtain ⟨_, _, h2, I⟩ := data_made (x := s) hw hs (by omega)
 have hp := I.pos
 have hlen := I.ext.len
 have hl2 := I.len
 obtain ⟨_, _, g2, I2⟩ := kdf_made (l := 9) (a := app) (b := (((mk ts ⟨2, s, 0, 0⟩).2.1 : Nat) : Int)) I.wf (by decide) (by simp only at *; omega) (.inl (by simp only at *; omega)) (by simp only at *; omega)
 exact ⟨I2.trans I.ext hl2, _, I2.ext.at h2, g2⟩
theorem next_made {ts : List TermR} {app s : Int} {m i : Nat} {z : Stg} (I : StI ts m z) (h : IsS z.1 app s i z.2) (hl : ts.length + m < 1048576) :
  StI ts (m + 1) (nextS z) ∧ IsS (nextS z).1 app s (i + 1) (nextS z).2 := by
 have hp := I.pos
 have hl2 := I.len
 obtain ⟨_, _, g2, I2⟩ := kdf_made (l := 10) (a := (z.2 : Int)) (b := 0) I.wf (by decide) (by omega) (.inr rfl) (by omega)
 exact ⟨I2.trans I.ext hl2, _, h.ext I2.ext, g2⟩
theorem chain_made {ts : List TermR} {app s : Int} (hw : Wf ts) (ha : 1 ≤ app ∧ app ≤ (ts.length : Int)) (hs : i64R s) : ∀ n, ts.length + n + 2 ≤ 1048576 → StI ts (2 + n) (chainR ts app s n) ∧ IsS (chainR ts app s n).1 app s n (chainR ts app s n).2
 | 0, hl => begin_made hw ha hs (by omega)
 | n + 1, hl => by
  obtain ⟨I, h⟩ := chain_made hw ha hs n (by omega)
  exact next_made (m := 2 + n) I h (by omega)

/-! ### A chain of which keys are taken -/
structure ChS where
 ts : List TermR
 z : Nat
 nx : Nat
 left : List (Nat × Nat)
def keyN (S : ChS) : Nat := (mk S.ts ⟨4, 11, (S.z : Int), 0⟩).2.1
def keyZ (S : ChS) : List TermR := (mk S.ts ⟨4, 11, (S.z : Int), 0⟩).1
def stepS (S : ChS) : ChS := ⟨(mk (keyZ S) ⟨4, 10, (S.z : Int), 0⟩).1, (mk (keyZ S) ⟨4, 10, (S.z : Int), 0⟩).2.1, S.nx + 1, S.left⟩
def oneS (S : ChS) : ChS := ⟨(stepS S).ts, (stepS S).z, S.nx + 1, S.left ++ [(S.nx, keyN S)]⟩
def runS (S : ChS) : Nat → ChS
 | 0 => S
 | k + 1 => oneS (runS S k)
structure OkS (S : ChS) : Prop where
 wf : Wf S.ts
 pos : 1 ≤ S.z ∧ S.z ≤ S.ts.length
 keys : ∀ p ∈ S.left, p.1 < S.nx
 srt : (S.left.map (·.1)).Pairwise (· < ·)
theorem OkS.one {S : ChS} (h : OkS S) : (S.left.map (·.1)).Nodup := h.srt.imp fun h => Nat.ne_of_lt h
theorem stepS_st {S : ChS} (h : OkS S) (hl : S.ts.length + 2 ≤ 1048576) : Wf (stepS S).ts ∧ (1 ≤ (stepS S).z ∧ (stepS S).z ≤ (stepS S).ts.length) ∧ Ext S.ts (stepS S).ts ∧ (stepS S).ts.length ≤ S.ts.length + 2 := by
 have hp := h.pos
 obtain ⟨_, _, _, I1⟩ := kdf_made (l := 11) (a := (S.z : Int)) (b := 0) h.wf (by decide) (by omega) (.inr rfl) (by omega)
 have l1 := I1.len
 have e1 := I1.ext.len
 simp only at l1 e1
 obtain ⟨_, _, _, I2⟩ := kdf_made (l := 10) (a := (S.z : Int)) (b := 0) I1.wf (by decide) (by simp only; omega) (.inr rfl) (by simp only; omega)
 have l2 := I2.len
 exact ⟨I2.wf, I2.pos, I1.ext.trans I2.ext, by show (mk (keyZ S) ⟨4, 10, (S.z : Int), 0⟩).1.length ≤ _; unfold keyZ; simp only at l2; omega⟩
theorem stepS_ok {S : ChS} (h : OkS S) (hl : S.ts.length + 2 ≤ 1048576) : OkS (stepS S) := by
 obtain ⟨h1, h2, _, _⟩ := stepS_st h hl
 exact ⟨h1, h2, fun p hp => Nat.lt_succ_of_lt (h.keys p hp), h.srt⟩
theorem oneS_ok {S : ChS} (h : OkS S) (hl : S.ts.length + 2 ≤ 1048576) : OkS (oneS S) := by
  obtain ⟨h1, h2, _, _⟩ := stepS_st h hl
  refine ⟨h1, h2, fun p hp => ?_, ?_⟩
  · rcases List.mem_append.1 hp with hp | hp
    · exact Nat.lt_succ_of_lt (h.keys p hp)
    · rw [List.mem_singleton] at hp; subst hp; exact Nat.lt_succ_self _
  · show ((S.left ++ [(S.nx, keyN S)]).map (·.1)).Pairwise (· < ·)
    rw [List.map_append]
    refine List.pairwise_append.2 ⟨h.srt, by simp, fun a ha b hb => ?_⟩
    obtain ⟨p, hp, rfl⟩ := List.mem_map.1 ha
    simp at hb
    have := h.keys p hp
    omega
theorem runS_ok {S : ChS} (h : OkS S) : ∀ k, S.ts.length + 2 * k ≤ 1048576 → OkS (runS S k) ∧ (runS S k).nx = S.nx + k ∧ (runS S k).left.length = S.left.length + k ∧ (runS S k).ts.length ≤ S.ts.length + 2 * k ∧ Ext S.ts (runS S k).ts
  | 0, _ => ⟨h, rfl, rfl, Nat.le_refl _, .refl _⟩
  | k + 1, hl => by
    obtain ⟨h1, h2, h3, h4, h5⟩ := runS_ok h k (by omega)
    obtain ⟨_, _, g3, g4⟩ := stepS_st h1 (by omega)
    refine ⟨oneS_ok h1 (by omega), by show (runS S k).nx + 1 = _; omega, ?_, ?_, h5.trans g3⟩
    · show ((runS S k).left ++ [_]).length = _
      rw [List.length_append, h3]; rfl
    · show (stepS (runS S k)).ts.length ≤ _; omega

/-! ### Three keys, one behind the other -/
structure KeyJ (ts : List TermR) (app s : Int) (n : Nat) (z : Stg) : Prop where
 st : StI ts (n + 3) z
 key : IsK z.1 app s n z.2
end Go.Proofs.YtjjghmkjdgogiaaGreatDoor
