/- Keys that are taken of a chain, and what follows of what it has left, in plain data. -/
import Derived.Test.YtjjghmkjdgogiaaGreatDoorChP
import Derived.Test.YtjjghmkjdgogiaaGreatDoorSLN
namespace Go.Proofs.YtjjghmkjdgogiaaGreatDoor
open Go Go.SL Go.Dd Go.RowKit
set_option linter.unusedVariables false
theorem i64R_wf {x : Int} (h : (Lit.int .i64 x).wf = true) : i64R x := by
 have h' := h
 simp only [Lit.wf, IntKind.min, IntKind.max, IntKind.signed, IntKind.bits, Bool.and_eq_true, decide_eq_true_eq, if_true] at h'
 unfold i64R; omega
/-! ### Take -/
def findN (l : List (Nat × Nat)) (m : Nat) : Option Nat := l.findIdx? fun p => decide (p.1 = m)
theorem findN_some {l : List (Nat × Nat)} {m j : Nat} (h : findN l m = some j) : ∃ k, l[j]? = some (m, k) := by
 unfold findN at h
 obtain ⟨hj, hp, _⟩ := List.findIdx?_eq_some_iff_getElem.1 h
 have := of_decide_eq_true hp
 exact ⟨l[j].2, by rw [List.getElem?_eq_getElem hj, ← this]⟩
theorem findN_none {l : List (Nat × Nat)} {m : Nat} (h : findN l m = none) : ∀ p ∈ l, p.1 ≠ m := fun p hp => by
 unfold findN at h
 exact of_decide_eq_false (List.findIdx?_eq_none_iff.1 h p hp)
def takeR (S : ChS) (m : Int) : ChS × Nat × Nat :=
 if m < 0 then (S, 0, 1) else
 match findN S.left m.toNat with
 | some j => (⟨S.ts, S.z, S.nx, S.left.eraseIdx j⟩, ((S.left[j]?).getD (0, 0)).2, 0)
 | none => if m.toNat < S.nx then (S, 0, 10) else if 64 < m.toNat - S.nx + S.left.length then (S, 0, 3) else (stepS (runS S (m.toNat - S.nx)), keyN (runS S (m.toNat - S.nx)), 0)
theorem takeR_neg {S : ChS} {m : Int} (h : m < 0) : takeR S m = (S, 0, 1) := if_pos h
theorem takeR_found {S : ChS} {m j k : Nat} (hf : findN S.left m = some j) (h : S.left[j]? = some (m, k)) : takeR S (m : Int) = (⟨S.ts, S.z, S.nx, S.left.eraseIdx j⟩, k, 0) := by
 unfold takeR
 rw [if_neg (by omega), show (m : Int).toNat = m from rfl, hf]
 simp only [h, Option.getD_some]
theorem takeR_stale {S : ChS} {m : Nat} (hf : findN S.left m = none) (h : m < S.nx) : takeR S (m : Int) = (S, 0, 10) := by
 unfold takeR
 rw [if_neg (by omega), show (m : Int).toNat = m from rfl, hf]
 simp only [if_pos h]
theorem takeR_limit {S : ChS} {m : Nat} (hf : findN S.left m = none) (h : ¬ m < S.nx) (h2 : 64 < m - S.nx + S.left.length) : takeR S (m : Int) = (S, 0, 3) := by
 unfold takeR
 rw [if_neg (by omega), show (m : Int).toNat = m from rfl, hf]
 simp only [if_neg h, if_pos h2]
theorem takeR_go {S : ChS} {m : Nat} (hf : findN S.left m = none) (h : ¬ m < S.nx) (h2 : ¬ 64 < m - S.nx + S.left.length) : takeR S (m : Int) = (stepS (runS S (m - S.nx)), keyN (runS S (m - S.nx)), 0) := by
 unfold takeR
 rw [if_neg (by omega), show (m : Int).toNat = m from rfl, hf]
 simp only [if_neg h, if_neg h2]
/-! ### What a chain is -/
structure ChI (app s : Int) (b c : Nat) (S : ChS) : Prop where
 ok : OkS S
 sec : IsS S.ts app s S.nx S.z
 lk : ∀ p ∈ S.left, IsK S.ts app s p.1 p.2
 nxc : S.nx ≤ c + S.left.length
 ll : S.left.length ≤ 64
 len : S.ts.length ≤ b + 2 * S.nx
def startS (ts : List TermR) (app s : Int) : ChS := ⟨(beginR ts app s).1, (beginR ts app s).2, 0, []⟩
theorem ChI.start {app s : Int} {ts : List TermR} (hw : Wf ts) (ha : 1 ≤ app ∧ app ≤ (ts.length : Int)) (hs : i64R s) (hl : ts.length + 2 ≤ 1048576) : ChI app s (ts.length + 2) 0 (startS ts app s) := by
 obtain ⟨I, h⟩ := begin_made (app := app) hw ha hs hl
 exact ⟨⟨I.wf, I.pos, fun _ h => (by cases h), List.Pairwise.nil⟩, h, fun _ h => (by cases h), Nat.zero_le _, Nat.zero_le _, I.len⟩
/-- One step of a chain makes the key, and the next secret. -/
theorem step_made {S : ChS} {app s : Int} (h : OkS S) (hs : IsS S.ts app s S.nx S.z) (hl : S.ts.length + 2 ≤ 1048576) :
  IsK (stepS S).ts app s S.nx (keyN S) ∧ IsS (stepS S).ts app s (S.nx + 1) (stepS S).z := by
 have hp := h.pos
 obtain ⟨_, _, g1, I1⟩ := kdf_made (l := 11) (a := (S.z : Int)) (b := 0) h.wf (by decide) (by omega) (.inr rfl) (by omega)
 have l1 := I1.len
 have e1 := I1.ext.len
 simp only at l1 e1
 obtain ⟨_, _, g2, I2⟩ := kdf_made (l := 10) (a := (S.z : Int)) (b := 0) I1.wf (by decide) (by simp only; omega) (.inr rfl) (by simp only; omega)
 exact ⟨⟨_, (hs.ext I1.ext).ext I2.ext, I2.ext.at g1⟩, _, (hs.ext I1.ext).ext I2.ext, g2⟩
theorem run_I {S : ChS} {app s : Int} (h : OkS S) (hs : IsS S.ts app s S.nx S.z) (hlk : ∀ p ∈ S.left, IsK S.ts app s p.1 p.2) : ∀ k, S.ts.length + 2 * k ≤ 1048576 →
    IsS (runS S k).ts app s (S.nx + k) (runS S k).z ∧ (∀ p ∈ (runS S k).left, IsK (runS S k).ts app s p.1 p.2) ∧ (runS S k).left.map (·.1) = S.left.map (·.1) ++ List.range' S.nx k
  | 0, _ => ⟨hs, hlk, by simp [runS]⟩
  | k + 1, hl => by
    obtain ⟨h1, h2, h3, h4, h5⟩ := runS_ok h k (by omega)
    obtain ⟨g1, g2, g3⟩ := run_I h hs hlk k (by omega)
    obtain ⟨k1, k2⟩ := step_made (app := app) (s := s) h1 (by rw [h2]; exact g1) (by omega)
    obtain ⟨_, _, e3, e4⟩ := stepS_st h1 (by omega)
    rw [h2] at k1 k2
    refine ⟨k2, fun p hp => ?_, ?_⟩
    · rcases List.mem_append.1 hp with hp | hp
      · exact (g2 p hp).ext e3
      · rw [List.mem_singleton] at hp; subst hp; rw [h2]; exact k1
    · show ((runS S k).left ++ [((runS S k).nx, keyN (runS S k))]).map (·.1) = _
      rw [List.map_append, g3, List.range'_1_concat, ← List.append_assoc, h2]; rfl
/-- The number of a key that was taken. -/
def Gn (S : ChS) (i : Nat) : Prop := i < S.nx ∧ i ∉ S.left.map (·.1)
theorem gn_erase {S : ChS} (h : OkS S) {j m k : Nat} (hj : S.left[j]? = some (m, k)) (i : Nat) : Gn ⟨S.ts, S.z, S.nx, S.left.eraseIdx j⟩ i ↔ Gn S i ∨ i = m := by
  have hm : (S.left.map (·.1))[j]? = some m := by rw [List.getElem?_map, hj]; rfl
  have hk := h.keys _ (List.mem_of_getElem? hj)
  simp only at hk
  unfold Gn
  simp only
  rw [map_eraseIdx_of]
  have hone := h.one
  generalize S.left.map (·.1) = l at hm hone
  have hx : i ∈ l.eraseIdx j ↔ i ∈ l ∧ i ≠ m := by
    rw [List.mem_eraseIdx_iff_getElem?]
    constructor
    · rintro ⟨n, hn, hi⟩
      refine ⟨List.mem_of_getElem? hi, fun e => hn ?_⟩
      subst e
      obtain ⟨l1, e1⟩ := List.getElem?_eq_some_iff.1 hi
      obtain ⟨l2, e2⟩ := List.getElem?_eq_some_iff.1 hm
      exact (List.getElem_inj hone).1 (e1.trans e2.symm)
    · rintro ⟨hi, hne⟩
      obtain ⟨n, hn⟩ := List.mem_iff_getElem?.1 hi
      refine ⟨n, fun e => hne ?_, hn⟩
      subst e
      rw [hm] at hn
      exact (Option.some.inj hn).symm
  rw [hx]
  by_cases e : i = m
  · subst e; simp [hk]
  · simp [e]
structure TakeI (app s : Int) (b c : Nat) (S : ChS) (m : Int) (S' : ChS) (k e : Nat) : Prop where
 ch : ChI app s b (c + 1) S'
 ext : Ext S.ts S'.ts
 bad : e ≠ 0 → S' = S
 good : e = 0 → 0 ≤ m ∧ IsK S'.ts app s m.toNat k ∧ ¬ Gn S m.toNat ∧ ∀ i, Gn S' i ↔ Gn S i ∨ i = m.toNat
theorem ChI.more {app s : Int} {b c : Nat} {S : ChS} (h : ChI app s b c S) : ChI app s b (c + 1) S := ⟨h.ok, h.sec, h.lk, by have := h.nxc; omega, h.ll, h.len⟩
theorem take_I {app s : Int} {b c : Nat} {S : ChS} (h : ChI app s b c S) (hb : b + 2 * c + 300 ≤ 1048576) (m : Int) : TakeI app s b c S m (takeR S m).1 (takeR S m).2.1 (takeR S m).2.2 := by
 have hll := h.ll
 have hnx := h.nxc
 have hlen := h.len
 by_cases hneg : m < 0
 · rw [takeR_neg hneg]; exact ⟨h.more, .refl _, fun _ => rfl, fun e => by cases e⟩
 obtain ⟨m, rfl⟩ : ∃ n : Nat, m = (n : Int) := ⟨m.toNat, by omega⟩
 cases hf : findN S.left m with
 | some j =>
  obtain ⟨k, hj⟩ := findN_some hf
  rw [takeR_found hf hj]
  have hm := List.mem_of_getElem? hj
  have hsub : ∀ p ∈ S.left.eraseIdx j, p ∈ S.left := fun p hp => List.mem_of_mem_eraseIdx hp
  have hjl := (List.getElem?_eq_some_iff.1 hj).1
  have hel : (S.left.eraseIdx j).length + 1 = S.left.length := by rw [List.length_eraseIdx, if_pos hjl]; omega
  have hg := gn_erase h.ok hj
  refine ⟨⟨⟨h.ok.wf, h.ok.pos, fun p hp => h.ok.keys p (hsub p hp), ?_⟩, h.sec, fun p hp => h.lk p (hsub p hp), by simp only; omega, by simp only; omega, h.len⟩, .refl _, fun e => absurd rfl e, fun _ => ⟨by omega, h.lk _ hm, fun hG => hG.2 (List.mem_map.2 ⟨_, hm, rfl⟩), hg⟩⟩
  exact List.Pairwise.sublist (List.Sublist.map _ (List.eraseIdx_sublist _ _)) h.ok.srt
 | none =>
  by_cases hst : m < S.nx
  · rw [takeR_stale hf hst]; exact ⟨h.more, .refl _, fun _ => rfl, fun e => by cases e⟩
  by_cases hlim : 64 < m - S.nx + S.left.length
  · rw [takeR_limit hf hst hlim]; exact ⟨h.more, .refl _, fun _ => rfl, fun e => by cases e⟩
  rw [takeR_go hf hst hlim]
  generalize hk : m - S.nx = k at hlim
  have hkm : S.nx + k = m := by omega
  obtain ⟨h1, h2, h3, h4, h5⟩ := runS_ok h.ok k (by omega)
  obtain ⟨g1, g2, g3⟩ := run_I h.ok h.sec h.lk k (by omega)
  obtain ⟨k1, k2⟩ := step_made (app := app) (s := s) h1 (by rw [h2]; exact g1) (by omega)
  obtain ⟨_, _, e3, e4⟩ := stepS_st h1 (by omega)
  have ho := stepS_ok h1 (by omega)
  rw [h2] at k1 k2
  have hnx' : (stepS (runS S k)).nx = m + 1 := by show (runS S k).nx + 1 = _; omega
  have hl' : (stepS (runS S k)).left = (runS S k).left := rfl
  refine ⟨⟨ho, by rw [hnx', ← hkm]; exact k2, fun p hp => (g2 p hp).ext e3, by rw [hnx', hl']; omega, by rw [hl']; omega, by show (stepS (runS S k)).ts.length ≤ b + 2 * (stepS (runS S k)).nx; rw [hnx']; omega⟩, h5.trans e3, fun e => absurd rfl e, fun _ => ⟨by omega, by rw [show ((m : Int)).toNat = m from rfl, ← hkm]; exact k1, fun hG => hst hG.1, fun i => ?_⟩⟩
  unfold Gn
  rw [hnx', hl', g3, List.mem_append, List.mem_range'_1, show ((m : Int)).toNat = m from rfl]
  have hno := findN_none hf
  have hlt : ∀ i ∈ S.left.map (·.1), i < S.nx := fun i hi => by
   obtain ⟨p, hp, rfl⟩ := List.mem_map.1 hi; exact h.ok.keys p hp
  by_cases hi : i ∈ S.left.map (·.1)
  · have := hlt i hi; simp only [hi, true_or, not_true_eq_false, and_false, false_or, false_iff]; omega
  · simp only [hi, false_or, not_false_eq_true, and_true]; omega
/-! ### What follows -/
/-- All that a chain still has. -/
def hasN (S : ChS) : List Nat := S.left.map (·.2) ++ [S.z]
/-- Terms of a store that has but data and keys of keys, and one random term. -/
def Kd (n : Int) (ts : List TermR) : Prop := atN ts 1 = some ⟨1, n, 0, 0⟩ ∧ ∀ i t, atN ts i = some t → i = 1 ∨ t.kind = 2 ∨ t.kind = 4
theorem Kd.mk {n : Int} {ts : List TermR} {t : TermR} (h : Kd n ts) (hk : t.kind = 2 ∨ t.kind = 4) : Kd n (mk ts t).1 := by
  have key : Kd n (ts ++ [t]) := by
    have hl := at_rng h.1
    refine ⟨Ext.at ⟨[t], rfl⟩ h.1, fun i u hu => ?_⟩
    unfold atN at hu
    split at hu
    · cases hu
    rename_i h0
    rw [List.getElem?_append] at hu
    split at hu
    · exact h.2 i u (by unfold atN; rw [if_neg h0]; exact hu)
    · have hm := List.mem_of_getElem? hu
      rw [List.mem_singleton] at hm; subst hm; exact .inr hk
  unfold Dd.mk
  split
  · exact h
  split
  · exact h
  split
  · exact h
  · exact key
theorem Kd.begin {n app s : Int} {ts : List TermR} (h : Kd n ts) : Kd n (beginR ts app s).1 := (h.mk (.inl rfl)).mk (.inr rfl)
theorem Kd.chain {n app s : Int} {ts : List TermR} (h : Kd n ts) : ∀ i, Kd n (chainR ts app s i).1
 | 0 => h.begin
 | i + 1 => (Kd.chain h i).mk (.inr rfl)
theorem Kd.key {n app s : Int} {ts : List TermR} (h : Kd n ts) (i : Nat) : Kd n (keyF (chainR ts app s i)).1 := (h.chain i).mk (.inr rfl)
theorem Kd.step {n : Int} {S : ChS} (h : Kd n S.ts) : Kd n (stepS S).ts := (h.mk (t := ⟨4, 11, (S.z : Int), 0⟩) (.inr rfl)).mk (.inr rfl)
theorem Kd.run {n : Int} {S : ChS} (h : Kd n S.ts) : ∀ k, Kd n (runS S k).ts
 | 0 => h
 | k + 1 => (Kd.run h k).step
theorem Kd.take {n : Int} {S : ChS} (h : Kd n S.ts) (m : Int) : Kd n (takeR S m).1.ts := by
 unfold takeR
 split
 · exact h
 split
 · exact h
 split
 · exact h
 split
 · exact h
 · exact (h.run _).step
theorem IsS.kind {T : List TermR} {app s : Int} {i x : Nat} (h : IsS T app s i x) : ∃ t, atN T x = some t ∧ t.kind = 4 ∧ t.n ≠ 11 := by
 obtain ⟨t, h1, h2, h3⟩ := h.at
 exact ⟨t, h1, h2, by omega⟩
/-! ### The keys of all numbers, one after the other -/
def keysR (ts : List TermR) (app s : Int) : Nat → List TermR × List Nat
 | 0 => (ts, [])
 | i + 1 => ((keyF (chainR (keysR ts app s i).1 app s i)).1, (keysR ts app s i).2 ++ [(keyF (chainR (keysR ts app s i).1 app s i)).2])
structure KeysI (ts : List TermR) (app s : Int) (i : Nat) (z : List TermR × List Nat) : Prop where
 wf : Wf z.1
 ext : Ext ts z.1
 len : z.1.length ≤ ts.length + i * 110
 num : z.2.length = i
 key : ∀ j x, z.2[j]? = some x → IsK z.1 app s j x ∧ (1 ≤ x ∧ x ≤ z.1.length)
theorem Kd.keys {n app s : Int} {ts : List TermR} (h : Kd n ts) : ∀ i, Kd n (keysR ts app s i).1
 | 0 => h
 | i + 1 => (Kd.keys h i).key i
/-! ### The numbers of what was taken -/
def GoneI (T : List TermR) (s : Int) (S : ChS) (g : List Nat) : Prop := (∀ x ∈ g, ∃ i, Gn S i ∧ IsK T 1 s i x) ∧ ∀ i, Gn S i → ∃ x ∈ g, IsK T 1 s i x
theorem GoneI.start {T : List TermR} {s : Int} {S : ChS} (h : S.nx = 0) : GoneI T s S [] := ⟨fun _ h => (by cases h), fun i hi => by have := hi.1; omega⟩
theorem GoneI.ext {T T' : List TermR} {s : Int} {S : ChS} {g : List Nat} (h : GoneI T s S g) (he : Ext T T') : GoneI T' s S g :=
 ⟨fun x hx => let ⟨i, h1, h2⟩ := h.1 x hx; ⟨i, h1, h2.ext he⟩, fun i hi => let ⟨x, h1, h2⟩ := h.2 i hi; ⟨x, h1, h2.ext he⟩⟩
theorem GoneI.take {s : Int} {b c : Nat} {S S' : ChS} {m : Int} {k : Nat} {g : List Nat} (h : GoneI S.ts s S g) (I : TakeI 1 s b c S m S' k 0) : GoneI S'.ts s S' (g ++ [k]) ∧ k ∉ g := by
  obtain ⟨h1, h2, h3, h4⟩ := I.good rfl
  have he := h.ext I.ext
  refine ⟨⟨fun x hx => ?_, fun i hi => ?_⟩, fun hk => ?_⟩
  · rcases List.mem_append.1 hx with hx | hx
    · obtain ⟨i, a1, a2⟩ := he.1 x hx
      exact ⟨i, (h4 i).2 (.inl a1), a2⟩
    · rw [List.mem_singleton] at hx; subst hx
      exact ⟨_, (h4 _).2 (.inr rfl), h2⟩
  · rcases (h4 i).1 hi with hi | hi
    · obtain ⟨x, a1, a2⟩ := he.2 i hi
      exact ⟨x, List.mem_append_left _ a1, a2⟩
    · subst hi
      exact ⟨k, by simp, h2⟩
  · obtain ⟨i, a1, a2⟩ := he.1 k hk
    have := ((IsK.iff I.ch.ok.wf a2 h2).1 rfl).2
    exact h3 (this ▸ a1)
def hasI (S : ChS) : List Int := (hasN S).map Int.ofNat
theorem hasI_len (S : ChS) : (hasI S).length = (hasN S).length := List.length_map _
theorem hasI_V (S : ChS) : (hasI S).map intV = (hasN S).map natV := by unfold hasI; rw [List.map_map]; rfl
theorem has_rng {app s : Int} {b c : Nat} {S : ChS} (I : ChI app s b c S) : ∀ x ∈ hasN S, 1 ≤ x ∧ x ≤ S.ts.length := fun x hx => by
  rcases List.mem_append.1 hx with hx | hx
  · obtain ⟨p, hp, rfl⟩ := List.mem_map.1 hx
    obtain ⟨_, _, h⟩ := I.lk p hp
    exact at_rng h
  · rw [List.mem_singleton] at hx; subst hx; exact I.ok.pos
theorem Kd.one {n : Int} : Kd n [⟨1, n, 0, 0⟩] := ⟨rfl, fun i t h => by
 have := at_rng h
 simp only [List.length_singleton] at this
 exact .inl (by omega)⟩
theorem hasN_len2 {app s : Int} {b c : Nat} {S : ChS} (I : ChI app s b c S) : (hasN S).length ≤ 65 := by
 have := I.ll
 unfold hasN; simp only [List.length_append, List.length_map, List.length_singleton]; omega
/-! ### The same terms in another store -/
theorem mk_there {ts : List TermR} {n : Nat} {t : TermR} (hw : Wf ts) (h : atN ts n = some t) : mk ts t = (ts, n, 0) := by
 have hr := at_rng h
 have hi : ts[n - 1]? = some t := by unfold atN at h; rwa [if_neg (by omega)] at h
 have hmay := (hw.2 _ _ hi).1
 have hm : may ts.length t = true := by
  have h1 : MayP (n - 1) t := of_decide_eq_true hmay
  refine decide_eq_true ?_
  rcases h1 with h | h | h | h | h
  · exact .inl h
  · exact .inr (.inl h)
  · obtain ⟨h1, h2, h3, h4⟩ := h; exact .inr (.inr (.inl ⟨h1, h2, by omega, by omega⟩))
  · obtain ⟨h1, h2, h3, h4⟩ := h; exact .inr (.inr (.inr (.inl ⟨h1, h2, by omega, by omega⟩)))
  · obtain ⟨h1, h2, h3, h4⟩ := h; exact .inr (.inr (.inr (.inr ⟨h1, h2, by omega, h4⟩)))
 obtain ⟨hl, he⟩ := List.getElem?_eq_some_iff.1 hi
 have hidx : ts.idxOf t = n - 1 := by rw [← he]; exact hw.1.idxOf_getElem _ hl
 unfold Dd.mk
 rw [if_neg (by rw [hm]; decide), if_pos (List.mem_of_getElem? hi), hidx, Nat.sub_add_cancel hr.1]
theorem range_at {n : Nat} {a : Int} (h0 : 0 ≤ a) (hn : a < (n : Int)) : ((List.range n).map natV)[a.toNat]? = some (.int .i64 a) := by
 rw [List.getElem?_map, List.getElem?_range (by omega)]
 show some (Value.int .i64 ((a.toNat : Nat) : Int)) = _
 rw [Int.toNat_of_nonneg h0]
theorem range_nat {n a : Nat} (hn : a < n) : ((List.range n).map natV)[a]? = some (natV a) := by rw [List.getElem?_map, List.getElem?_range hn]; rfl
theorem range_succ_V (n : Nat) : (List.range (n + 1)).map natV = (List.range n).map natV ++ [natV n] := by rw [List.range_succ, List.map_append]; rfl
/-! ### Keys that were left, as cells -/
def leftC (l : List (Nat × Nat)) : List Value := l.flatMap fun p => [natV p.1, natV p.2]
theorem leftC_cons (p : Nat × Nat) (l : List (Nat × Nat)) : leftC (p :: l) = natV p.1 :: natV p.2 :: leftC l := rfl
theorem leftC_append (l r : List (Nat × Nat)) : leftC (l ++ r) = leftC l ++ leftC r := List.flatMap_append
theorem leftC_snoc (l : List (Nat × Nat)) (a b : Nat) : leftC (l ++ [(a, b)]) = leftC l ++ [natV a, natV b] := leftC_append _ _
theorem leftC_len : ∀ l : List (Nat × Nat), (leftC l).length = l.length * 2
 | [] => rfl
 | p :: l => by rw [leftC_cons, List.length_cons, List.length_cons, leftC_len l, List.length_cons]; omega
theorem leftC_one : ∀ l : List (Nat × Nat), (leftC l).all (·.oneCell') = true
 | [] => rfl
 | p :: l => by rw [leftC_cons, List.all_cons, List.all_cons, leftC_one l]; rfl
theorem leftC_0 : ∀ {l : List (Nat × Nat)} {i : Nat} {o : Nat × Nat}, l[i]? = some o → (leftC l)[i * 2]? = some (natV o.1)
 | [], i, o, h => by simp at h
 | q :: l, 0, o, h => by simp at h; subst h; rfl
 | q :: l, i + 1, o, h => by
  have := leftC_0 (l := l) (i := i) (by simpa using h)
  rw [show (i + 1) * 2 = i * 2 + 1 + 1 by omega, leftC_cons]; simpa using this
theorem leftC_1 : ∀ {l : List (Nat × Nat)} {i : Nat} {o : Nat × Nat}, l[i]? = some o → (leftC l)[i * 2 + 1]? = some (natV o.2)
 | [], i, o, h => by simp at h
 | q :: l, 0, o, h => by simp at h; subst h; rfl
 | q :: l, i + 1, o, h => by
  have := leftC_1 (l := l) (i := i) (by simpa using h)
  rw [show (i + 1) * 2 + 1 = i * 2 + 1 + 1 + 1 by omega, leftC_cons]; simpa using this
theorem leftC_take {l : List (Nat × Nat)} {i j : Nat} {u : Value} (h : (leftC (l.take i))[j]? = some u) : (leftC l)[0 + j]? = some u := by
 rw [Nat.zero_add]
 have e : leftC l = leftC (l.take i) ++ leftC (l.drop i) := by rw [← leftC_append, List.take_append_drop]
 rw [e, List.getElem?_append_left (List.getElem?_eq_some_iff.1 h).1]; exact h
theorem leftC_drop {l : List (Nat × Nat)} {i j : Nat} {u : Value} (hi : i ≤ l.length) (h : (leftC (l.drop i))[j]? = some u) : (leftC l)[i * 2 + j]? = some u := by
 have e : leftC l = leftC (l.take i) ++ leftC (l.drop i) := by rw [← leftC_append, List.take_append_drop]
 have hl : (leftC (l.take i)).length = i * 2 := by rw [leftC_len, List.length_take, Nat.min_eq_left hi]
 rw [e, List.getElem?_append_right (by omega), hl, Nat.add_sub_cancel_left]; exact h
theorem left_idx {l : List (Nat × Nat)} (hone : (l.map (·.1)).Nodup) {i j m k : Nat} {o : Nat × Nat} (hi : l[i]? = some o) (hj : l[j]? = some (m, k)) (ho : o.1 = m) : i = j ∧ o.2 = k := by
 have h1 : (l.map (·.1))[i]? = some m := by rw [List.getElem?_map, hi]; exact congrArg some ho
 have h2 : (l.map (·.1))[j]? = some m := by rw [List.getElem?_map, hj]; rfl
 obtain ⟨l1, e1⟩ := List.getElem?_eq_some_iff.1 h1
 obtain ⟨l2, e2⟩ := List.getElem?_eq_some_iff.1 h2
 have hij : i = j := (List.getElem_inj hone).1 (e1.trans e2.symm)
 subst hij
 rw [hj] at hi
 cases hi
 exact ⟨rfl, rfl⟩
/-- Keys below a number. -/
def below (l : List (Nat × Nat)) (n : Nat) : List (Nat × Nat) := l.filter fun p => decide (p.1 < n)
def atNum (l : List (Nat × Nat)) (n : Nat) : List (Nat × Nat) := l.filter fun p => decide (p.1 = n)
theorem below_all {l : List (Nat × Nat)} {n : Nat} (h : ∀ p ∈ l, p.1 < n) : below l n = l := List.filter_eq_self.2 fun p hp => decide_eq_true (h p hp)
theorem below_zero (l : List (Nat × Nat)) : below l 0 = [] := List.filter_eq_nil_iff.2 fun p _ h => Nat.not_lt_zero _ (of_decide_eq_true h)
theorem below_succ (n : Nat) : ∀ {l : List (Nat × Nat)}, (l.map (·.1)).Pairwise (· < ·) → below l (n + 1) = below l n ++ atNum l n
  | [], _ => rfl
  | p :: l, h => by
    rw [List.map_cons, List.pairwise_cons] at h
    have ih := below_succ n (l := l) h.2
    have hgt : ∀ q ∈ l, p.1 < q.1 := fun q hq => h.1 _ (List.mem_map.2 ⟨q, hq, rfl⟩)
    unfold below atNum at *
    rw [List.filter_cons, List.filter_cons, List.filter_cons]
    by_cases h1 : p.1 < n
    · rw [if_pos (decide_eq_true (by omega)), if_pos (decide_eq_true h1), if_neg (by simp; omega), ih]; rfl
    · by_cases h2 : p.1 = n
      · have e1 : l.filter (fun p => decide (p.1 < n + 1)) = [] := List.filter_eq_nil_iff.2 fun q hq h => by have := hgt q hq; have := of_decide_eq_true h; omega
        have e2 : l.filter (fun p => decide (p.1 < n)) = [] := List.filter_eq_nil_iff.2 fun q hq h => by have := hgt q hq; have := of_decide_eq_true h; omega
        have e3 : l.filter (fun p => decide (p.1 = n)) = [] := List.filter_eq_nil_iff.2 fun q hq h => by have := hgt q hq; have := of_decide_eq_true h; omega
        rw [if_pos (decide_eq_true (by omega)), if_neg (by simp; omega), if_pos (decide_eq_true h2), e1, e2, e3]; rfl
      · rw [if_neg (by simp; omega), if_neg (by simp; omega), if_neg (by simp; omega), ih]
theorem atNum_take {l : List (Nat × Nat)} {n j : Nat} {o : Nat × Nat} (h : l[j]? = some o) : atNum (l.take (j + 1)) n = if o.1 = n then atNum (l.take j) n ++ [o] else atNum (l.take j) n := by
 obtain ⟨hl, he⟩ := List.getElem?_eq_some_iff.1 h
 unfold atNum
 rw [List.take_succ_eq_append_getElem hl, he, List.filter_append]
 by_cases e : o.1 = n
 · rw [if_pos e, List.filter_cons, if_pos (decide_eq_true e)]; rfl
 · rw [if_neg e, List.filter_cons, if_neg (by simpa using e)]; simp
theorem take_zero (S : ChS) (m : Int) (h : (takeR S m).2.2 ≠ 0) : (takeR S m).2.1 = 0 := by
  unfold takeR at h ⊢
  split at h
  · rw [if_pos (by assumption)]
  · rename_i h0
    rw [if_neg h0]
    split at h
    · exact absurd rfl h
    · split at h
      · rw [if_pos (by assumption)]
      · rename_i h1
        rw [if_neg h1]
        split at h
        · rw [if_pos (by assumption)]
        · exact absurd rfl h
theorem take_rng {app s : Int} {b c : Nat} {S S' : ChS} {m : Int} {k e : Nat} (I : TakeI app s b c S m S' k e) (h0 : e ≠ 0 → k = 0) : k < S'.ts.length + 1 := by
  by_cases he : e = 0
  · obtain ⟨_, h2, _⟩ := I.good he
    obtain ⟨_, _, h⟩ := h2
    have := at_rng h
    omega
  · rw [h0 he]; omega
theorem sorted_le (n : Nat) : ∀ {l : List Nat} {a : Nat}, l.Pairwise (· < ·) → (∀ x ∈ l, a ≤ x ∧ x < n) → l.length ≤ n - a
 | [], _, _, _ => Nat.zero_le _
 | x :: l, a, h, hb => by
  rw [List.pairwise_cons] at h
  have h1 := hb x List.mem_cons_self
  have ih := sorted_le n (l := l) (a := x + 1) h.2 (fun y hy => ⟨h.1 y hy, (hb y (List.mem_cons_of_mem _ hy)).2⟩)
  rw [List.length_cons]; omega
theorem left_le {S : ChS} (h : OkS S) : S.left.length ≤ S.nx := by
 have := sorted_le S.nx (a := 0) h.srt (fun x hx => by obtain ⟨p, hp, rfl⟩ := List.mem_map.1 hx; exact ⟨Nat.zero_le _, h.keys p hp⟩)
 rw [List.length_map] at this; omega
theorem bnd_next {app s : Int} {b c : Nat} {S S' : ChS} {m : Int} {k e : Nat} {l : List Nat} (I : TakeI app s b c S m S' k e) (h0 : e ≠ 0 → k = 0) (h : ∀ x ∈ l, x < S.ts.length + 1) : ∀ x ∈ l ++ [k], x < S'.ts.length + 1 := fun x hx => by
 rcases List.mem_append.1 hx with hx | hx
 · have h1 := h x hx; have h2 := I.ext.len; omega
 · rw [List.mem_singleton] at hx; subst hx; exact take_rng I h0
/-! ### Two keys, the second one first -/
def lvT : List TermR := [⟨1, 1, 0, 0⟩]
def lvS : ChS := startS lvT 1 9
theorem lvT_wf : Wf lvT := Wf.nil.mk (t := ⟨1, 1, 0, 0⟩) (by decide) (by decide)
theorem lv0 : ChI 1 9 3 0 lvS := ChI.start lvT_wf (by decide) (by unfold i64R; omega) (by decide)
theorem lv1 : ChI 1 9 3 1 (takeR lvS 1).1 := (take_I lv0 (by decide) 1).ch
theorem lv2 : ChI 1 9 3 2 (takeR (takeR lvS 1).1 0).1 := (take_I lv1 (by decide) 0).ch
theorem lv3 : ChI 1 9 3 3 (takeR (takeR (takeR lvS 1).1 0).1 0).1 := (take_I lv2 (by decide) 0).ch
theorem lv_f : (takeR lvS 1).2.2 = 0 := by decide +kernel
theorem lv_g : (takeR (takeR lvS 1).1 0).2.2 = 0 := by decide +kernel
theorem lv_h : (takeR (takeR (takeR lvS 1).1 0).1 0).2.2 = 10 := by decide +kernel
theorem lv_l : (takeR (takeR (takeR lvS 1).1 0).1 0).1.ts.length ≤ 100 := by decide +kernel
theorem lv_k : (takeR (takeR lvS 1).1 0).2.1 = (keyF (chainR (takeR (takeR (takeR lvS 1).1 0).1 0).1.ts 1 9 0)).2 := by decide +kernel
theorem lv_ne : (takeR (takeR lvS 1).1 0).2.1 ≠ (takeR lvS 1).2.1 := by decide +kernel
theorem lv_has : (hasN (takeR (takeR (takeR lvS 1).1 0).1 0).1).length = 1 := by decide +kernel
end Go.Proofs.YtjjghmkjdgogiaaGreatDoor
