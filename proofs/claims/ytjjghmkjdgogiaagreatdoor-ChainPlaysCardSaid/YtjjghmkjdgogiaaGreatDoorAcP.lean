/- Lists of terms, digests, seeds: the plain part. -/
import Derived.Test.YtjjghmkjdgogiaaGreatDoorDdQ
import Derived.Test.YtjjghmkjdgogiaaGreatDoorDdP
namespace Go.Proofs.YtjjghmkjdgogiaaGreatDoor
open Go Go.SL Go.Dd Go.RowKit
set_option linter.unusedVariables false
/-! ### What a store has -/
def Ext (ts zs : List TermR) : Prop := ∃ xs, zs = ts ++ xs
theorem Ext.refl (ts : List TermR) : Ext ts ts := ⟨[], by simp⟩
theorem Ext.trans {a b c : List TermR} (h : Ext a b) (h2 : Ext b c) : Ext a c := by
 obtain ⟨x, rfl⟩ := h
 obtain ⟨y, rfl⟩ := h2
 exact ⟨x ++ y, by rw [List.append_assoc]⟩
theorem Ext.len {a b : List TermR} (h : Ext a b) : a.length ≤ b.length := by obtain ⟨x, rfl⟩ := h; simp
theorem Ext.at {a b : List TermR} (h : Ext a b) {n : Nat} {t : TermR} (ht : atN a n = some t) : atN b n = some t := by
  obtain ⟨x, rfl⟩ := h
  unfold atN at ht ⊢
  split at ht
  · cases ht
  · rename_i h0
    rw [if_neg h0, List.getElem?_append_left (List.getElem?_eq_some_iff.1 ht).1]; exact ht
theorem at_rng {ts : List TermR} {n : Nat} {t : TermR} (h : atN ts n = some t) : 1 ≤ n ∧ n ≤ ts.length := by
 unfold atN at h
 split at h
 · cases h
 · have := (List.getElem?_eq_some_iff.1 h).1; omega
theorem at_one {ts : List TermR} (hw : Wf ts) {m n : Nat} {t : TermR} (h1 : atN ts m = some t) (h2 : atN ts n = some t) : m = n := by
 have r1 := at_rng h1
 have r2 := at_rng h2
 unfold atN at h1 h2
 rw [if_neg (by omega)] at h1 h2
 obtain ⟨l1, e1⟩ := List.getElem?_eq_some_iff.1 h1
 obtain ⟨l2, e2⟩ := List.getElem?_eq_some_iff.1 h2
 have := (List.getElem_inj hw.1).1 (e1.trans e2.symm)
 omega
theorem mk_facts {ts : List TermR} {t : TermR} (ht : okT t) (hm : may ts.length t = true) (hl : ts.length < 1048576) :
  mk ts t = ((mk ts t).1, (mk ts t).2.1, 0) ∧ atN (mk ts t).1 (mk ts t).2.1 = some t ∧ Ext ts (mk ts t).1 ∧ (mk ts t).1.length ≤ ts.length + 1 := by
 obtain ⟨h1, h2, h3, _, _⟩ := mk_at hm hl
 exact ⟨by rw [← h1], h2, h3, (mk_len ts t).2⟩
theorem may_pair {m : Nat} {a b : Int} (ha : 1 ≤ a ∧ a ≤ (m : Int)) (hb : 1 ≤ b ∧ b ≤ (m : Int)) : may m ⟨3, 0, a, b⟩ = true := decide_eq_true (.inr (.inr (.inl ⟨.inl rfl, rfl, ha, hb⟩)))
theorem may_data {m : Nat} {n : Int} : may m ⟨2, n, 0, 0⟩ = true := decide_eq_true (.inr (.inl ⟨rfl, rfl, rfl⟩))
theorem may_kdf {m : Nat} {l a b : Int} (hl : 0 ≤ l) (ha : 1 ≤ a ∧ a ≤ (m : Int)) (hb : (1 ≤ b ∧ b ≤ (m : Int)) ∨ b = 0) : may m ⟨4, l, a, b⟩ = true := decide_eq_true (.inr (.inr (.inr (.inl ⟨rfl, hl, ha, hb⟩))))
/-! ### What an account's store has -/
def Dat (ts : List TermR) (m : Nat) (x : Int) : Prop := atN ts m = some ⟨2, x, 0, 0⟩
def PubK (ts : List TermR) (m : Nat) : Prop := ∃ t, atN ts m = some t ∧ (t.kind = 2 ∨ t.kind = 3 ∨ t.kind = 7)
theorem PubK.ext {a b : List TermR} (h : Ext a b) {m : Nat} (hp : PubK a m) : PubK b m := by obtain ⟨t, h1, h2⟩ := hp; exact ⟨t, h.at h1, h2⟩
theorem Dat.pub {ts : List TermR} {m : Nat} {x : Int} (h : Dat ts m x) : PubK ts m := ⟨_, h, .inl rfl⟩
/-- May this term stand in an account's store? -/
def AcT (ts : List TermR) (t : TermR) : Prop := t.kind ≠ 1 ∧ t.kind ≠ 6 ∧ (t.kind = 3 → PubK ts t.a.toNat ∧ PubK ts t.b.toNat) ∧ (t.kind = 4 → t.a = 1)
def AcI (ts : List TermR) : Prop := 1 ≤ ts.length ∧ ∀ m t, atN ts m = some t → 2 ≤ m → AcT ts t
theorem AcT.ext {a b : List TermR} (h : Ext a b) {t : TermR} (ht : AcT a t) : AcT b t := ⟨ht.1, ht.2.1, fun k => ⟨(ht.2.2.1 k).1.ext h, (ht.2.2.1 k).2.ext h⟩, ht.2.2.2⟩
theorem at_app {ts : List TermR} {t u : TermR} {m : Nat} (h : atN (ts ++ [t]) m = some u) : atN ts m = some u ∨ u = t := by
  unfold atN at h ⊢
  split at h
  · cases h
  · rename_i h0
    rw [if_neg h0]
    rw [List.getElem?_append] at h
    split at h
    · exact .inl h
    · rename_i hge
      have := (List.getElem?_eq_some_iff.1 h).1
      simp only [List.length_singleton] at this
      rw [show m - 1 - ts.length = 0 by omega] at h
      simp at h
      exact .inr h.symm
theorem AcI.mk {ts : List TermR} (I : AcI ts) {t : TermR} (ht : AcT ts t) : AcI (Dd.mk ts t).1 := by
  unfold Dd.mk; split
  · exact I
  split
  · exact I
  split
  · exact I
  · have hE : Ext ts (ts ++ [t]) := ⟨[t], rfl⟩
    refine ⟨by rw [List.length_append]; have := I.1; omega, fun m u hu h2 => ?_⟩
    rcases at_app hu with hu | rfl
    · exact (I.2 m u hu h2).ext hE
    · exact ht.ext hE

/-! ### Lists -/
/-- A number stands for these, one in the other. -/
def LsD (ts : List TermR) : Nat → List Nat → Prop
 | _, [] => False
 | m, [x] => m = x
 | m, x :: l => ∃ r : Nat, atN ts m = some ⟨3, 0, ((x : Nat) : Int), ((r : Nat) : Int)⟩ ∧ LsD ts r l
theorem LsD.ext {a b : List TermR} (h : Ext a b) : ∀ {l : List Nat} {m : Nat}, LsD a m l → LsD b m l
 | [], _, hd => hd
 | [_], _, hd => hd
 | _ :: y :: l, _, ⟨r, h1, h2⟩ => ⟨r, h.at h1, LsD.ext h (l := y :: l) h2⟩
theorem LsD.one {ts : List TermR} (hw : Wf ts) : ∀ {l : List Nat} {m n : Nat}, LsD ts m l → LsD ts n l → m = n
 | [], _, _, h, _ => h.elim
 | [_], _, _, h1, h2 => h1.trans h2.symm
 | _ :: y :: l, _, _, ⟨r, h1, h2⟩, ⟨r', h3, h4⟩ => by
  have := LsD.one hw (l := y :: l) h2 h4
  subst this
  exact at_one hw h1 h3
/-- Lists of terms that are no pairs are told by their numbers. -/
theorem LsD.inj {ts : List TermR} : ∀ {l l' : List Nat} {m : Nat}, LsD ts m l → LsD ts m l' → (∀ x ∈ l, ∃ t, atN ts x = some t ∧ t.kind ≠ 3) → (∀ x ∈ l', ∃ t, atN ts x = some t ∧ t.kind ≠ 3) → l = l'
 | [], _, _, h, _, _, _ => h.elim
 | _, [], _, _, h, _, _ => h.elim
 | [x], [y], _, h1, h2, _, _ => by rw [← h1, ← h2]
 | [x], y :: z :: l', m, h1, ⟨r, h2, _⟩, h3, _ => by
  obtain ⟨t, ht, hk⟩ := h3 x (by simp)
  rw [← show m = x from h1, h2] at ht
  cases ht; exact absurd rfl hk
 | y :: z :: l, [x], m, ⟨r, h2, _⟩, h1, _, h3 => by
  obtain ⟨t, ht, hk⟩ := h3 x (by simp)
  rw [← show m = x from h1, h2] at ht
  cases ht; exact absurd rfl hk
 | x :: y :: l, x' :: y' :: l', m, ⟨r, h1, h2⟩, ⟨r', h3, h4⟩, h5, h6 => by
  rw [h1] at h3
  simp only [Option.some.injEq, TermR.mk.injEq, Int.natCast_inj, true_and] at h3
  obtain ⟨rfl, rfl⟩ := h3
  rw [LsD.inj (l := y :: l) (l' := y' :: l') h2 h4 (fun z hz => h5 z (List.mem_cons_of_mem _ hz)) (fun z hz => h6 z (List.mem_cons_of_mem _ hz))]
/-- What is so of what has come together. -/
structure LsJ (ts : List TermR) (z : List TermR × Nat) (l : List Nat) (k : Nat) : Prop where
 wf : Wf z.1
 ext : Ext ts z.1
 rng : 1 ≤ z.2 ∧ z.2 ≤ z.1.length
 len : z.1.length ≤ ts.length + k
 den : LsD z.1 z.2 l
 ac : AcI ts → (∀ x ∈ l, PubK ts x) → AcI z.1 ∧ PubK z.1 z.2
theorem LsJ.start {ts : List TermR} (hw : Wf ts) {x : Nat} (h : 1 ≤ x ∧ x ≤ ts.length) : LsJ ts (ts, x) [x] 0 := ⟨hw, .refl _, h, Nat.le_refl _, rfl, fun I hp => ⟨I, hp x (by simp)⟩⟩
theorem LsJ.step {ts : List TermR} {z : List TermR × Nat} {l : List Nat} {k : Nat} (I : LsJ ts z l k) (hne : l ≠ []) {x : Nat} (h : 1 ≤ x ∧ x ≤ ts.length) (hk : ts.length + k < 1048576) :
    okT ⟨3, 0, (x : Int), (z.2 : Int)⟩ ∧ Dd.mk z.1 ⟨3, 0, (x : Int), (z.2 : Int)⟩ = ((Dd.mk z.1 ⟨3, 0, (x : Int), (z.2 : Int)⟩).1, (Dd.mk z.1 ⟨3, 0, (x : Int), (z.2 : Int)⟩).2.1, 0) ∧
    LsJ ts ((Dd.mk z.1 ⟨3, 0, (x : Int), (z.2 : Int)⟩).1, (Dd.mk z.1 ⟨3, 0, (x : Int), (z.2 : Int)⟩).2.1) (x :: l) (k + 1) := by
  have hel := I.ext.len
  have hzl := I.len
  have hr := I.rng
  have hm : may z.1.length ⟨3, 0, (x : Int), (z.2 : Int)⟩ = true := may_pair (by omega) (by omega)
  have ok : okT ⟨3, 0, (x : Int), (z.2 : Int)⟩ := by unfold okT; simp only; omega
  obtain ⟨e1, e2, e3, e4⟩ := mk_facts ok hm (by omega)
  refine ⟨ok, e1, I.wf.mk ok.1 ok.2.1, I.ext.trans e3, at_rng e2, by simp only; omega, ?_, fun hI hp => ?_⟩
  · cases l with
    | nil => exact absurd rfl hne
    | cons y l => exact ⟨z.2, e2, I.den.ext e3⟩
  · have hz := I.ac hI (fun y hy => hp y (List.mem_cons_of_mem _ hy))
    exact ⟨hz.1.mk ⟨by simp, by simp, fun _ => ⟨by simpa using (hp x (by simp)).ext I.ext, by simpa using hz.2⟩, by simp⟩, ⟨_, e2, .inr (.inl rfl)⟩⟩

/-! ### Data -/
/-- Numbers of these data. -/
inductive DatL (ts : List TermR) : List Nat → List Int → Prop
 | nil : DatL ts [] []
 | cons {m : Nat} {x : Int} {ms : List Nat} {l : List Int} : Dat ts m x → DatL ts ms l → DatL ts (m :: ms) (x :: l)
theorem DatL.ext {a b : List TermR} (h : Ext a b) {ms : List Nat} {l : List Int} (hd : DatL a ms l) : DatL b ms l := by
 induction hd with
 | nil => exact .nil
 | cons h1 _ ih => exact .cons (h.at h1) ih
theorem DatL.snoc {ts : List TermR} {ms : List Nat} {l : List Int} {m : Nat} {x : Int} (h : DatL ts ms l) (hx : Dat ts m x) : DatL ts (ms ++ [m]) (l ++ [x]) := by
 induction h with
 | nil => exact .cons hx .nil
 | cons h1 _ ih => exact .cons h1 ih
theorem DatL.app {ts : List TermR} {ms ms' : List Nat} {l l' : List Int} (h : DatL ts ms l) (h' : DatL ts ms' l') : DatL ts (ms ++ ms') (l ++ l') := by
 induction h with
 | nil => exact h'
 | cons h1 _ ih => exact .cons h1 ih
theorem DatL.rng {ts : List TermR} {ms : List Nat} {l : List Int} (h : DatL ts ms l) : ∀ m ∈ ms, 1 ≤ m ∧ m ≤ ts.length := by
 induction h with
 | nil => intro m hm; cases hm
 | cons h1 _ ih => intro m hm; rcases List.mem_cons.1 hm with rfl | hm; exact at_rng h1; exact ih m hm
theorem DatL.pub {ts : List TermR} {ms : List Nat} {l : List Int} (h : DatL ts ms l) : ∀ m ∈ ms, PubK ts m := by
 induction h with
 | nil => intro m hm; cases hm
 | cons h1 _ ih => intro m hm; rcases List.mem_cons.1 hm with rfl | hm; exact Dat.pub h1; exact ih m hm
theorem DatL.flat {ts : List TermR} {ms : List Nat} {l : List Int} (h : DatL ts ms l) : ∀ m ∈ ms, ∃ t, atN ts m = some t ∧ t.kind ≠ 3 := by
 induction h with
 | nil => intro m hm; cases hm
 | cons h1 _ ih => intro m hm; rcases List.mem_cons.1 hm with rfl | hm; exact ⟨_, h1, by simp⟩; exact ih m hm
theorem DatL.len {ts : List TermR} {ms : List Nat} {l : List Int} (h : DatL ts ms l) : ms.length = l.length := by
 induction h with
 | nil => rfl
 | cons _ _ ih => simp [ih]
theorem DatL.inj {ts : List TermR} {ms : List Nat} {l l' : List Int} (h : DatL ts ms l) (h' : DatL ts ms l') : l = l' := by
 induction h generalizing l' with
 | nil => cases h'; rfl
 | cons h1 _ ih =>
  cases h' with
  | cons h2 h3 =>
   have := h1.symm.trans h2
   simp only [Option.some.injEq, TermR.mk.injEq, true_and, and_true] at this
   rw [this, ih h3]
theorem DatL.one {ts : List TermR} (hw : Wf ts) {ms ms' : List Nat} {l : List Int} (h : DatL ts ms l) (h' : DatL ts ms' l) : ms = ms' := by
 induction h generalizing ms' with
 | nil => cases h'; rfl
 | cons h1 _ ih =>
  cases h' with
  | cons h2 h3 => rw [at_one hw h1 h2, ih h3]
/-- What is so while data are put into a list. -/
structure DtJ (ts : List TermR) (l : List Int) (z : List TermR) (ms : List Nat) : Prop where
 wf : Wf z
 ext : Ext ts z
 len : z.length ≤ ts.length + l.length
 dat : DatL z ms l
 ac : AcI ts → AcI z
theorem DtJ.start {ts : List TermR} (hw : Wf ts) : DtJ ts [] ts [] := ⟨hw, .refl _, Nat.le_refl _, .nil, id⟩
theorem DtJ.step {ts : List TermR} {l : List Int} {z : List TermR} {ms : List Nat} (I : DtJ ts l z ms) {x : Int} (hx : -9223372036854775808 ≤ x ∧ x ≤ 9223372036854775807) (hl : ts.length + l.length < 1048576) :
  okT ⟨2, x, 0, 0⟩ ∧ Dd.mk z ⟨2, x, 0, 0⟩ = ((Dd.mk z ⟨2, x, 0, 0⟩).1, (Dd.mk z ⟨2, x, 0, 0⟩).2.1, 0) ∧ (1 ≤ (Dd.mk z ⟨2, x, 0, 0⟩).2.1 ∧ (Dd.mk z ⟨2, x, 0, 0⟩).2.1 ≤ (Dd.mk z ⟨2, x, 0, 0⟩).1.length) ∧
  DtJ ts (l ++ [x]) (Dd.mk z ⟨2, x, 0, 0⟩).1 (ms ++ [(Dd.mk z ⟨2, x, 0, 0⟩).2.1]) := by
 have hzl := I.len
 have ok : okT ⟨2, x, 0, 0⟩ := by unfold okT; simp only; omega
 obtain ⟨e1, e2, e3, e4⟩ := mk_facts ok may_data (show z.length < 1048576 by omega)
 exact ⟨ok, e1, at_rng e2, I.wf.mk ok.1 ok.2.1, I.ext.trans e3, by rw [List.length_append, List.length_singleton]; omega, (I.dat.ext e3).snoc e2, fun hI => (I.ac hI).mk ⟨by simp, by simp, by simp, by simp⟩⟩

/-! ### Digests, seeds -/
def Dig (z : List TermR) (x : Nat) (rem : List Int) : Prop := ∃ m ms, atN z x = some ⟨7, 0, ((m : Nat) : Int), 0⟩ ∧ LsD z m ms ∧ DatL z ms (0 :: ((rem.length : Nat) : Int) :: rem)
theorem Dig.ext {a b : List TermR} (h : Ext a b) {x : Nat} {rem : List Int} (hd : Dig a x rem) : Dig b x rem := by obtain ⟨m, ms, h1, h2, h3⟩ := hd; exact ⟨m, ms, h.at h1, h2.ext h, h3.ext h⟩
theorem Dig.pub {z : List TermR} {x : Nat} {rem : List Int} (hd : Dig z x rem) : PubK z x := by obtain ⟨m, ms, h1, _, _⟩ := hd; exact ⟨_, h1, .inr (.inr rfl)⟩
theorem Dig.iff {z : List TermR} (hw : Wf z) {x y : Nat} {r r' : List Int} (h : Dig z x r) (h' : Dig z y r') : x = y ↔ r = r' := by
  obtain ⟨m, ms, h1, h2, h3⟩ := h
  obtain ⟨m', ms', h4, h5, h6⟩ := h'
  constructor
  · rintro rfl
    rw [h1] at h4
    simp only [Option.some.injEq, TermR.mk.injEq, Int.natCast_inj, true_and, and_true] at h4
    subst h4
    have := h2.inj h5 h3.flat h6.flat
    subst this
    have := h3.inj h6
    simp only [List.cons.injEq, true_and] at this
    exact this.2
  · rintro rfl
    have := h3.one hw h6
    subst this
    have := h2.one hw h5
    subst this
    exact at_one hw h1 h4
def Sed (z : List TermR) (p : Nat) (g e d : Int) (x : Nat) : Prop := ∃ m ms, atN z p = some ⟨4, 12, 1, ((m : Nat) : Int)⟩ ∧ LsD z m (ms ++ [x]) ∧ DatL z ms [g, e, d]
theorem Sed.ext {a b : List TermR} (h : Ext a b) {p : Nat} {g e d : Int} {x : Nat} (hd : Sed a p g e d x) : Sed b p g e d x := by obtain ⟨m, ms, h1, h2, h3⟩ := hd; exact ⟨m, ms, h.at h1, h2.ext h, h3.ext h⟩
theorem app_one {ms ms' : List Nat} {x y : Nat} (h : ms ++ [x] = ms' ++ [y]) : ms = ms' ∧ x = y := by
 have := List.append_inj' h rfl
 exact ⟨this.1, by simpa using this.2⟩
theorem Sed.iff {z : List TermR} (hw : Wf z) {p q : Nat} {g e d g' e' d' : Int} {x y : Nat} (hx : ∃ t, atN z x = some t ∧ t.kind ≠ 3) (hy : ∃ t, atN z y = some t ∧ t.kind ≠ 3) (h : Sed z p g e d x) (h' : Sed z q g' e' d' y) : p = q ↔ (g = g' ∧ e = e' ∧ d = d' ∧ x = y) := by
  obtain ⟨m, ms, h1, h2, h3⟩ := h
  obtain ⟨m', ms', h4, h5, h6⟩ := h'
  constructor
  · rintro rfl
    rw [h1] at h4
    simp only [Option.some.injEq, TermR.mk.injEq, Int.natCast_inj, true_and] at h4
    subst h4
    have key := h2.inj h5 (fun k hk => by
      rcases List.mem_append.1 hk with hk | hk
      · exact h3.flat k hk
      · rw [List.mem_singleton] at hk; subst hk; exact hx) (fun k hk => by
      rcases List.mem_append.1 hk with hk | hk
      · exact h6.flat k hk
      · rw [List.mem_singleton] at hk; subst hk; exact hy)
    obtain ⟨rfl, rfl⟩ := app_one key
    have := h3.inj h6
    simp only [List.cons.injEq, and_true] at this
    exact ⟨this.1, this.2.1, this.2.2, rfl⟩
  · rintro ⟨rfl, rfl, rfl, rfl⟩
    have := h3.one hw h6
    subst this
    have := h2.one hw h5
    subst this
    exact at_one hw h1 h4
theorem Dig.flat {z : List TermR} {x : Nat} {rem : List Int} (hd : Dig z x rem) : ∃ t, atN z x = some t ∧ t.kind ≠ 3 := by obtain ⟨m, ms, h1, _, _⟩ := hd; exact ⟨_, h1, by simp⟩
end Go.Proofs.YtjjghmkjdgogiaaGreatDoor
