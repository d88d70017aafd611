/- Digests, seeds, cards: what they come to, and what follows: the plain part of AccountApart. -/
import Derived.Test.YtjjghmkjdgogiaaAcP
namespace Go.Proofs.Ytjjghmkjdgogiaa
open Go Go.SL Go.Dd Go.RowKit
set_option linter.unusedVariables false
structure StJ (ts z : List TermR) (k : Nat) : Prop where
  wf : Wf z
  ext : Ext ts z
  len : z.length ≤ ts.length + k
  ac : AcI ts → AcI z
theorem StJ.trans {a b c : List TermR} {k m : Nat} (h : StJ a b k) (h2 : StJ b c m) : StJ a c (k + m) := ⟨h2.wf, h.ext.trans h2.ext, by have := h.len; have := h2.len; omega, fun I => h2.ac (h.ac I)⟩
theorem DtJ.st {ts : List TermR} {l : List Int} {z : List TermR} {ms : List Nat} (h : DtJ ts l z ms) : StJ ts z l.length := ⟨h.wf, h.ext, h.len, h.ac⟩
theorem st_made {ts : List TermR} {t : TermR} (hw : Wf ts) (ok : okT t) (hm : may ts.length t = true) (hl : ts.length < 1048576) (ht : AcI ts → AcT ts t) : StJ ts (Dd.mk ts t).1 1 := by
  obtain ⟨e1, e2, e3, e4⟩ := mk_facts ok hm hl
  exact ⟨hw.mk ok.1 ok.2.1, e3, e4, fun I => I.mk (ht I)⟩
structure DgJ (ts : List TermR) (rem : List Int) (z : List TermR) (n : Nat) : Prop where
  st : StJ ts z 40
  dig : Dig z n rem
structure SdJ (ts : List TermR) (g e d : Int) (x : Nat) (z : List TermR) (p : Nat) : Prop where
  st : StJ ts z 40
  sed : Sed z p g e d x
/-- The digest's list. -/
theorem dg_list {ts a b c : List TermR} {rem : List Int} {m1 m2 m3 : List Nat} {r : Int} (h1 : DtJ ts [0] a m1) (h2 : DtJ a [r] b m2) (h3 : DtJ b rem c m3) :
    DatL c ((([] ++ m1) ++ m2) ++ m3) (0 :: r :: rem) ∧ ((([] ++ m1) ++ m2) ++ m3).length = rem.length + 2 := by
  have hd : DatL c ((([] ++ m1) ++ m2) ++ m3) (0 :: r :: rem) := ((((h1.dat.ext h2.ext).ext h3.ext).app (h2.dat.ext h3.ext)).app h3.dat)
  exact ⟨by simpa using hd, by have := hd.len; simpa using this⟩
theorem dg_made {ts a b c : List TermR} {rem : List Int} {m1 m2 m3 : List Nat} {zl : List TermR × Nat} {k : Nat} (hr : rem.length ≤ 8) (hl : ts.length ≤ 900000) (h1 : DtJ ts [0] a m1) (h2 : DtJ a [((rem.length : Nat) : Int)] b m2) (h3 : DtJ b rem c m3)
    (h4 : LsJ c zl ((([] ++ m1) ++ m2) ++ m3) k) (hk : k ≤ 9) :
    okT ⟨7, 0, (zl.2 : Int), 0⟩ ∧ Dd.mk zl.1 ⟨7, 0, (zl.2 : Int), 0⟩ = ((Dd.mk zl.1 ⟨7, 0, (zl.2 : Int), 0⟩).1, (Dd.mk zl.1 ⟨7, 0, (zl.2 : Int), 0⟩).2.1, 0) ∧ DgJ ts rem (Dd.mk zl.1 ⟨7, 0, (zl.2 : Int), 0⟩).1 (Dd.mk zl.1 ⟨7, 0, (zl.2 : Int), 0⟩).2.1 := by
  obtain ⟨hd, hlen⟩ := dg_list h1 h2 h3
  have l1 := h1.len
  have l2 := h2.len
  have l3 := h3.len
  have l4 := h4.len
  have hr4 := h4.rng
  simp only [List.length_singleton] at l1 l2
  have ok : okT ⟨7, 0, (zl.2 : Int), 0⟩ := by unfold okT; simp only; omega
  have hm : may zl.1.length ⟨7, 0, (zl.2 : Int), 0⟩ = true := may_hash (by omega)
  obtain ⟨e1, e2, e3, e4⟩ := mk_facts ok hm (by omega)
  refine ⟨ok, e1, ⟨h4.wf.mk ok.1 ok.2.1, (((h1.ext.trans h2.ext).trans h3.ext).trans h4.ext).trans e3, by omega, fun I => ?_⟩, zl.2, _, e2, h4.den.ext e3, (hd.ext h4.ext).ext e3⟩
  have I3 := h3.ac (h2.ac (h1.ac I))
  exact (h4.ac I3 hd.pub).1.mk ⟨by simp, by simp, by simp, by simp⟩
theorem sd_list {ts a : List TermR} {g e d : Int} {ms : List Nat} {x : Nat} (h1 : DtJ ts [g, e, d] a ms) (hx : 1 ≤ x ∧ x ≤ ts.length) :
    (∀ m ∈ ([] ++ ms) ++ [x], 1 ≤ m ∧ m ≤ a.length) ∧ (([] ++ ms) ++ [x]).length = 4 := by
  have hl := h1.dat.len
  have he := h1.ext.len
  refine ⟨fun m hm => ?_, by simpa using hl⟩
  rw [List.nil_append] at hm
  rcases List.mem_append.1 hm with hm | hm
  · exact h1.dat.rng m hm
  · rw [List.mem_singleton] at hm; omega
theorem sd_made {ts a : List TermR} {g e d : Int} {ms : List Nat} {x : Nat} {zl : List TermR × Nat} {k : Nat} (hl : ts.length ≤ 900000) (h1 : DtJ ts [g, e, d] a ms) (hp : 1 ≤ ts.length) (hx : PubK ts x)
    (h4 : LsJ a zl (([] ++ ms) ++ [x]) k) (hk : k ≤ 3) :
    okT ⟨4, 12, 1, (zl.2 : Int)⟩ ∧ Dd.mk zl.1 ⟨4, 12, 1, (zl.2 : Int)⟩ = ((Dd.mk zl.1 ⟨4, 12, 1, (zl.2 : Int)⟩).1, (Dd.mk zl.1 ⟨4, 12, 1, (zl.2 : Int)⟩).2.1, 0) ∧ SdJ ts g e d x (Dd.mk zl.1 ⟨4, 12, 1, (zl.2 : Int)⟩).1 (Dd.mk zl.1 ⟨4, 12, 1, (zl.2 : Int)⟩).2.1 := by
  have l1 := h1.len
  have l4 := h4.len
  have e1' := h1.ext.len
  have e4' := h4.ext.len
  have hr4 := h4.rng
  simp only [List.length_cons, List.length_nil] at l1
  have ok : okT ⟨4, 12, 1, (zl.2 : Int)⟩ := by unfold okT; simp only; omega
  have hm : may zl.1.length ⟨4, 12, 1, (zl.2 : Int)⟩ = true := may_kdf (by omega) (by omega) (.inl (by omega))
  obtain ⟨e1, e2, e3, e4⟩ := mk_facts ok hm (by omega)
  refine ⟨ok, e1, ⟨h4.wf.mk ok.1 ok.2.1, (h1.ext.trans h4.ext).trans e3, by omega, fun I => ?_⟩, zl.2, ms, e2, ?_, (h1.dat.ext h4.ext).ext e3⟩
  · have I1 := h1.ac I
    refine (h4.ac I1 fun m hm => ?_).1.mk ⟨by simp, by simp, by simp, by simp⟩
    rw [List.nil_append] at hm
    rcases List.mem_append.1 hm with hm | hm
    · exact h1.dat.pub m hm
    · rw [List.mem_singleton] at hm; subst hm; exact hx.ext h1.ext
  · have := h4.den.ext e3; rwa [List.nil_append] at this
/-- The keys of a card, and for own devices. -/
structure CdJ (ts z1 z2 z3 : List TermR) (key pub own : Nat) : Prop where
  k1 : okT ⟨4, 13, 1, 0⟩
  e1 : Dd.mk ts ⟨4, 13, 1, 0⟩ = (z1, key, 0)
  k2 : okT ⟨5, 0, (key : Int), 0⟩
  e2 : Dd.mk z1 ⟨5, 0, (key : Int), 0⟩ = (z2, pub, 0)
  k3 : okT ⟨4, 14, 1, 0⟩
  e3 : Dd.mk z2 ⟨4, 14, 1, 0⟩ = (z3, own, 0)
  st : StJ ts z3 3
  ky : atN z3 key = some ⟨4, 13, 1, 0⟩
  ow : atN z3 own = some ⟨4, 14, 1, 0⟩
  rng : 1 ≤ key ∧ key ≤ z1.length
  le : 1 ≤ z2.length ∧ z2.length ≤ z3.length
theorem cd_made {ts : List TermR} (hw : Wf ts) (h1 : 1 ≤ ts.length) (hl : ts.length ≤ 900000) : ∃ z1 z2 z3 key pub own, CdJ ts z1 z2 z3 key pub own := by
  have k1 : okT ⟨4, 13, 1, 0⟩ := by unfold okT; decide
  have m1 : may ts.length ⟨4, 13, 1, 0⟩ = true := may_kdf (by omega) (by omega) (.inr rfl)
  obtain ⟨a1, a2, a3, a4⟩ := mk_facts k1 m1 (by omega)
  have s1 := st_made hw k1 m1 (by omega) (fun _ => ⟨by simp, by simp, by simp, by simp⟩)
  have r1 := at_rng a2
  have x1 := a3.len
  have k2 : okT ⟨5, 0, ((Dd.mk ts ⟨4, 13, 1, 0⟩).2.1 : Int), 0⟩ := by unfold okT; simp only; omega
  have m2 : may (Dd.mk ts ⟨4, 13, 1, 0⟩).1.length ⟨5, 0, ((Dd.mk ts ⟨4, 13, 1, 0⟩).2.1 : Int), 0⟩ = true := may_pub (by omega)
  obtain ⟨b1, b2, b3, b4⟩ := mk_facts k2 m2 (by omega)
  have s2 := st_made s1.wf k2 m2 (by omega) (fun _ => ⟨by simp, by simp, by simp, by simp⟩)
  have x2 := b3.len
  have k3 : okT ⟨4, 14, 1, 0⟩ := by unfold okT; decide
  have m3 : may (Dd.mk (Dd.mk ts ⟨4, 13, 1, 0⟩).1 ⟨5, 0, ((Dd.mk ts ⟨4, 13, 1, 0⟩).2.1 : Int), 0⟩).1.length ⟨4, 14, 1, 0⟩ = true := may_kdf (by omega) (by omega) (.inr rfl)
  obtain ⟨c1, c2, c3, c4⟩ := mk_facts k3 m3 (by omega)
  have s3 := st_made s2.wf k3 m3 (by omega) (fun _ => ⟨by simp, by simp, by simp, by simp⟩)
  have x3 := c3.len
  exact ⟨_, _, _, _, _, _, k1, a1, k2, b1, k3, c1, (s1.trans s2).trans s3, c3.at (b3.at a2), c2, r1, by omega, x3⟩
theorem Der.plain {z : List TermR} {n : Int} (hI : AcI z) (h1 : atN z 1 = some ⟨1, n, 0, 0⟩) {K : Nat → Prop} (hK : ∀ m, K m → m ≠ 1) {m : Nat} (hd : Der z K m) : m ≠ 1 := by
  have pb : ∀ {k : Nat}, PubK z k → k ≠ 1 := fun {k} ⟨u, hu, hk'⟩ => by rintro rfl; rw [h1] at hu; cases hu; simp at hk'
  refine hd.least (S := fun m => m ≠ 1) ⟨by simp, fun k u hu h2 => pb ⟨u, hu, .inl h2⟩, fun k u hu n1 n2 ha hb => ?_, fun k u hu h3 hk' => ?_, fun k u hu h3 hk' => ?_, fun k u hu h6 hk' hb => ?_⟩ hK
  · rintro rfl; rw [h1] at hu; cases hu; exact n1 rfl
  · have hr := at_rng hu
    have : k ≠ 1 := by rintro rfl; rw [h1] at hu; cases hu; cases h3
    exact pb ((hI.2 _ _ hu (by omega)).2.2.1 h3).1
  · have hr := at_rng hu
    have : k ≠ 1 := by rintro rfl; rw [h1] at hu; cases hu; cases h3
    exact pb ((hI.2 _ _ hu (by omega)).2.2.1 h3).2
  · have hr := at_rng hu
    have : k ≠ 1 := by rintro rfl; rw [h1] at hu; cases hu; cases h6
    exact absurd h6 (hI.2 _ _ hu (by omega)).2.1
theorem at_kind {z : List TermR} {m n : Nat} {t u : TermR} (h : atN z m = some t) (h2 : atN z n = some u) (hne : t ≠ u) : m ≠ n := by rintro rfl; rw [h] at h2; cases h2; exact hne rfl
/-- All that the law asks. -/
structure ApJ (n g e d g' e' d' : Int) (r r' : List Int) (z : List TermR) (x y p q key own : Nat) : Prop where
  dig : x = y ↔ r = r'
  sed : p = q ↔ (g = g' ∧ e = e' ∧ d = d' ∧ r = r')
  rng : ∀ m ∈ [(p : Int), (key : Int), (own : Int)], 1 ≤ m ∧ m ≤ (z.length : Int)
  has : derB z (KL [(p : Int), (key : Int), (own : Int)]) (q : Int) = decide (p = q)
  not : derB z (KL [(p : Int), (key : Int), (own : Int)]) 1 = false
theorem ap_facts {n g e d g' e' d' : Int} {r r' : List Int} {z1 z2 z3 z4 z5 z6 z7 : List TermR} {x y p q key pub own : Nat} (h1 : DgJ [⟨1, n, 0, 0⟩] r z1 x) (h2 : DgJ z1 r' z2 y) (h3 : SdJ z2 g e d x z3 p) (h4 : SdJ z3 g' e' d' y z4 q) (h5 : CdJ z4 z5 z6 z7 key pub own) :
    ApJ n g e d g' e' d' r r' z7 x y p q key own := by
  have I0 : AcI [⟨1, n, 0, 0⟩] := ⟨by simp, fun m t h hm => by have := at_rng h; simp at this; omega⟩
  have I7 : AcI z7 := h5.st.ac (h4.st.ac (h3.st.ac (h2.st.ac (h1.st.ac I0))))
  have E4 := h5.st.ext
  have E3 := h4.st.ext.trans E4
  have E2 := h3.st.ext.trans E3
  have E1 := h2.st.ext.trans E2
  have E0 := h1.st.ext.trans E1
  have a1 : atN z7 1 = some ⟨1, n, 0, 0⟩ := E0.at rfl
  have hw := h5.st.wf
  have dx := h1.dig.ext E1
  have dy := h2.dig.ext E2
  have sp := h3.sed.ext E3
  have sq := h4.sed.ext E4
  have hdig := dx.iff hw dy
  have hsed := sp.iff hw dx.flat dy.flat sq
  rw [hdig] at hsed
  obtain ⟨mp, msp, ap, _, _⟩ := sp
  obtain ⟨mq, msq, aq, _, _⟩ := sq
  have hK1 : ∀ m, KL [(p : Int), (key : Int), (own : Int)] m → m ≠ 1 := by
    rintro m ⟨v, hv, rfl⟩
    simp only [List.mem_cons, List.not_mem_nil, or_false] at hv
    rcases hv with rfl | rfl | rfl
    · rw [Int.toNat_natCast]; exact at_kind ap a1 (by simp)
    · rw [Int.toNat_natCast]; exact at_kind h5.ky a1 (by simp)
    · rw [Int.toNat_natCast]; exact at_kind h5.ow a1 (by simp)
  have rp := at_rng ap
  have rq := at_rng aq
  have rk := at_rng h5.ky
  have ro := at_rng h5.ow
  refine ⟨hdig, hsed, fun m hm => ?_, ?_, ?_⟩
  · simp only [List.mem_cons, List.not_mem_nil, or_false] at hm
    rcases hm with rfl | rfl | rfl <;> omega
  · by_cases hpq : p = q
    · rw [decide_eq_true hpq]
      exact derB_known (by rw [← hpq]; simp) (by omega)
    · rw [decide_eq_false hpq]
      refine Bool.eq_false_iff.2 fun hd => ?_
      have hd := (derB_iff.1 hd).2.2
      rw [Int.toNat_natCast] at hd
      refine (ac_not hw I7 a1 aq rfl (fun m hm => ⟨hK1 m hm, ?_⟩) hd).2 rfl
      obtain ⟨v, hv, rfl⟩ := hm
      simp only [List.mem_cons, List.not_mem_nil, or_false] at hv
      rcases hv with rfl | rfl | rfl
      · rw [Int.toNat_natCast]; exact hpq
      · rw [Int.toNat_natCast]; exact at_kind h5.ky aq (by simp)
      · rw [Int.toNat_natCast]; exact at_kind h5.ow aq (by simp)
  · refine Bool.eq_false_iff.2 fun hd => ?_
    have hd := (derB_iff.1 hd).2.2
    exact Der.plain I7 a1 hK1 hd rfl
end Go.Proofs.Ytjjghmkjdgogiaa
