/- Digests, seeds, cards: what they come to, and what follows: the plain part of AccountApart. -/
import Derived.Test.YtjjghmkjdgogiaaGreatDoorAcP
namespace Go.Proofs.YtjjghmkjdgogiaaGreatDoor
open Go Go.SL Go.Dd Go.RowKit
set_option linter.unusedVariables false
structure StJ (ts z : List TermR) (k : Nat) : Prop where
 wf : Wf z
 ext : Ext ts z
 len : z.length ≤ ts.length + k
 ac : AcI ts → AcI z
theorem StJ.trans {a b c : List TermR} {k m : Nat} (h : StJ a b k) (h2 : StJ b c m) : StJ a c (k + m) := ⟨h2.wf, h.ext.trans h2.ext, by have := h.len; have := h2.len; omega, fun I => h2.ac (h.ac I)⟩
theorem DtJ.st {ts : List TermR} {l : List Int} {z : List TermR} {ms : List Nat} (h : DtJ ts l z ms) : StJ ts z l.length := ⟨h.wf, h.ext, h.len, h.ac⟩
structure DgJ (ts : List TermR) (rem : List Int) (z : List TermR) (n : Nat) : Prop where
 st : StJ ts z 40
 dig : Dig z n rem
structure SdJ (ts : List TermR) (g e d : Int) (x : Nat) (z : List TermR) (p : Nat) : Prop where
 st : StJ ts z 40
 sed : Sed z p g e d x
/-- The keys of a card, and for own devices. -/
structure CdJ (ts z1 z2 z3 : List TermR) (key pub own : Nat) : Prop where
 k1 : okT ⟨4, 13, 1, 0⟩
 e1 : Dd.mk ts ⟨4, 13, 1, 0⟩ = (z1, key, 0)
 k2 : okT ⟨5, 0, (key : Int), 0⟩
 e2 : Dd.mk z1 ⟨5, 0, (key : Int), 0⟩ = (z2, pub, 0)
 k3 : okT ⟨4, 14, 1, 0⟩
 e3 : Dd.mk z2 ⟨4, 14, 1, 0⟩ = (z3, own, 0)
 st : StJ ts z3 3
 ky : atN z3 key = some ⟨4, 13, 1, 0⟩
 ow : atN z3 own = some ⟨4, 14, 1, 0⟩
 rng : 1 ≤ key ∧ key ≤ z1.length
 le : 1 ≤ z2.length ∧ z2.length ≤ z3.length
theorem Der.plain {z : List TermR} {n : Int} (hI : AcI z) (h1 : atN z 1 = some ⟨1, n, 0, 0⟩) {K : Nat → Prop} (hK : ∀ m, K m → m ≠ 1) {m : Nat} (hd : Der z K m) : m ≠ 1 := by
  have pb : ∀ {k : Nat}, PubK z k → k ≠ 1 := fun {k} ⟨u, hu, hk'⟩ => by rintro rfl; rw [h1] at hu; cases hu; simp at hk'
  refine hd.least (S := fun m => m ≠ 1) ⟨by simp, fun k u hu h2 => pb ⟨u, hu, .inl h2⟩, fun k u hu n1 n2 ha hb => ?_, fun k u hu h3 hk' => ?_, fun k u hu h3 hk' => ?_, fun k u hu h6 hk' hb => ?_⟩ hK
  · rintro rfl; rw [h1] at hu; cases hu; exact n1 rfl
  · have hr := at_rng hu
    have : k ≠ 1 := by rintro rfl; rw [h1] at hu; cases hu; cases h3
    exact pb ((hI.2 _ _ hu (by omega)).2.2.1 h3).1
  · have hr := at_rng hu
    have : k ≠ 1 := by rintro rfl; rw [h1] at hu; cases hu; cases h3
    exact pb ((hI.2 _ _ hu (by omega)).2.2.1 h3).2
  · have hr := at_rng hu
    have : k ≠ 1 := by rintro rfl; rw [h1] at hu; cases hu; cases h6
    exact absurd h6 (hI.2 _ _ hu (by omega)).2.1
/-- All that the law asks. -/
structure ApJ (n g e d g' e' d' : Int) (r r' : List Int) (z : List TermR) (x y p q key own : Nat) : Prop where
 dig : x = y ↔ r = r'
 sed : p = q ↔ (g = g' ∧ e = e' ∧ d = d' ∧ r = r')
 rng : ∀ m ∈ [(p : Int), (key : Int), (own : Int)], 1 ≤ m ∧ m ≤ (z.length : Int)
 has : derB z (KL [(p : Int), (key : Int), (own : Int)]) (q : Int) = decide (p = q)
 not : derB z (KL [(p : Int), (key : Int), (own : Int)]) 1 = false
end Go.Proofs.YtjjghmkjdgogiaaGreatDoor
