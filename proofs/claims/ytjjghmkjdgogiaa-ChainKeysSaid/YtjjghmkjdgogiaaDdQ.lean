/- What follows, told by a list that is looked through. -/
import Derived.Test.YtjjghmkjdgogiaaDdN
import Derived.Test.YtjjghmkjdgogiaaDdW
namespace Go.Proofs.Ytjjghmkjdgogiaa
open Go Go.SL Go.Dd Go.RowKit
set_option linter.unusedVariables false
/-- Does a term follow at once from these? -/
def stepB (ts : List TermR) (l : List Int) (d : List Nat) (n : Nat) : Bool :=
  (l.any fun x => x.toNat == n) ||
  (match atN ts n with
    | none => false
    | some t => t.kind == 2 || (t.kind != 1 && t.kind != 2 && (t.a.toNat == 0 || d.contains t.a.toNat) && (t.b.toNat == 0 || d.contains t.b.toNat))) ||
  d.any fun m => match atN ts m with
    | none => false
    | some t => (t.kind == 3 && (t.a.toNat == n || t.b.toNat == n)) || (t.kind == 6 && t.b.toNat == n && d.contains (byN ts t.a.toNat))
def chkB (ts : List TermR) (l : List Int) : List Nat → List Nat → Bool
  | _, [] => true
  | d, n :: c => stepB ts l d n && chkB ts l (n :: d) c
theorem step_ok {ts : List TermR} {l : List Int} {d : List Nat} {n : Nat} (hd : ∀ m ∈ d, Der ts (KL l) m) (h : stepB ts l d n = true) : Der ts (KL l) n := by
  unfold stepB at h
  rw [Bool.or_eq_true, Bool.or_eq_true] at h
  rcases h with (h | h) | h
  · rw [List.any_eq_true] at h
    obtain ⟨x, hx, e⟩ := h
    exact .known ⟨x, hx, beq_iff_eq.1 e⟩
  · cases ht : atN ts n with
    | none => rw [ht] at h; cases h
    | some t =>
      rw [ht] at h
      rw [Bool.or_eq_true] at h
      rcases h with h | h
      · exact .data ht (beq_iff_eq.1 h)
      · simp only [Bool.and_eq_true, Bool.or_eq_true, bne_iff_ne, beq_iff_eq, List.contains_iff_mem] at h
        obtain ⟨⟨⟨h1, h2⟩, ha⟩, hb⟩ := h
        exact .made ht h1 h2 (by rcases ha with ha | ha; exact ha ▸ .zero; exact hd _ ha) (by rcases hb with hb | hb; exact hb ▸ .zero; exact hd _ hb)
  · rw [List.any_eq_true] at h
    obtain ⟨m, hm, h⟩ := h
    cases ht : atN ts m with
    | none => rw [ht] at h; cases h
    | some t =>
      rw [ht] at h
      simp only [Bool.and_eq_true, Bool.or_eq_true, beq_iff_eq, List.contains_iff_mem] at h
      rcases h with ⟨h1, h2⟩ | ⟨⟨h1, h2⟩, h3⟩
      · rcases h2 with h2 | h2
        · exact h2 ▸ .fst ht h1 (hd _ hm)
        · exact h2 ▸ .snd ht h1 (hd _ hm)
      · exact h2 ▸ .opn ht h1 (hd _ hm) (hd _ h3)
theorem chk_ok {ts : List TermR} {l : List Int} : ∀ {c d : List Nat}, (∀ m ∈ d, Der ts (KL l) m) → chkB ts l d c = true → ∀ n ∈ c, Der ts (KL l) n
  | [], _, _, _, n, hn => by cases hn
  | m :: c, d, hd, h, n, hn => by
    unfold chkB at h
    rw [Bool.and_eq_true] at h
    have h1 := step_ok hd h.1
    rcases List.mem_cons.1 hn with rfl | hn
    · exact h1
    · exact chk_ok (d := m :: d) (fun k hk => by rcases List.mem_cons.1 hk with rfl | hk; exact h1; exact hd _ hk) h.2 n hn
theorem der_yes {ts : List TermR} {l : List Int} {x : Int} (c : List Nat) (h : (decide (1 ≤ x) && decide (x ≤ (ts.length : Int)) && chkB ts l [] c && c.contains x.toNat) = true) : derB ts (KL l) x = true := by
  simp only [Bool.and_eq_true, decide_eq_true_eq, List.contains_iff_mem] at h
  exact derB_iff.2 ⟨h.1.1.1, h.1.1.2, chk_ok (fun _ hm => by cases hm) h.1.2 _ h.2⟩
theorem der_no {ts : List TermR} {l : List Int} {x : Int} (S : List Nat) (h : (closedB ts (fun n => S.contains n) && (l.all fun z => S.contains z.toNat) && !S.contains x.toNat) = true) : derB ts (KL l) x = false := by
  simp only [Bool.and_eq_true, Bool.not_eq_true'] at h
  refine Bool.eq_false_iff.2 fun hd => ?_
  have h5 := (derB_iff.1 hd).2.2
  have := h5.least (closed_of h.1.1) (fun n ⟨z, hz, e⟩ => e ▸ (List.all_eq_true.1 h.1.2 z hz))
  rw [h.2] at this
  cases this
end Go.Proofs.Ytjjghmkjdgogiaa
