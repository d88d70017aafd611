/- What follows: contracts of the calls. -/
import Derived.Test.YtjjghmkjdgogiaaDdI
namespace Go.Proofs.Ytjjghmkjdgogiaa
open Go Go.SL Go.Dd Go.RowKit
set_option linter.unusedVariables false
set_option maxRecDepth 8000

theorem build_all {l : List TermR} (h : ∀ x ∈ l, okT x) : Wf (build [] l) := by have := build_wf h l.length; rwa [List.take_length] at this
theorem build_all_le (l : List TermR) : (build [] l).length ≤ l.length := by have := build_le (l := l) l.length; rwa [List.take_length] at this
/-- Is a set closed? -/
def closedB (ts : List TermR) (S : Nat → Bool) : Bool := S 0 && (List.range (ts.length + 1)).all fun n => match atN ts n with
  | none => true
  | some t => (t.kind != 2 || S n) && (t.kind == 1 || t.kind == 2 || !S t.a.toNat || !S t.b.toNat || S n) && (t.kind != 3 || !S n || (S t.a.toNat && S t.b.toNat)) && (t.kind != 6 || !S n || !S (byN ts t.a.toNat) || S t.b.toNat)
theorem closed_of {ts : List TermR} {S : Nat → Bool} (h : closedB ts S = true) : Closed ts (fun n => S n = true) := by
  unfold closedB at h
  rw [Bool.and_eq_true, List.all_eq_true] at h
  obtain ⟨h0, h⟩ := h
  have key : ∀ n t, atN ts n = some t → ((t.kind != 2 || S n) && (t.kind == 1 || t.kind == 2 || !S t.a.toNat || !S t.b.toNat || S n) && (t.kind != 3 || !S n || (S t.a.toNat && S t.b.toNat)) && (t.kind != 6 || !S n || !S (byN ts t.a.toNat) || S t.b.toNat)) = true := fun n t ht => by
    have hn : n ∈ List.range (ts.length + 1) := by
      rw [List.mem_range]
      unfold atN at ht
      split at ht
      · cases ht
      · have := (List.getElem?_eq_some_iff.1 ht).1; omega
    have := h n hn
    rw [ht] at this; exact this
  refine ⟨h0, fun n t ht hk => ?_, fun n t ht h1 h2 ha hb => ?_, fun n t ht hk hn => ?_, fun n t ht hk hn => ?_, fun n t ht hk hn hb => ?_⟩ <;> have := key n t ht <;> simp_all
theorem all_or_bad (l : List Int) (m : Int) : (∀ x ∈ l, 1 ≤ x ∧ x ≤ m) ∨ ∃ x ∈ l, ¬ (1 ≤ x ∧ x ≤ m) := by
  by_cases h : ∃ x ∈ l, ¬ (1 ≤ x ∧ x ≤ m)
  · exact .inr h
  · exact .inl fun x hx => Classical.byContradiction fun hn => h ⟨x, hx, hn⟩

theorem khas_is (W0 : World) (k s : Nat) (ts : List TermR) (K : Nat → Prop) (x : Int) (hl : ts.length ≤ 1048576) {b : Bool} (h : derB ts K x = b) : Con Try.prog W0 16 #[Value.pointer (some ⟨k, 0, none⟩), Value.int .i64 x] [knowK k s ts K, storeI s ts] (X := Unit) (fun _ => True) (fun _ => .bool b) (fun _ => [knowK k s ts K, storeI s ts]) := h ▸ khas_c W0 k s ts K x hl

end Go.Proofs.Ytjjghmkjdgogiaa
