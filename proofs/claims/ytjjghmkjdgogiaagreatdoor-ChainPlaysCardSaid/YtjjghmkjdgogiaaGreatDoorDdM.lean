/- Terms, a store of terms, and what follows from known terms, in plain data. -/
import Derived.Test.YtjjghmkjdgogiaaGreatDoorSLR
namespace Go.Dd
open Go Go.SL

structure TermR where
 kind : Nat
 n : Int
 a : Int
 b : Int
deriving DecidableEq

def termCells (t : TermR) : List Value := [.int .u8 ((t.kind : Nat) : Int), .int .i64 t.n, .int .i64 t.a, .int .i64 t.b]
def termV (t : TermR) : Value := .agg (termCells t).toArray
def intV (x : Int) : Value := .int .i64 x
def natV (x : Nat) : Value := .int .i64 ((x : Nat) : Int)
theorem termV_inj {t u : TermR} (h : termV t = termV u) : t = u := by
 obtain ⟨k, n, a, b⟩ := t
 obtain ⟨k', n', a', b'⟩ := u
 simp only [termV, termCells, Value.agg.injEq, Array.mk.injEq, List.cons.injEq, Value.int.injEq, and_true, true_and] at h
 obtain ⟨h1, h2, h3, h4⟩ := h
 rw [TermR.mk.injEq]
 exact ⟨by omega, h2, h3, h4⟩

/-- May a term be, as for its parts? -/
def MayP (m : Nat) (t : TermR) : Prop :=
 (t.kind = 1 ∧ t.n ≥ 0 ∧ t.a = 0 ∧ t.b = 0) ∨ (t.kind = 2 ∧ t.a = 0 ∧ t.b = 0) ∨
 ((t.kind = 3 ∨ t.kind = 6) ∧ t.n = 0 ∧ (1 ≤ t.a ∧ t.a ≤ (m : Int)) ∧ (1 ≤ t.b ∧ t.b ≤ (m : Int))) ∨
 (t.kind = 4 ∧ t.n ≥ 0 ∧ (1 ≤ t.a ∧ t.a ≤ (m : Int)) ∧ ((1 ≤ t.b ∧ t.b ≤ (m : Int)) ∨ t.b = 0)) ∨
 ((t.kind = 5 ∨ t.kind = 7) ∧ t.n = 0 ∧ (1 ≤ t.a ∧ t.a ≤ (m : Int)) ∧ t.b = 0)
instance (m : Nat) (t : TermR) : Decidable (MayP m t) := by unfold MayP; infer_instance
def may (m : Nat) (t : TermR) : Bool := decide (MayP m t)
/-- A term is made: the terms then, its number, the error. -/
def mk (ts : List TermR) (t : TermR) : List TermR × Nat × Int :=
 if may ts.length t = false then (ts, 0, 1)
 else if t ∈ ts then (ts, ts.idxOf t + 1, 0)
 else if 1048576 ≤ ts.length then (ts, 0, 3)
 else (ts ++ [t], ts.length + 1, 0)
def build (ts : List TermR) : List TermR → List TermR
 | [] => ts
 | t :: l => build (mk ts t).1 l
theorem build_snoc : ∀ (l : List TermR) (ts : List TermR) (t : TermR), build ts (l ++ [t]) = (mk (build ts l) t).1
 | [], _, _ => rfl
 | x :: l, ts, t => build_snoc l (mk ts x).1 t
theorem mk_len (ts : List TermR) (t : TermR) : ts.length ≤ (mk ts t).1.length ∧ (mk ts t).1.length ≤ ts.length + 1 := by
 unfold mk; split
 · simp
 split
 · simp
 split
 · simp
 · simp
theorem build_len : ∀ (l : List TermR) (ts : List TermR), ts.length ≤ (build ts l).length ∧ (build ts l).length ≤ ts.length + l.length
 | [], ts => by simp [build]
 | x :: l, ts => by
  have h1 := build_len l (mk ts x).1
  have h2 := mk_len ts x
  simp only [build, List.length_cons]; omega

/-- What is so of all terms of a store: each once, its parts' numbers are smaller. -/
def Wf (ts : List TermR) : Prop := ts.Nodup ∧ ∀ i t, ts[i]? = some t → may i t = true ∧ t.kind < 256 ∧ -9223372036854775808 ≤ t.n ∧ t.n ≤ 9223372036854775807
theorem Wf.nil : Wf [] := ⟨List.nodup_nil, fun i t h => by simp at h⟩
theorem Wf.mk {ts : List TermR} {t : TermR} (h : Wf ts) (hk : t.kind < 256) (hn : -9223372036854775808 ≤ t.n ∧ t.n ≤ 9223372036854775807) : Wf (mk ts t).1 := by
  unfold Dd.mk; split
  · exact h
  rename_i hm
  split
  · exact h
  rename_i hni
  split
  · exact h
  · refine ⟨List.nodup_append.2 ⟨h.1, by simp, fun x hx y hy => ?_⟩, fun i u hu => ?_⟩
    · rw [List.mem_singleton] at hy; subst hy; exact fun e => hni (e ▸ hx)
    · rw [List.getElem?_append] at hu
      split at hu
      · exact h.2 i u hu
      · rename_i hge
        have hi : i = ts.length := by
          have := (List.getElem?_eq_some_iff.1 hu).1
          simp at this; omega
        subst hi
        simp at hu; subst hu
        exact ⟨by simpa using hm, hk, hn⟩
theorem Wf.build {l : List TermR} (hl : ∀ t ∈ l, t.kind < 256 ∧ -9223372036854775808 ≤ t.n ∧ t.n ≤ 9223372036854775807) : ∀ {ts : List TermR}, Wf ts → Wf (build ts l) := by
 induction l with
 | nil => exact fun h => h
 | cons x l ih =>
  intro ts h
  have := hl x List.mem_cons_self
  exact ih (fun t ht => hl t (List.mem_cons_of_mem _ ht)) (h.mk this.1 this.2)

/-! ### What follows -/
/-- The term of a number. -/
def atN (ts : List TermR) (n : Nat) : Option TermR := if n = 0 then none else ts[n - 1]?
/-- Who opens a seal: the key, or the secret of the public key that it is. -/
def byN (ts : List TermR) (a : Nat) : Nat := match atN ts a with
 | some k => if k.kind = 5 then k.a.toNat else a
 | none => a
inductive Der (ts : List TermR) (K : Nat → Prop) : Nat → Prop
 | zero : Der ts K 0
 | known {n : Nat} : K n → Der ts K n
 | data {n : Nat} {t : TermR} : atN ts n = some t → t.kind = 2 → Der ts K n
 | made {n : Nat} {t : TermR} : atN ts n = some t → t.kind ≠ 1 → t.kind ≠ 2 → Der ts K t.a.toNat → Der ts K t.b.toNat → Der ts K n
 | fst {n : Nat} {t : TermR} : atN ts n = some t → t.kind = 3 → Der ts K n → Der ts K t.a.toNat
 | snd {n : Nat} {t : TermR} : atN ts n = some t → t.kind = 3 → Der ts K n → Der ts K t.b.toNat
 | opn {n : Nat} {t : TermR} : atN ts n = some t → t.kind = 6 → Der ts K n → Der ts K (byN ts t.a.toNat) → Der ts K t.b.toNat
/-- A set that is closed. -/
structure Closed (ts : List TermR) (S : Nat → Prop) : Prop where
 zero : S 0
 data : ∀ n t, atN ts n = some t → t.kind = 2 → S n
 made : ∀ n t, atN ts n = some t → t.kind ≠ 1 → t.kind ≠ 2 → S t.a.toNat → S t.b.toNat → S n
 fst : ∀ n t, atN ts n = some t → t.kind = 3 → S n → S t.a.toNat
 snd : ∀ n t, atN ts n = some t → t.kind = 3 → S n → S t.b.toNat
 opn : ∀ n t, atN ts n = some t → t.kind = 6 → S n → S (byN ts t.a.toNat) → S t.b.toNat
theorem Der.least {ts : List TermR} {K S : Nat → Prop} (hc : Closed ts S) (hk : ∀ n, K n → S n) {n : Nat} (h : Der ts K n) : S n := by
 induction h with
 | zero => exact hc.zero
 | known h => exact hk _ h
 | data h1 h2 => exact hc.data _ _ h1 h2
 | made h1 h2 h3 _ _ i1 i2 => exact hc.made _ _ h1 h2 h3 i1 i2
 | fst h1 h2 _ i => exact hc.fst _ _ h1 h2 i
 | snd h1 h2 _ i => exact hc.snd _ _ h1 h2 i
 | opn h1 h2 _ _ i1 i2 => exact hc.opn _ _ h1 h2 i1 i2
theorem Der.closed (ts : List TermR) (K : Nat → Prop) : Closed ts (Der ts K) := ⟨.zero, fun _ _ => .data, fun _ _ => .made, fun _ _ => .fst, fun _ _ => .snd, fun _ _ => .opn⟩
theorem Der.mono {ts : List TermR} {K K' : Nat → Prop} (h : ∀ n, K n → Der ts K' n) {n : Nat} (hd : Der ts K n) : Der ts K' n := hd.least (Der.closed ts K') h

/-- The parts of a term in range. -/
theorem Wf.parts {ts : List TermR} (h : Wf ts) {n : Nat} {t : TermR} (hn : atN ts n = some t) : 1 ≤ n ∧ n ≤ ts.length ∧ 0 ≤ t.a ∧ t.a < n ∧ 0 ≤ t.b ∧ t.b < n ∧ (t.kind = 3 ∨ t.kind = 6 → 1 ≤ t.a ∧ 1 ≤ t.b) ∧ (t.kind = 5 → 1 ≤ t.a) ∧ 1 ≤ t.kind ∧ t.kind ≤ 7 := by
 unfold atN at hn
 split at hn
 · cases hn
 rename_i h0
 have hl := (List.getElem?_eq_some_iff.1 hn).1
 have hm := (h.2 _ _ hn).1
 unfold may at hm
 rw [decide_eq_true_eq] at hm
 unfold MayP at hm
 omega
end Go.Dd
