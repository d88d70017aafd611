/- What follows: the laws of package 04, in plain data. -/
import Derived.Test.YtmghnmfhniohkaaDdN
namespace Go.Proofs.Ytmghnmfhniohkaa
open Go Go.SL Go.Dd Go.RowKit
set_option linter.unusedVariables false

theorem ok4 {k : Nat} {n a b : Int} (hk : k < 256) (h1 : -9223372036854775808 ≤ n) (h2 : n ≤ 9223372036854775807) (h3 : -9223372036854775808 ≤ a) (h4 : a ≤ 9223372036854775807) (h5 : -9223372036854775808 ≤ b) (h6 : b ≤ 9223372036854775807) : okT ⟨k, n, a, b⟩ := ⟨hk, ⟨h1, h2⟩, ⟨h3, h4⟩, ⟨h5, h6⟩⟩
theorem derB_mono {ts : List TermR} {K K' : Nat → Prop} {x : Int} (h : ∀ n, K n → Der ts K' n) (hd : derB ts K x = true) : derB ts K' x = true := by
  obtain ⟨h1, h2, h3⟩ := derB_iff.1 hd
  exact derB_iff.2 ⟨h1, h2, h3.mono h⟩
theorem bool_eq {a b : Bool} (h : a = true ↔ b = true) : a = b := by
  cases a <;> cases b <;> simp_all
theorem derB_known {ts : List TermR} {l : List Int} {x : Int} (hx : x ∈ l) (h : 1 ≤ x ∧ x ≤ (ts.length : Int)) : derB ts (KL l) x = true := derB_iff.2 ⟨h.1, h.2, .known ⟨x, hx, rfl⟩⟩
/-- Of the numbers from 1 on those that follow. -/
def now (D : Int → Bool) : Nat → List Int
  | 0 => []
  | j + 1 => if D ((j + 1 : Nat) : Int) = true then now D j ++ [((j + 1 : Nat) : Int)] else now D j
theorem now_mem {D : Int → Bool} : ∀ {j : Nat} {x : Int}, x ∈ now D j ↔ (1 ≤ x ∧ x ≤ (j : Int) ∧ D x = true)
  | 0, x => by simp [now]; omega
  | j + 1, x => by
    unfold now
    by_cases h : D ((j + 1 : Nat) : Int) = true
    · rw [if_pos h, List.mem_append, List.mem_singleton, now_mem]
      constructor
      · rintro (⟨h1, h2, h3⟩ | rfl)
        · exact ⟨h1, by omega, h3⟩
        · exact ⟨by omega, by omega, h⟩
      · rintro ⟨h1, h2, h3⟩
        by_cases e : x = ((j + 1 : Nat) : Int)
        · exact .inr e
        · exact .inl ⟨h1, by omega, h3⟩
    · rw [if_neg h, now_mem]
      constructor
      · rintro ⟨h1, h2, h3⟩; exact ⟨h1, by omega, h3⟩
      · rintro ⟨h1, h2, h3⟩
        by_cases e : x = ((j + 1 : Nat) : Int)
        · subst e; exact absurd h3 h
        · exact ⟨h1, by omega, h3⟩
theorem now_len (D : Int → Bool) : ∀ j : Nat, (now D j).length ≤ j
  | 0 => by simp [now]
  | j + 1 => by
    have := now_len D j
    unfold now; split
    · simp; omega
    · omega
theorem now_y {D : Int → Bool} {j : Nat} (h : D ((j + 1 : Nat) : Int) = true) : now D (j + 1) = now D j ++ [((j + 1 : Nat) : Int)] := if_pos h
theorem now_n {D : Int → Bool} {j : Nat} (h : ¬ D ((j + 1 : Nat) : Int) = true) : now D (j + 1) = now D j := if_neg h
/-- What follows of all that follows, follows. -/
theorem now_same {ts : List TermR} {K : Nat → Prop} (x : Int) : derB ts (KL (now (derB ts K) ts.length)) x = derB ts K x := by
  refine bool_eq ⟨fun h => derB_mono (fun n hn => ?_) h, fun h => ?_⟩
  · obtain ⟨y, hy, rfl⟩ := hn
    exact (derB_iff.1 (now_mem.1 hy).2.2).2.2
  · obtain ⟨h1, h2, h3⟩ := derB_iff.1 h
    exact derB_iff.2 ⟨h1, h2, .known ⟨x, now_mem.2 ⟨h1, h2, h⟩, rfl⟩⟩
theorem learn_had {ts : List TermR} {K : Nat → Prop} {m : Int} (h : derB ts K m = true) (x : Int) : derB ts (fun n => K n ∨ n = m.toNat) x = derB ts K x := by
  refine bool_eq ⟨fun h' => derB_mono (fun n hn => ?_) h', fun h' => derB_mono (fun n hn => .known (.inl hn)) h'⟩
  rcases hn with hn | rfl
  · exact .known hn
  · exact (derB_iff.1 h).2.2
theorem learn_more {ts : List TermR} {K : Nat → Prop} {m : Int} {x : Int} (h : derB ts K x = true) : derB ts (fun n => K n ∨ n = m.toNat) x = true := derB_mono (fun n hn => .known (.inl hn)) h

/-! ### A list of terms -/
theorem mk_at {ts : List TermR} {t : TermR} (hm : may ts.length t = true) (hl : ts.length < 1048576) : (mk ts t).2.2 = 0 ∧ atN (mk ts t).1 (mk ts t).2.1 = some t ∧ (∃ xs, (mk ts t).1 = ts ++ xs) ∧ 1 ≤ (mk ts t).2.1 ∧ (mk ts t).2.1 ≤ (mk ts t).1.length := by
  unfold mk
  rw [if_neg (by simp [hm])]
  split
  · rename_i h
    have hi := List.idxOf_lt_length_of_mem h
    refine ⟨rfl, ?_, ⟨[], by simp⟩, by simp only; omega, by simp only; omega⟩
    simp only [atN]
    rw [if_neg (by omega), Nat.add_sub_cancel, List.getElem?_eq_getElem hi, List.getElem_idxOf]
  · rw [if_neg (by omega)]
    refine ⟨rfl, ?_, ⟨[t], rfl⟩, by simp only; omega, by simp⟩
    simp only [atN]
    rw [if_neg (by omega), Nat.add_sub_cancel]
    simp
/-- Pairs, one in the other, from the end on: the terms then, the number. -/
def lsF : List TermR × Nat → List Int → List TermR × Nat
  | z, [] => z
  | z, x :: l => lsF ((mk z.1 ⟨3, 0, x, (z.2 : Int)⟩).1, (mk z.1 ⟨3, 0, x, (z.2 : Int)⟩).2.1) l
theorem lsF_snoc : ∀ (l : List Int) (z : List TermR × Nat) (x : Int), lsF z (l ++ [x]) = ((mk (lsF z l).1 ⟨3, 0, x, ((lsF z l).2 : Int)⟩).1, (mk (lsF z l).1 ⟨3, 0, x, ((lsF z l).2 : Int)⟩).2.1)
  | [], _, _ => rfl
  | y :: l, z, x => lsF_snoc l _ x
/-- What is so of what has come together. -/
structure LsI (ts : List TermR) (z : List TermR × Nat) (l : List Int) (k : Nat) : Prop where
  wf : Wf z.1
  ext : ∃ xs, z.1 = ts ++ xs
  pos : 1 ≤ z.2
  le : z.2 ≤ z.1.length
  len : z.1.length ≤ ts.length + k
  all : ∀ xs K, Wf (z.1 ++ xs) → (Der (z.1 ++ xs) K z.2 ↔ ∀ x ∈ l, Der (z.1 ++ xs) K x.toNat)
theorem LsI.start {ts : List TermR} (hw : Wf ts) {x : Int} (h : 1 ≤ x ∧ x ≤ (ts.length : Int)) : LsI ts (ts, x.toNat) [x] 0 :=
  ⟨hw, ⟨[], by simp⟩, by simp only; omega, by simp only; omega, Nat.le_refl _, fun _ _ _ => by simp⟩
theorem LsI.step {ts : List TermR} {z : List TermR × Nat} {l : List Int} {k : Nat} (I : LsI ts z l k) {x : Int} (h : 1 ≤ x ∧ x ≤ (ts.length : Int)) (hk : ts.length + k < 1048576) :
    (Dd.mk z.1 ⟨3, 0, x, (z.2 : Int)⟩).2.2 = 0 ∧ LsI ts ((Dd.mk z.1 ⟨3, 0, x, (z.2 : Int)⟩).1, (Dd.mk z.1 ⟨3, 0, x, (z.2 : Int)⟩).2.1) (x :: l) (k + 1) := by
  obtain ⟨xs, hx⟩ := I.ext
  have hzl : ts.length ≤ z.1.length := by rw [hx, List.length_append]; omega
  have hm : may z.1.length ⟨3, 0, x, (z.2 : Int)⟩ = true := by
    have h1 := I.pos
    have h2 := I.le
    exact decide_eq_true (.inr (.inr (.inl ⟨.inl rfl, rfl, ⟨h.1, Int.le_trans h.2 (by omega)⟩, by show (1 : Int) ≤ (z.2 : Int); omega, by show (z.2 : Int) ≤ _; omega⟩)))
  have hL := I.len
  obtain ⟨e1, e2, ⟨ys, e3⟩, e4, e5⟩ := mk_at hm (by omega)
  have hw := I.wf.mk (t := ⟨3, 0, x, (z.2 : Int)⟩) (by simp) (by simp)
  refine ⟨e1, hw, ⟨xs ++ ys, by rw [← List.append_assoc, ← hx]; exact e3⟩, e4, e5, ?_, fun zs K hwz => ?_⟩
  · have := (mk_len z.1 ⟨3, 0, x, (z.2 : Int)⟩).2; simp only; omega
  · have ha : atN ((Dd.mk z.1 ⟨3, 0, x, (z.2 : Int)⟩).1 ++ zs) (Dd.mk z.1 ⟨3, 0, x, (z.2 : Int)⟩).2.1 = some ⟨3, 0, x, (z.2 : Int)⟩ := atN_pre e2
    have hall := I.all (ys ++ zs) K (by rw [← List.append_assoc, ← e3]; exact hwz)
    rw [← List.append_assoc, ← e3] at hall
    simp only [List.mem_cons, forall_eq_or_imp]
    rw [← hall]
    constructor
    · intro hd
      exact ⟨.fst ha rfl hd, .snd ha rfl hd⟩
    · rintro ⟨h1, h2⟩
      exact .made ha (by simp) (by simp) h1 (by simpa using h2)
theorem list_all {ts : List TermR} {z : List TermR × Nat} {l : List Int} {k : Nat} (I : LsI ts z l k) (K : Nat → Prop) (hl : ∀ x ∈ l, 1 ≤ x ∧ x ≤ (ts.length : Int)) : derB z.1 K (z.2 : Int) = l.all (fun x => derB z.1 K x) := by
  obtain ⟨xs, hx⟩ := I.ext
  have hzl : ts.length ≤ z.1.length := by rw [hx, List.length_append]; omega
  have hall := I.all [] K (by rw [List.append_nil]; exact I.wf)
  rw [List.append_nil] at hall
  refine bool_eq ?_
  rw [derB_iff, List.all_eq_true]
  constructor
  · rintro ⟨_, _, h⟩ x hx
    have := hl x hx
    exact derB_iff.2 ⟨this.1, by omega, hall.1 (by simpa using h) x hx⟩
  · intro h
    have h1 := I.pos
    have h2 := I.le
    exact ⟨by omega, by omega, by simpa using hall.2 fun x hx => (derB_iff.1 (h x hx)).2.2⟩
theorem all_snoc {l : List Int} {i : Nat} {o : Int} {D : Int → Bool} (h : l[i]? = some o) : (l.take (i + 1)).all D = ((l.take i).all D && D o) := by
  obtain ⟨hl, he⟩ := List.getElem?_eq_some_iff.1 h
  rw [List.take_succ_eq_append_getElem hl, he, List.all_append]
  simp
end Go.Proofs.Ytmghnmfhniohkaa
