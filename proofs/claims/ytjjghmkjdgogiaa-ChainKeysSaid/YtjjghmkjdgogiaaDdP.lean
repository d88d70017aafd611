/- What follows: the laws of package 04, in plain data. -/
import Derived.Test.YtjjghmkjdgogiaaDdN
namespace Go.Proofs.Ytjjghmkjdgogiaa
open Go Go.SL Go.Dd Go.RowKit
set_option linter.unusedVariables false

theorem ok4 {k : Nat} {n a b : Int} (hk : k < 256) (h1 : -9223372036854775808 ≤ n) (h2 : n ≤ 9223372036854775807) (h3 : -9223372036854775808 ≤ a) (h4 : a ≤ 9223372036854775807) (h5 : -9223372036854775808 ≤ b) (h6 : b ≤ 9223372036854775807) : okT ⟨k, n, a, b⟩ := ⟨hk, ⟨h1, h2⟩, ⟨h3, h4⟩, ⟨h5, h6⟩⟩
theorem derB_mono {ts : List TermR} {K K' : Nat → Prop} {x : Int} (h : ∀ n, K n → Der ts K' n) (hd : derB ts K x = true) : derB ts K' x = true := by
  obtain ⟨h1, h2, h3⟩ := derB_iff.1 hd
  exact derB_iff.2 ⟨h1, h2, h3.mono h⟩
theorem bool_eq {a b : Bool} (h : a = true ↔ b = true) : a = b := by
  cases a <;> cases b <;> simp_all
theorem derB_known {ts : List TermR} {l : List Int} {x : Int} (hx : x ∈ l) (h : 1 ≤ x ∧ x ≤ (ts.length : Int)) : derB ts (KL l) x = true := derB_iff.2 ⟨h.1, h.2, .known ⟨x, hx, rfl⟩⟩
/-- Of the numbers from 1 on those that follow. -/
def now (D : Int → Bool) : Nat → List Int
  | 0 => []
  | j + 1 => if D ((j + 1 : Nat) : Int) = true then now D j ++ [((j + 1 : Nat) : Int)] else now D j
theorem now_mem {D : Int → Bool} : ∀ {j : Nat} {x : Int}, x ∈ now D j ↔ (1 ≤ x ∧ x ≤ (j : Int) ∧ D x = true)
  | 0, x => by simp [now]; omega
  | j + 1, x => by
    unfold now
    by_cases h : D ((j + 1 : Nat) : Int) = true
    · rw [if_pos h, List.mem_append, List.mem_singleton, now_mem]
      constructor
      · rintro (⟨h1, h2, h3⟩ | rfl)
        · exact ⟨h1, by omega, h3⟩
        · exact ⟨by omega, by omega, h⟩
      · rintro ⟨h1, h2, h3⟩
        by_cases e : x = ((j + 1 : Nat) : Int)
        · exact .inr e
        · exact .inl ⟨h1, by omega, h3⟩
    · rw [if_neg h, now_mem]
      constructor
      · rintro ⟨h1, h2, h3⟩; exact ⟨h1, by omega, h3⟩
      · rintro ⟨h1, h2, h3⟩
        by_cases e : x = ((j + 1 : Nat) : Int)
        · subst e; exact absurd h3 h
        · exact ⟨h1, by omega, h3⟩
theorem now_len (D : Int → Bool) : ∀ j : Nat, (now D j).length ≤ j
  | 0 => by simp [now]
  | j + 1 => by
    have := now_len D j
    unfold now; split
    · simp; omega
    · omega
theorem now_y {D : Int → Bool} {j : Nat} (h : D ((j + 1 : Nat) : Int) = true) : now D (j + 1) = now D j ++ [((j + 1 : Nat) : Int)] := if_pos h
theorem now_n {D : Int → Bool} {j : Nat} (h : ¬ D ((j + 1 : Nat) : Int) = true) : now D (j + 1) = now D j := if_neg h
/-- What follows of all that follows, follows. -/
theorem now_same {ts : List TermR} {K : Nat → Prop} (x : Int) : derB ts (KL (now (derB ts K) ts.length)) x = derB ts K x := by
  refine bool_eq ⟨fun h => derB_mono (fun n hn => ?_) h, fun h => ?_⟩
  · obtain ⟨y, hy, rfl⟩ := hn
    exact (derB_iff.1 (now_mem.1 hy).2.2).2.2
  · obtain ⟨h1, h2, h3⟩ := derB_iff.1 h
    exact derB_iff.2 ⟨h1, h2, .known ⟨x, now_mem.2 ⟨h1, h2, h⟩, rfl⟩⟩
theorem learn_had {ts : List TermR} {K : Nat → Prop} {m : Int} (h : derB ts K m = true) (x : Int) : derB ts (fun n => K n ∨ n = m.toNat) x = derB ts K x := by
  refine bool_eq ⟨fun h' => derB_mono (fun n hn => ?_) h', fun h' => derB_mono (fun n hn => .known (.inl hn)) h'⟩
  rcases hn with hn | rfl
  · exact .known hn
  · exact (derB_iff.1 h).2.2
theorem learn_more {ts : List TermR} {K : Nat → Prop} {m : Int} {x : Int} (h : derB ts K x = true) : derB ts (fun n => K n ∨ n = m.toNat) x = true := derB_mono (fun n hn => .known (.inl hn)) h

/-! ### A list of terms -/
theorem mk_at {ts : List TermR} {t : TermR} (hm : may ts.length t = true) (hl : ts.length < 1048576) : (mk ts t).2.2 = 0 ∧ atN (mk ts t).1 (mk ts t).2.1 = some t ∧ (∃ xs, (mk ts t).1 = ts ++ xs) ∧ 1 ≤ (mk ts t).2.1 ∧ (mk ts t).2.1 ≤ (mk ts t).1.length := by
  unfold mk
  rw [if_neg (by simp [hm])]
  split
  · rename_i h
    have hi := List.idxOf_lt_length_of_mem h
    refine ⟨rfl, ?_, ⟨[], by simp⟩, by simp only; omega, by simp only; omega⟩
    simp only [atN]
    rw [if_neg (by omega), Nat.add_sub_cancel, List.getElem?_eq_getElem hi, List.getElem_idxOf]
  · rw [if_neg (by omega)]
    refine ⟨rfl, ?_, ⟨[t], rfl⟩, by simp only; omega, by simp⟩
    simp only [atN]
    rw [if_neg (by omega), Nat.add_sub_cancel]
    simp
/-- Pairs, one in the other, from the end on: the terms then, the number. -/
def lsF : List TermR × Nat → List Int → List TermR × Nat
  | z, [] => z
  | z, x :: l => lsF ((mk z.1 ⟨3, 0, x, (z.2 : Int)⟩).1, (mk z.1 ⟨3, 0, x, (z.2 : Int)⟩).2.1) l
theorem lsF_snoc : ∀ (l : List Int) (z : List TermR × Nat) (x : Int), lsF z (l ++ [x]) = ((mk (lsF z l).1 ⟨3, 0, x, ((lsF z l).2 : Int)⟩).1, (mk (lsF z l).1 ⟨3, 0, x, ((lsF z l).2 : Int)⟩).2.1)
  | [], _, _ => rfl
  | y :: l, z, x => lsF_snoc l _ x
/-- What is so of what has come together. -/
structure LsI (ts : List TermR) (z : List TermR × Nat) (l : List Int) (k : Nat) : Prop where
  wf : Wf z.1
  ext : ∃ xs, z.1 = ts ++ xs
  pos : 1 ≤ z.2
  le : z.2 ≤ z.1.length
  len : z.1.length ≤ ts.length + k
  all : ∀ xs K, Wf (z.1 ++ xs) → (Der (z.1 ++ xs) K z.2 ↔ ∀ x ∈ l, Der (z.1 ++ xs) K x.toNat)
theorem LsI.start {ts : List TermR} (hw : Wf ts) {x : Int} (h : 1 ≤ x ∧ x ≤ (ts.length : Int)) : LsI ts (ts, x.toNat) [x] 0 :=
  ⟨hw, ⟨[], by simp⟩, by simp only; omega, by simp only; omega, Nat.le_refl _, fun _ _ _ => by simp⟩
theorem LsI.step {ts : List TermR} {z : List TermR × Nat} {l : List Int} {k : Nat} (I : LsI ts z l k) {x : Int} (h : 1 ≤ x ∧ x ≤ (ts.length : Int)) (hk : ts.length + k < 1048576) :
    (Dd.mk z.1 ⟨3, 0, x, (z.2 : Int)⟩).2.2 = 0 ∧ LsI ts ((Dd.mk z.1 ⟨3, 0, x, (z.2 : Int)⟩).1, (Dd.mk z.1 ⟨3, 0, x, (z.2 : Int)⟩).2.1) (x :: l) (k + 1) := by
  obtain ⟨xs, hx⟩ := I.ext
  have hzl : ts.length ≤ z.1.length := by rw [hx, List.length_append]; omega
  have hm : may z.1.length ⟨3, 0, x, (z.2 : Int)⟩ = true := by
    have h1 := I.pos
    have h2 := I.le
    exact decide_eq_true (.inr (.inr (.inl ⟨.inl rfl, rfl, ⟨h.1, Int.le_trans h.2 (by omega)⟩, by show (1 : Int) ≤ (z.2 : Int); omega, by show (z.2 : Int) ≤ _; omega⟩)))
  have hL := I.len
  obtain ⟨e1, e2, ⟨ys, e3⟩, e4, e5⟩ := mk_at hm (by omega)
  have hw := I.wf.mk (t := ⟨3, 0, x, (z.2 : Int)⟩) (by simp) (by simp)
  refine ⟨e1, hw, ⟨xs ++ ys, by rw [← List.append_assoc, ← hx]; exact e3⟩, e4, e5, ?_, fun zs K hwz => ?_⟩
  · have := (mk_len z.1 ⟨3, 0, x, (z.2 : Int)⟩).2; simp only; omega
  · have ha : atN ((Dd.mk z.1 ⟨3, 0, x, (z.2 : Int)⟩).1 ++ zs) (Dd.mk z.1 ⟨3, 0, x, (z.2 : Int)⟩).2.1 = some ⟨3, 0, x, (z.2 : Int)⟩ := atN_pre e2
    have hall := I.all (ys ++ zs) K (by rw [← List.append_assoc, ← e3]; exact hwz)
    rw [← List.append_assoc, ← e3] at hall
    simp only [List.mem_cons, forall_eq_or_imp]
    rw [← hall]
    constructor
    · intro hd
      exact ⟨.fst ha rfl hd, .snd ha rfl hd⟩
    · rintro ⟨h1, h2⟩
      exact .made ha (by simp) (by simp) h1 (by simpa using h2)
theorem list_all {ts : List TermR} {z : List TermR × Nat} {l : List Int} {k : Nat} (I : LsI ts z l k) (K : Nat → Prop) (hl : ∀ x ∈ l, 1 ≤ x ∧ x ≤ (ts.length : Int)) : derB z.1 K (z.2 : Int) = l.all (fun x => derB z.1 K x) := by
  obtain ⟨xs, hx⟩ := I.ext
  have hzl : ts.length ≤ z.1.length := by rw [hx, List.length_append]; omega
  have hall := I.all [] K (by rw [List.append_nil]; exact I.wf)
  rw [List.append_nil] at hall
  refine bool_eq ?_
  rw [derB_iff, List.all_eq_true]
  constructor
  · rintro ⟨_, _, h⟩ x hx
    have := hl x hx
    exact derB_iff.2 ⟨this.1, by omega, hall.1 (by simpa using h) x hx⟩
  · intro h
    have h1 := I.pos
    have h2 := I.le
    exact ⟨by omega, by omega, by simpa using hall.2 fun x hx => (derB_iff.1 (h x hx)).2.2⟩
theorem all_snoc {l : List Int} {i : Nat} {o : Int} {D : Int → Bool} (h : l[i]? = some o) : (l.take (i + 1)).all D = ((l.take i).all D && D o) := by
  obtain ⟨hl, he⟩ := List.getElem?_eq_some_iff.1 h
  rw [List.take_succ_eq_append_getElem hl, he, List.all_append]
  simp

/-! ### What is sealed with a key that nobody knows -/
def tkT : TermR := ⟨1, 1125899906842624, 0, 0⟩
def sl1 (ts : List TermR) : List TermR := ts ++ [tkT]
def pubT (ts : List TermR) : TermR := ⟨5, 0, ((ts.length + 1 : Nat) : Int), 0⟩
def sl2 (ts : List TermR) : List TermR := sl1 ts ++ [pubT ts]
def seal1 (ts : List TermR) (w : Int) : TermR := ⟨6, 0, ((ts.length + 1 : Nat) : Int), w⟩
def seal2 (ts : List TermR) (w : Int) : TermR := ⟨6, 0, ((ts.length + 2 : Nat) : Int), w⟩
theorem mk_new {ts : List TermR} {t : TermR} (hm : may ts.length t = true) (hn : ¬ t ∈ ts) (hl : ts.length < 1048576) : mk ts t = (ts ++ [t], ts.length + 1, 0) := by
  unfold mk; rw [if_neg (by simp [hm]), if_neg hn, if_neg (by omega)]
theorem notin_at {ts : List TermR} (hw : Wf ts) {t : TermR} (h : (ts.length : Int) < t.a) : ¬ t ∈ ts := fun hm => by
  obtain ⟨i, hi, e⟩ := List.getElem_of_mem hm
  have := hw.parts (n := i + 1) (t := t) (by unfold atN; rw [if_neg (by omega), Nat.add_sub_cancel, List.getElem?_eq_getElem hi, e])
  omega
theorem mk_tk {ts : List TermR} (hl : ts.length < 1048576) (h : ∀ t ∈ ts, ¬ (t.kind = 1 ∧ t.n = 1125899906842624)) : mk ts tkT = (sl1 ts, ts.length + 1, 0) :=
  mk_new (decide_eq_true (.inl ⟨rfl, by decide, rfl, rfl⟩)) (fun hm => h _ hm ⟨rfl, rfl⟩) hl
theorem sl1_len (ts : List TermR) : (sl1 ts).length = ts.length + 1 := by simp [sl1]
theorem sl2_len (ts : List TermR) : (sl2 ts).length = ts.length + 2 := by simp [sl2, sl1]
theorem sl1_wf {ts : List TermR} (hw : Wf ts) (hl : ts.length < 1048576) (h : ∀ t ∈ ts, ¬ (t.kind = 1 ∧ t.n = 1125899906842624)) : Wf (sl1 ts) := by
  have := hw.mk (t := tkT) (by decide) (by decide)
  rwa [mk_tk hl h] at this
theorem mk_pub {ts : List TermR} (hw : Wf (sl1 ts)) (hl : ts.length + 1 < 1048576) : mk (sl1 ts) (pubT ts) = (sl2 ts, ts.length + 2, 0) := by
  have hL := sl1_len ts
  have hn : ¬ pubT ts ∈ sl1 ts := fun hm => by
    rcases List.mem_append.1 hm with hm | hm
    · obtain ⟨i, hi, e⟩ := List.getElem_of_mem hm
      have := hw.parts (n := i + 1) (t := pubT ts) (by unfold atN sl1; rw [if_neg (by omega), Nat.add_sub_cancel, List.getElem?_append_left hi, List.getElem?_eq_getElem hi, e])
      simp only [pubT] at this
      omega
    · rw [List.mem_singleton] at hm
      have := congrArg TermR.kind hm
      simp [pubT, tkT] at this
  rw [mk_new (decide_eq_true (.inr (.inr (.inr (.inr ⟨.inl rfl, rfl, ⟨by show (1 : Int) ≤ ((ts.length + 1 : Nat) : Int); omega, by show ((ts.length + 1 : Nat) : Int) ≤ _; omega⟩, rfl⟩))))) hn (by omega), hL]
  rfl
theorem sl2_wf {ts : List TermR} (hw : Wf (sl1 ts)) (hl : ts.length + 1 < 1048576) : Wf (sl2 ts) := by
  have := hw.mk (t := pubT ts) (by simp [pubT]) (by simp [pubT])
  rwa [mk_pub hw hl] at this
theorem mk_seal1 {ts : List TermR} (hw : Wf (sl1 ts)) (hl : ts.length + 1 < 1048576) {w : Int} (h : 1 ≤ w ∧ w ≤ (ts.length : Int)) : mk (sl1 ts) (seal1 ts w) = (sl1 ts ++ [seal1 ts w], ts.length + 2, 0) := by
  have hL := sl1_len ts
  have hn : ¬ seal1 ts w ∈ sl1 ts := fun hm => by
    obtain ⟨i, hi, e⟩ := List.getElem_of_mem hm
    have := hw.parts (n := i + 1) (t := seal1 ts w) (by unfold atN; rw [if_neg (by omega), Nat.add_sub_cancel, List.getElem?_eq_getElem hi, e])
    simp only [seal1] at this
    omega
  rw [mk_new (decide_eq_true (.inr (.inr (.inl ⟨.inr rfl, rfl, ⟨by show (1 : Int) ≤ ((ts.length + 1 : Nat) : Int); omega, by show ((ts.length + 1 : Nat) : Int) ≤ _; omega⟩, by show (1 : Int) ≤ w; omega, by show w ≤ _; omega⟩)))) hn (by omega), hL]
theorem mk_seal2 {ts : List TermR} (hw : Wf (sl2 ts)) (hl : ts.length + 2 < 1048576) {w : Int} (h : 1 ≤ w ∧ w ≤ (ts.length : Int)) : mk (sl2 ts) (seal2 ts w) = (sl2 ts ++ [seal2 ts w], ts.length + 3, 0) := by
  have hL := sl2_len ts
  have hn : ¬ seal2 ts w ∈ sl2 ts := fun hm => by
    obtain ⟨i, hi, e⟩ := List.getElem_of_mem hm
    have := hw.parts (n := i + 1) (t := seal2 ts w) (by unfold atN; rw [if_neg (by omega), Nat.add_sub_cancel, List.getElem?_eq_getElem hi, e])
    simp only [seal2] at this
    omega
  rw [mk_new (decide_eq_true (.inr (.inr (.inl ⟨.inr rfl, rfl, ⟨by show (1 : Int) ≤ ((ts.length + 2 : Nat) : Int); omega, by show ((ts.length + 2 : Nat) : Int) ≤ _; omega⟩, by show (1 : Int) ≤ w; omega, by show w ≤ _; omega⟩)))) hn (by omega), hL]
theorem at_split {ts ys : List TermR} {x : Nat} {t : TermR} (h : atN (ts ++ ys) x = some t) : (x ≤ ts.length ∧ atN ts x = some t) ∨ (ts.length < x ∧ ys[x - ts.length - 1]? = some t) := by
  unfold atN at h
  split at h
  · cases h
  rename_i h0
  rw [List.getElem?_append] at h
  split at h
  · rename_i hl
    left; refine ⟨by omega, ?_⟩
    unfold atN; rw [if_neg h0]; exact h
  · right; refine ⟨by omega, ?_⟩
    rw [show x - ts.length - 1 = x - 1 - ts.length by omega]; exact h
/-- A seal with a key that nobody knows adds nothing. -/
theorem sealed_same {ts ys : List TermR} {K : Nat → Prop} {sN : Nat} (hw : Wf (ts ++ ys)) (hK : ∀ n, K n → n ≤ ts.length) (hs : ts.length + 1 < sN)
    (hn : ∀ x t, ts.length < x → ys[x - ts.length - 1]? = some t → t.kind ≠ 2 ∧ t.kind ≠ 3 ∧ (x = sN ∨ t.kind = 1 ∨ t.a.toNat = ts.length + 1) ∧ (t.kind = 6 → byN (ts ++ ys) t.a.toNat = ts.length + 1)) {x : Int} (hx : x ≤ (ts.length : Int)) :
    derB (ts ++ ys) K x = derB (ts ++ ys) (fun n => K n ∨ n = sN) x := by
  refine bool_eq ⟨fun h => derB_mono (fun n h => .known (.inl h)) h, fun h => ?_⟩
  obtain ⟨h1, h2, h3⟩ := derB_iff.1 h
  refine derB_iff.2 ⟨h1, h2, ?_⟩
  have key := h3.least (S := fun n => (n ≤ ts.length ∧ Der (ts ++ ys) K n) ∨ n = sN) ⟨.inl ⟨by omega, .zero⟩, fun n t ht hk => ?_, fun n t ht k1 k2 ha hb => ?_, fun n t ht hk hn' => ?_, fun n t ht hk hn' => ?_, fun n t ht hk hn' hb => ?_⟩ (fun n hk => ?_)
  · rcases key with ⟨_, h⟩ | h
    · exact h
    · omega
  · rcases at_split ht with ⟨hl, _⟩ | ⟨hl, h'⟩
    · exact .inl ⟨hl, .data ht hk⟩
    · exact absurd hk (hn n t hl h').1
  · have hp := hw.parts ht
    rcases at_split ht with ⟨hl, _⟩ | ⟨hl, h'⟩
    · left
      refine ⟨hl, .made ht k1 k2 ?_ ?_⟩
      · rcases ha with ⟨_, h⟩ | h
        · exact h
        · omega
      · rcases hb with ⟨_, h⟩ | h
        · exact h
        · omega
    · obtain ⟨_, _, h3, _⟩ := hn n t hl h'
      rcases h3 with h3 | h3 | h3
      · exact .inr h3
      · exact absurd h3 k1
      · rw [h3] at ha
        rcases ha with ⟨h, _⟩ | h
        · omega
        · omega
  · have hp := hw.parts ht
    rcases at_split ht with ⟨hl, _⟩ | ⟨hl, h'⟩
    · rcases hn' with ⟨_, h⟩ | h
      · exact .inl ⟨by omega, .fst ht hk h⟩
      · omega
    · exact absurd hk (hn n t hl h').2.1
  · have hp := hw.parts ht
    rcases at_split ht with ⟨hl, _⟩ | ⟨hl, h'⟩
    · rcases hn' with ⟨_, h⟩ | h
      · exact .inl ⟨by omega, .snd ht hk h⟩
      · omega
    · exact absurd hk (hn n t hl h').2.1
  · have hp := hw.parts ht
    have hbl := byN_lt hw (a := t.a.toNat)
    rcases at_split ht with ⟨hl, _⟩ | ⟨hl, h'⟩
    · rcases hn' with ⟨_, h⟩ | h
      · rcases hb with ⟨_, hb⟩ | hb
        · exact .inl ⟨by omega, .opn ht hk h hb⟩
        · omega
      · omega
    · have := (hn n t hl h').2.2.2 hk
      rw [this] at hb
      rcases hb with ⟨hb, _⟩ | hb
      · omega
      · omega
  · rcases hk with hk | hk
    · have hk' : Der (ts ++ ys) K n := .known hk
      exact .inl ⟨hK n hk, hk'⟩
    · exact .inr hk
theorem kl_snoc {ts : List TermR} {l : List Int} {s x : Int} : derB ts (KL (l ++ [s])) x = derB ts (fun n => KL l n ∨ n = s.toNat) x := by
  have e : KL (l ++ [s]) = fun n => KL l n ∨ n = s.toNat := by
    funext n
    apply propext
    constructor
    · rintro ⟨y, hy, rfl⟩
      rcases List.mem_append.1 hy with hy | hy
      · exact .inl ⟨y, hy, rfl⟩
      · rw [List.mem_singleton] at hy; exact .inr (by rw [hy])
    · rintro (⟨y, hy, rfl⟩ | rfl)
      · exact ⟨y, List.mem_append_left _ hy, rfl⟩
      · exact ⟨s, List.mem_append_right _ (List.mem_singleton.2 rfl), rfl⟩
  rw [e]
theorem kl_le {l : List Int} {m : Nat} (h : ∀ x ∈ l, 1 ≤ x ∧ x ≤ (m : Int)) : ∀ n, KL l n → n ≤ m := fun n ⟨x, hx, e⟩ => by have := h x hx; omega
theorem seal_same1 {ts : List TermR} {w : Int} {l : List Int} (hw : Wf (sl1 ts ++ [seal1 ts w])) (hl : ∀ x ∈ l, 1 ≤ x ∧ x ≤ (ts.length : Int)) {x : Int} (hx : x ≤ (ts.length : Int)) :
    derB (sl1 ts ++ [seal1 ts w]) (KL l) x = derB (sl1 ts ++ [seal1 ts w]) (KL (l ++ [((ts.length + 2 : Nat) : Int)])) x := by
  rw [kl_snoc]
  have e : sl1 ts ++ [seal1 ts w] = ts ++ [tkT, seal1 ts w] := by simp [sl1]
  rw [e] at hw ⊢
  refine sealed_same hw (kl_le hl) (sN := ts.length + 2) (by omega) (fun x t hx ht => ?_) hx
  have hi := (List.getElem?_eq_some_iff.1 ht).1
  simp only [List.length_cons, List.length_nil] at hi
  rcases (show x - ts.length - 1 = 0 ∨ x - ts.length - 1 = 1 by omega) with h | h <;> rw [h] at ht <;> simp at ht <;> subst ht
  · exact ⟨by decide, by decide, .inr (.inl rfl), fun h => by cases h⟩
  · refine ⟨by simp [seal1], by simp [seal1], .inl (by omega), fun _ => ?_⟩
    show byN _ (((ts.length + 1 : Nat) : Int).toNat) = _
    rw [Int.toNat_natCast]
    unfold byN atN
    rw [if_neg (by omega), Nat.add_sub_cancel, List.getElem?_append_right (Nat.le_refl _), Nat.sub_self]
    rfl
theorem seal_same2 {ts : List TermR} {w : Int} {l : List Int} (hw : Wf (sl2 ts ++ [seal2 ts w])) (hl : ∀ x ∈ l, 1 ≤ x ∧ x ≤ (ts.length : Int)) {x : Int} (hx : x ≤ (ts.length : Int)) :
    derB (sl2 ts ++ [seal2 ts w]) (KL l) x = derB (sl2 ts ++ [seal2 ts w]) (KL (l ++ [((ts.length + 3 : Nat) : Int)])) x := by
  rw [kl_snoc]
  have e : sl2 ts ++ [seal2 ts w] = ts ++ [tkT, pubT ts, seal2 ts w] := by simp [sl2, sl1]
  rw [e] at hw ⊢
  refine sealed_same hw (kl_le hl) (sN := ts.length + 3) (by omega) (fun x t hx ht => ?_) hx
  have hi := (List.getElem?_eq_some_iff.1 ht).1
  simp only [List.length_cons, List.length_nil] at hi
  rcases (show x - ts.length - 1 = 0 ∨ x - ts.length - 1 = 1 ∨ x - ts.length - 1 = 2 by omega) with h | h | h <;> rw [h] at ht <;> simp at ht <;> subst ht
  · exact ⟨by decide, by decide, .inr (.inl rfl), fun h => by cases h⟩
  · exact ⟨by simp [pubT], by simp [pubT], .inr (.inr (by simp [pubT])), fun h => by simp [pubT] at h⟩
  · refine ⟨by simp [seal2], by simp [seal2], .inl (by omega), fun _ => ?_⟩
    show byN _ (((ts.length + 2 : Nat) : Int).toNat) = _
    rw [Int.toNat_natCast]
    unfold byN atN
    rw [if_neg (by omega), show ts.length + 2 - 1 = ts.length + 1 by omega, List.getElem?_append_right (by omega), show ts.length + 1 - ts.length = 1 by omega]
    simp [pubT]
theorem take_not {l : List TermR} {Q : TermR → Prop} {j : Nat} {u : TermR} (h : l[j]? = some u) (hall : ∀ t ∈ l.take j, ¬ Q t) (hu : ¬ Q u) : ∀ t ∈ l.take (j + 1), ¬ Q t := fun t ht => by
  obtain ⟨hl, he⟩ := List.getElem?_eq_some_iff.1 h
  rw [List.take_succ_eq_append_getElem hl, List.mem_append, List.mem_singleton, he] at ht
  rcases ht with ht | rfl
  · exact hall t ht
  · exact hu
theorem int_cells (l : List Int) : (l.flatMap int1).all (·.oneCell') = true := by
  induction l with
  | nil => rfl
  | cons x l ih => rw [List.flatMap_cons, List.all_append, ih]; rfl
theorem seal1_wf {ts : List TermR} (hw : Wf (sl1 ts)) (hl : ts.length + 1 < 1048576) {w : Int} (h : 1 ≤ w ∧ w ≤ (ts.length : Int)) : Wf (sl1 ts ++ [seal1 ts w]) := by
  have := hw.mk (t := seal1 ts w) (by simp [seal1]) (by simp [seal1])
  rwa [mk_seal1 hw hl h] at this
theorem seal2_wf {ts : List TermR} (hw : Wf (sl2 ts)) (hl : ts.length + 2 < 1048576) {w : Int} (h : 1 ≤ w ∧ w ≤ (ts.length : Int)) : Wf (sl2 ts ++ [seal2 ts w]) := by
  have := hw.mk (t := seal2 ts w) (by simp [seal2]) (by simp [seal2])
  rwa [mk_seal2 hw hl h] at this
theorem derB_congr {ts : List TermR} {K K' : Nat → Prop} (h : ∀ n, K n ↔ K' n) (x : Int) : derB ts K x = derB ts K' x := by
  have : K = K' := funext fun n => propext (h n)
  rw [this]
theorem kl_cons {l : List Int} {o : Int} {K : Nat → Prop} (h : ∀ n, K n ↔ KL l n) : ∀ n, (K n ∨ n = o.toNat) ↔ KL (o :: l) n := fun n => by
  rw [h]
  constructor
  · rintro (⟨x, hx, e⟩ | rfl)
    · exact ⟨x, List.mem_cons_of_mem _ hx, e⟩
    · exact ⟨o, List.mem_cons_self, rfl⟩
  · rintro ⟨x, hx, e⟩
    rcases List.mem_cons.1 hx with rfl | hx
    · exact .inr e.symm
    · exact .inl ⟨x, hx, e⟩
theorem map_cells (l : List Int) : (l.map intV).all (·.oneCell') = true := by
  induction l with
  | nil => rfl
  | cons x l ih => rw [List.map_cons, List.all_cons, ih]; rfl
theorem flat_map1 (l : List Int) : l.flatMap int1 = l.map intV := by
  induction l with
  | nil => rfl
  | cons x l ih => rw [List.flatMap_cons, ih]; rfl

/-! ### A list beside its twin -/
def mkI (i : Nat) : Value := intV (-1000 - ((i : Nat) : Int))
def mkT (n : Nat) : Nat → List Value
  | 0 => [intV 0, intV 0]
  | 1 => [mkI n, intV 0]
  | _ => [mkI n, mkI (n + 1)]
theorem made_len (z : Array Value) (n : Nat) : (madeCells z n).toList.length = n := by simp [madeCells]
theorem twin_start (l : List Int) : l.flatMap int1 ++ (madeCells (Value.int .i64 0).cells ((l.length + 2) * 1)).toList.drop l.length = l.map intV ++ mkT l.length 0 := by
  rw [flat_map1]
  congr 1
  have e : (madeCells (Value.int .i64 0).cells ((l.length + 2) * 1)).toList = List.replicate (l.length + 2) (Value.int .i64 0) := by
    show (madeCells #[Value.int .i64 0] ((l.length + 2) * 1)).toList = _
    rw [Nat.mul_one]
    apply List.ext_getElem
    · simp [madeCells]
    · intro i h1 h2; simp [madeCells, Nat.mod_one]
  rw [e, List.drop_replicate, show l.length + 2 - l.length = 2 by omega]
  rfl
theorem twin_set0 (l : List Int) : (l.map intV ++ mkT l.length 0).set (l.length + 0) (.int .i64 (-1000 - ((l.length + 0 : Nat) : Int))) = l.map intV ++ mkT l.length 1 := by
  rw [List.set_append, if_neg (by simp)]
  simp [mkT, mkI, intV]
theorem twin_set1 (l : List Int) : (l.map intV ++ mkT l.length 1).set (l.length + 1) (.int .i64 (-1000 - ((l.length + 1 : Nat) : Int))) = l.map intV ++ mkT l.length 2 := by
  rw [List.set_append, if_neg (by simp)]
  simp [mkT, mkI, intV]
theorem twin_len (l : List Int) (d : Nat) : (l.map intV ++ mkT l.length d).length = l.length + 2 := by
  rw [List.length_append, List.length_map]
  unfold mkT; split <;> rfl
theorem twin_at0 (l : List Int) : (l.map intV ++ mkT l.length 2)[l.length + 0]? = some (.int .i64 (-1000 - ((l.length + 0 : Nat) : Int))) := by
  rw [List.getElem?_append_right (by simp)]
  simp [mkT, mkI, intV]
theorem twin_at1 (l : List Int) : (l.map intV ++ mkT l.length 2)[l.length + 1]? = some (.int .i64 (-1000 - ((l.length + 1 : Nat) : Int))) := by
  rw [List.getElem?_append_right (by simp)]
  simp [mkT, mkI, intV]
theorem build2_take {ts : List TermR} {l : List TermR} {k : Nat} {o : TermR} (h : l[k]? = some o) : build ts (l.take (k + 1)) = (mk (build ts (l.take k)) o).1 := by
  obtain ⟨hl, he⟩ := List.getElem?_eq_some_iff.1 h
  rw [List.take_succ_eq_append_getElem hl, he, build_snoc]
theorem build2_wf {ts l : List TermR} (hw : Wf ts) (h : ∀ x ∈ l, okT x) (k : Nat) : Wf (build ts (l.take k)) := Wf.build (fun t ht => by have := h t (List.mem_of_mem_take ht); exact ⟨this.1, this.2.1⟩) hw
theorem build2_le (ts l : List TermR) (k : Nat) : (build ts (l.take k)).length ≤ ts.length + l.length := by
  have := (build_len (l.take k) ts).2
  simp only [List.length_take] at this
  omega
theorem mk_ext (ts : List TermR) (t : TermR) : ∃ xs, (mk ts t).1 = ts ++ xs := by
  unfold mk; split
  · exact ⟨[], by simp⟩
  split
  · exact ⟨[], by simp⟩
  split
  · exact ⟨[], by simp⟩
  · exact ⟨[t], rfl⟩
theorem build_ext : ∀ (l ts : List TermR), ∃ xs, build ts l = ts ++ xs
  | [], ts => ⟨[], by simp [build]⟩
  | t :: l, ts => by
    obtain ⟨xs, h⟩ := mk_ext ts t
    obtain ⟨ys, h2⟩ := build_ext l (mk ts t).1
    exact ⟨xs ++ ys, by rw [build, h2, h, List.append_assoc]⟩
end Go.Proofs.Ytjjghmkjdgogiaa
