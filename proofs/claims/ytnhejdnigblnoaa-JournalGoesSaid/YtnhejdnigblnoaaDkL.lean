/- The disk's laws, of plain data alone. -/
import Derived.Test.YtnhejdnigblnoaaDkM
import Derived.Lib.Strings
import Derived.Lib.SmallJoins
namespace Go.Dk
open Go Go.SL

/-! ### Beyond -/
def beyondF : Int → List Int → Bool
  | _, [] => false
  | acc, x :: r => if x < 0 ∨ x > 262144 then true else if acc + x > 262144 then true else beyondF (acc + x) r
def beyondB (l : List Int) : Bool := beyondF 0 l
theorem beyond_step {acc x : Int} {l : List Int} {k : Nat} (h : l[k]? = some x) : beyondF acc (l.drop k) = if x < 0 ∨ x > 262144 then true else if acc + x > 262144 then true else beyondF (acc + x) (l.drop (k + 1)) := by
  obtain ⟨hl, he⟩ := List.getElem?_eq_some_iff.1 h
  rw [List.drop_eq_getElem_cons hl, he]
  rfl
theorem beyond_le : ∀ {l : List Int} {acc : Int}, beyondF acc l = false → ∀ x ∈ l, 0 ≤ x ∧ x ≤ 262144 := by
  intro l
  induction l with
  | nil => intro _ _ x hx; cases hx
  | cons y r ih =>
    intro acc h x hx
    unfold beyondF at h
    split at h
    · cases h
    · split at h
      · cases h
      · rcases List.mem_cons.1 hx with rfl | hx
        · omega
        · exact ih h x hx
theorem beyond_one {n : Nat} (h : beyondB [(n : Int)] = false) : n ≤ 262144 := by have := beyond_le h n (by simp); omega
theorem beyond_two {n m : Nat} (h : beyondB [(n : Int), (m : Int)] = false) : n ≤ 262144 ∧ m ≤ 262144 := by
  have h1 := beyond_le h n (by simp); have h2 := beyond_le h m (by simp); omega

/-! ### Many writes -/
def good (n : Nat) (q : Int × ByteArray) : Option (Nat × ByteArray) := if 0 ≤ q.1 ∧ q.1 < n ∧ q.2.size = 64 then some (q.1.toNat, q.2) else none
def goods (n : Nat) (l : List (Int × ByteArray)) : List (Nat × ByteArray) := l.filterMap (good n)
def upD (secs : List ByteArray) (since : List (Nat × ByteArray)) (c : Nat) : DS := ⟨secs, since, false, c, none⟩
theorem goods_len (n : Nat) (l : List (Int × ByteArray)) : (goods n l).length ≤ l.length := List.length_filterMap_le ..
theorem goods_snoc (n : Nat) (l : List (Int × ByteArray)) (q : Int × ByteArray) : goods n (l ++ [q]) = goods n l ++ (good n q).toList := by
  simp only [goods, List.filterMap_append]
  cases h : good n q <;> simp [h]
theorem write_good {secs : List ByteArray} {since : List (Nat × ByteArray)} {c : Nat} (q : Int × ByteArray) :
    ((upD secs since c).write q.1 q.2).2 = upD secs (since ++ (good secs.length q).toList) (c + (good secs.length q).toList.length) ∧ ((upD secs since c).write q.1 q.2).1 = (if (good secs.length q).isSome then 0 else 1) := by
  obtain ⟨a, s⟩ := q
  by_cases h : 0 ≤ a ∧ a < secs.length ∧ s.size = 64
  · obtain ⟨m, rfl⟩ := Int.eq_ofNat_of_zero_le h.1
    obtain ⟨h0, h1, h2⟩ := h
    rw [write_ok rfl (by simp only [upD]; omega) (by simp only; omega)]
    have hg : good secs.length ((m : Int), s) = some (m, s) := by simp only [good]; rw [if_pos ⟨h0, h1, h2⟩]; rfl
    rw [hg]; exact ⟨rfl, rfl⟩
  · have hg : good secs.length (a, s) = none := by simp only [good]; rw [if_neg h]
    rw [write_bad rfl (by simp only [upD]; omega), hg]
    exact ⟨by simp [upD], rfl⟩
def wr (n : Nat) (l : List (Int × ByteArray)) : DS := upD (List.replicate n noughts) (goods n l) (goods n l).length
theorem wr_nil (n : Nat) : wr n [] = DS.new n := rfl
theorem wr_snoc (n : Nat) (l : List (Int × ByteArray)) (q : Int × ByteArray) : ((wr n l).write q.1 q.2).2 = wr n (l ++ [q]) := by
  have := (write_good (secs := List.replicate n noughts) (since := goods n l) (c := (goods n l).length) q).1
  simp only [List.length_replicate] at this
  rw [wr, this, wr, goods_snoc, List.length_append]
theorem take_snoc' {α : Type} {l : List α} {k : Nat} {q : α} (h : l[k]? = some q) : l.take (k + 1) = l.take k ++ [q] := by
  obtain ⟨hl, he⟩ := List.getElem?_eq_some_iff.1 h
  rw [List.take_succ_eq_append_getElem hl, he]
theorem mem_goods {n : Nat} {l : List (Int × ByteArray)} {p : Nat × ByteArray} (h : p ∈ goods n l) : ((p.1 : Int), p.2) ∈ l ∧ p.1 < n ∧ p.2.size = 64 := by
  obtain ⟨q, hq, hg⟩ := List.mem_filterMap.1 h
  simp only [good] at hg
  split at hg
  · rename_i hc
    cases hg
    exact ⟨by simp only; rw [Int.toNat_of_nonneg hc.1]; exact hq, by simp only; omega, hc.2.2⟩
  · cases hg
theorem noughts_size : noughts.size = 64 := by simp [noughts, ByteArray.size]
theorem wfl_goods {n : Nat} (hn : n ≤ 4096) (l : List (Int × ByteArray)) : WFl (List.replicate n noughts) (goods n l) where
  len := by simpa using hn
  size := fun s hs => by rw [(List.mem_replicate.1 hs).2]; exact noughts_size
  at_ := fun p hp => by simpa using (mem_goods hp).2.1
  size' := fun p hp => (mem_goods hp).2.2
theorem wf_wr {n : Nat} (hn : n ≤ 4096) (l : List (Int × ByteArray)) : WF (wr n l) := ⟨wfl_goods hn l, fun _ _ h => by cases h⟩
theorem wf_fallL {secs : List ByteArray} {since : List (Nat × ByteArray)} (h : WFl secs since) : ∀ (ws : List (Nat × ByteArray)) (b : Int) (ss : List ByteArray), (∀ p ∈ ws, p.1 < ss.length ∧ p.2.size = 64) → (∀ s ∈ ss, s.size = 64) → ∀ s ∈ fallL ss ws b, s.size = 64
  | [], _, _, _, h2 => h2
  | p :: r, b, ss, h1, h2 => by
    refine wf_fallL h r (b / 4) _ (fun q hq => ?_) (fun s hs => ?_)
    · have := h1 q (List.mem_cons_of_mem _ hq); simpa using this
    · rcases List.mem_or_eq_of_mem_set hs with hs | hs
      · exact h2 s hs
      · have hp := h1 p List.mem_cons_self
        rw [hs]
        exact torn_size _ (by rw [List.getD_eq_getElem?_getD, List.getElem?_eq_getElem hp.1]; exact h2 _ (List.getElem_mem hp.1)) hp.2

/-! ### Torn -/
def lo (s : ByteArray) : ByteArray := s.extract 0 32
def hi (s : ByteArray) : ByteArray := s.extract 32 s.size
theorem ext_data {s u : ByteArray} (h : s.data.toList = u.data.toList) : s = u := by cases s; cases u; congr 1; exact Array.ext' h
theorem lo_cat {s u : ByteArray} (hs : s.size = 64) : lo (s.extract 0 32 ++ u) = lo s := by
  apply ext_data
  have hl : s.data.toList.length = 64 := by simpa using hs
  simp only [lo, Lib.extract_data, Joins.data_append]
  simp [hl]
theorem hi_cat {s u : ByteArray} (hs : s.size = 64) (hu : u.size = 64) : hi (s.extract 0 32 ++ u.extract 32 u.size) = hi u := by
  apply ext_data
  have hl : s.data.toList.length = 64 := by simpa using hs
  have hl2 : u.data.toList.length = 64 := by simpa using hu
  simp only [hi, Lib.extract_data, Joins.data_append, ByteArray.size_append, ByteArray.size_extract, hu, hs]
  simp [hl, List.take_take]
theorem torn_lo {old s : ByteArray} (k : Int) (h1 : old.size = 64) (h2 : s.size = 64) : lo (torn old s k) = lo old ∨ lo (torn old s k) = lo s := by
  unfold torn
  split; · exact .inl rfl
  split; · exact .inr rfl
  split; · exact .inr (lo_cat h2)
  exact .inl (lo_cat h1)
theorem torn_hi {old s : ByteArray} (k : Int) (h1 : old.size = 64) (h2 : s.size = 64) : hi (torn old s k) = hi old ∨ hi (torn old s k) = hi s := by
  unfold torn
  split; · exact .inl rfl
  split; · exact .inr rfl
  split; · exact .inl (hi_cat h2 h1)
  exact .inr (hi_cat h1 h2)
theorem getD_set {l : List ByteArray} {i j : Nat} {x d : ByteArray} (hi' : i < l.length) : (l.set i x).getD j d = if i = j then x else l.getD j d := by
  simp only [List.getD_eq_getElem?_getD, List.getElem?_set]
  split
  · rfl
  · rfl
theorem fall_half (f : ByteArray → ByteArray) (hf : ∀ (old s : ByteArray) (k : Int), old.size = 64 → s.size = 64 → f (torn old s k) = f old ∨ f (torn old s k) = f s) :
    ∀ (ws : List (Nat × ByteArray)) (b : Int) (ss : List ByteArray) (i : Nat), (∀ p ∈ ws, p.1 < ss.length ∧ p.2.size = 64) → (∀ s ∈ ss, s.size = 64) →
      f ((fallL ss ws b).getD i default) = f (ss.getD i default) ∨ ∃ p ∈ ws, p.1 = i ∧ f ((fallL ss ws b).getD i default) = f p.2
  | [], _, _, _, _, _ => .inl rfl
  | p :: r, b, ss, i, h1, h2 => by
    have hp := h1 p List.mem_cons_self
    have hold : (ss.getD p.1 default).size = 64 := by rw [List.getD_eq_getElem?_getD, List.getElem?_eq_getElem hp.1]; exact h2 _ (List.getElem_mem hp.1)
    have ih := fall_half f hf r (b / 4) (ss.set p.1 (torn (ss.getD p.1 default) p.2 (b % 4))) i (fun q hq => by have := h1 q (List.mem_cons_of_mem _ hq); simpa using this)
      (fun s hs => by
        rcases List.mem_or_eq_of_mem_set hs with hs | hs
        · exact h2 s hs
        · rw [hs]; exact torn_size _ hold hp.2)
    rw [getD_set hp.1] at ih
    show f ((fallL (ss.set p.1 (torn (ss.getD p.1 default) p.2 (b % 4))) r (b / 4)).getD i default) = _ ∨ _
    rcases ih with ih | ⟨q, hq, hq1, hq2⟩
    · by_cases hpi : p.1 = i
      · rw [if_pos hpi] at ih
        subst hpi
        rcases hf _ _ (b % 4) hold hp.2 with h | h
        · exact .inl (ih.trans h)
        · exact .inr ⟨p, List.mem_cons_self, rfl, ih.trans h⟩
      · rw [if_neg hpi] at ih
        exact .inl ih
    · exact .inr ⟨q, List.mem_cons_of_mem _ hq, hq1, hq2⟩
/-- A half of a sector is as it should be: noughts, or what a write has put there. -/
def Half (f : ByteArray → ByteArray) (s : ByteArray) (i : Nat) (l : List (Int × ByteArray)) : Prop := f s = f noughts ∨ ∃ q ∈ l, q.1 = (i : Int) ∧ (q.2.size : Int) = 64 ∧ f s = f q.2
theorem Half.snoc {f : ByteArray → ByteArray} {s : ByteArray} {i k : Nat} {l : List (Int × ByteArray)} {q : Int × ByteArray} (h : l[k]? = some q) :
    Half f s i (l.take (k + 1)) ↔ (Half f s i (l.take k) ∨ (q.1 = (i : Int) ∧ (q.2.size : Int) = 64 ∧ f s = f q.2)) := by
  rw [take_snoc' h]
  simp only [Half, List.mem_append, List.mem_singleton]
  constructor
  · rintro (h | ⟨p, hp | hp, h⟩)
    · exact .inl (.inl h)
    · exact .inl (.inr ⟨p, hp, h⟩)
    · rw [hp] at h; exact .inr h
  · rintro ((h | ⟨p, hp, h⟩) | h)
    · exact .inl h
    · exact .inr ⟨p, .inl hp, h⟩
    · exact .inr ⟨q, .inr rfl, h⟩
theorem Half.old {f : ByteArray → ByteArray} {s : ByteArray} {i k : Nat} {l : List (Int × ByteArray)} {q : Int × ByteArray} (h : l[k]? = some q) (ha : true = true ↔ Half f s i (l.take k)) : true = true ↔ Half f s i (l.take (k + 1)) :=
  ⟨fun _ => (Half.snoc h).2 (.inl (ha.1 rfl)), fun _ => rfl⟩
theorem Half.new {f : ByteArray → ByteArray} {s : ByteArray} {i k : Nat} {l : List (Int × ByteArray)} {q : Int × ByteArray} (h : l[k]? = some q) (h1 : q.1 = (i : Int)) (h2 : (q.2.size : Int) = 64) (h3 : f s = f q.2) : true = true ↔ Half f s i (l.take (k + 1)) :=
  ⟨fun _ => (Half.snoc h).2 (.inr ⟨h1, h2, h3⟩), fun _ => rfl⟩
theorem Half.none {f : ByteArray → ByteArray} {s : ByteArray} {i k : Nat} {l : List (Int × ByteArray)} {q : Int × ByteArray} (h : l[k]? = some q) (ha : false = true ↔ Half f s i (l.take k)) (hn : ¬ (q.1 = (i : Int) ∧ (q.2.size : Int) = 64 ∧ f s = f q.2)) : false = true ↔ Half f s i (l.take (k + 1)) :=
  ⟨fun h => (by cases h), fun h' => ((Half.snoc h).1 h').elim ha.2 (fun h => absurd h hn)⟩
theorem Half.atNought {f : ByteArray → ByteArray} {s : ByteArray} {i : Nat} {l : List (Int × ByteArray)} (h : f s = f noughts) : true = true ↔ Half f s i (l.take 0) := ⟨fun _ => .inl h, fun _ => rfl⟩
theorem Half.atOther {f : ByteArray → ByteArray} {s : ByteArray} {i : Nat} {l : List (Int × ByteArray)} (h : ¬ f s = f noughts) : false = true ↔ Half f s i (l.take 0) := ⟨fun h => (by cases h), fun h' => (h'.elim (fun h' => absurd h' h) (fun ⟨_, h', _⟩ => absurd h' (by simp)))⟩
theorem torn_half (f : ByteArray → ByteArray) (hf : ∀ (old s : ByteArray) (k : Int), old.size = 64 → s.size = 64 → f (torn old s k) = f old ∨ f (torn old s k) = f s) {n : Nat} (hn : n ≤ 4096) (l : List (Int × ByteArray)) (bits : Int) {i : Nat} (hi : i < n) :
    Half f ((fallL (List.replicate n noughts) ((goods n l).take 31) bits).getD i default) i l := by
  have hw := wfl_goods hn l
  have h1 : ∀ p ∈ (goods n l).take 31, p.1 < (List.replicate n noughts).length ∧ p.2.size = 64 := fun p hp => ⟨hw.at_ p (List.mem_of_mem_take hp), hw.size' p (List.mem_of_mem_take hp)⟩
  rcases fall_half f hf ((goods n l).take 31) bits _ i h1 hw.size with h | ⟨p, hp, hpi, h⟩
  · left; rw [h]; congr 1; rw [List.getD_eq_getElem?_getD, List.getElem?_replicate, if_pos hi]; rfl
  · have := mem_goods (List.mem_of_mem_take hp)
    exact .inr ⟨_, this.1, by simp only; omega, by simp only; omega, h⟩
/-- The disk of DiskTorn behind its crash and its start. -/
def tornD (n : Nat) (l : List (Int × ByteArray)) (bits : Int) : DS := ⟨fallL (List.replicate n noughts) ((goods n l).take 31) bits, [], false, (goods n l).length, none⟩
theorem tornD_read {n : Nat} {l : List (Int × ByteArray)} {bits : Int} {i : Nat} (hi : i < n) : (tornD n l bits).read (i : Int) = ((fallL (List.replicate n noughts) ((goods n l).take 31) bits).getD i default, 0) := by
  rw [read_ok rfl (by simp only [tornD, fallL_length, List.length_replicate]; omega)]; rfl
theorem tornD_size {n : Nat} (hn : n ≤ 4096) (l : List (Int × ByteArray)) (bits : Int) {i : Nat} (hi : i < n) : ((fallL (List.replicate n noughts) ((goods n l).take 31) bits).getD i default).size = 64 := by
  have hw := wfl_goods hn l
  have h1 : ∀ p ∈ (goods n l).take 31, p.1 < (List.replicate n noughts).length ∧ p.2.size = 64 := fun p hp => ⟨hw.at_ p (List.mem_of_mem_take hp), hw.size' p (List.mem_of_mem_take hp)⟩
  refine wf_fallL hw _ bits _ h1 hw.size _ ?_
  rw [List.getD_eq_getElem?_getD, List.getElem?_eq_getElem (by simpa [fallL_length] using hi)]
  exact List.getElem_mem _

theorem wr_all {n k : Nat} {l : List (Int × ByteArray)} {bits : Int} (h : k = l.length) : ((wr n (l.take k)).crash bits).2.start.2 = tornD n l bits := by
  rw [h, List.take_length]; rfl
def flatI (l : List (Int × ByteArray)) : List Value := l.flatMap fun p => [.int .i64 p.1, .string p.2]
theorem flatI_get {l : List (Int × ByteArray)} : ∀ {i : Nat} {p : Int × ByteArray}, l[i]? = some p → (flatI l)[i * 2]? = some (.int .i64 p.1) ∧ (flatI l)[i * 2 + 1]? = some (.string p.2) := by
  induction l with
  | nil => intro i p h; simp at h
  | cons q l ih =>
    intro i p h
    cases i with
    | zero => simp at h; subst h; simp [flatI]
    | succ i =>
      have := ih (i := i) (by simpa using h)
      simp only [flatI, List.flatMap_cons] at *
      rw [show (i + 1) * 2 = i * 2 + 2 from by omega]
      simpa using this
theorem rdW {W0 : World} {v : Value} {l : List (Int × ByteArray)} {k : Nat} {q : Int × ByteArray} (h : Rd W0 v l.length (flatI l)) (hg : l[k]? = some q) :
    W0.cell? ⟨rb v, ro v + k * 2, none⟩ = some (.int .i64 q.1) ∧ W0.cell? ⟨rb v, ro v + k * 2 + 1, none⟩ = some (.string q.2) := by
  obtain ⟨h1, h2⟩ := flatI_get hg
  exact ⟨h.cell _ _ h1, by have := h.cell _ _ h2; rwa [← Nat.add_assoc] at this⟩

/-! ### What is read, kept in a list -/
def rsL (R : Nat → ByteArray) (i : Nat) : List Value := (List.range i).map fun j => Value.string (R j)
theorem rs_succ (R : Nat → ByteArray) (i : Nat) : rsL R (i + 1) = rsL R i ++ [Value.string (R i)] := by simp [rsL, List.range_succ]
theorem rs_len (R : Nat → ByteArray) (i : Nat) : (rsL R i).length = i := by simp [rsL]
theorem rs_get {R : Nat → ByteArray} {i n : Nat} (h : i < n) : (rsL R n)[i]? = some (.string (R i)) := by
  simp only [rsL, List.getElem?_map, List.getElem?_range h]; rfl
theorem upD_read {S : List ByteArray} {c i : Nat} (h : i < S.length) : (upD S [] c).read (i : Int) = (S.getD i default, 0) := by
  rw [read_ok rfl (by simp only [upD]; omega)]; rfl
theorem upD_read_since {S : List ByteArray} {since : List (Nat × ByteArray)} {c i : Nat} (h : i < S.length) : (upD S since c).read (i : Int) = (readL (S.getD i default) i since, 0) := by
  rw [read_ok rfl (by simp only [upD]; omega)]; rfl
/-- Writes behind those of a disk. -/
def wrS (S : List ByteArray) (c n : Nat) (l : List (Int × ByteArray)) : DS := upD S (goods n l) (c + (goods n l).length)
theorem wrS_snoc {S : List ByteArray} {c n : Nat} (hS : S.length = n) (l : List (Int × ByteArray)) (q : Int × ByteArray) : ((wrS S c n l).write q.1 q.2).2 = wrS S c n (l ++ [q]) := by
  have := (write_good (secs := S) (since := goods n l) (c := c + (goods n l).length) q).1
  rw [hS] at this
  rw [wrS, this, wrS, goods_snoc, List.length_append, Nat.add_assoc]
theorem wf_wrS {S : List ByteArray} {c n : Nat} (h : WFl S []) (hS : S.length = n) (l : List (Int × ByteArray)) : WF (wrS S c n l) :=
  ⟨⟨h.len, h.size, fun p hp => by have := (mem_goods hp).2.1; show p.1 < S.length; omega, fun p hp => (mem_goods hp).2.2⟩, fun _ _ h => by cases h⟩
theorem wf_upD {S : List ByteArray} {c : Nat} (h : WFl S []) : WF (upD S [] c) := ⟨h, fun _ _ h => by cases h⟩
theorem set_getD {S : List ByteArray} {i : Nat} : S.set i (S.getD i default) = S := by
  apply List.ext_getElem?
  intro j
  rw [List.getElem?_set]
  split
  · rename_i h; subst h
    split
    · rename_i h; rw [List.getD_eq_getElem?_getD, List.getElem?_eq_getElem h]; rfl
    · rename_i h; rw [List.getElem?_eq_none (by omega)]
  · rfl
theorem fall0 : ∀ (ws : List (Nat × ByteArray)) (S : List ByteArray), fallL S ws 0 = S
  | [], _ => rfl
  | p :: r, S => by
    show fallL (S.set p.1 (torn (S.getD p.1 default) p.2 0)) r 0 = S
    rw [show torn (S.getD p.1 default) p.2 0 = S.getD p.1 default from rfl, set_getD, fall0 r S]
theorem wrS_crash0 (S : List ByteArray) (c n : Nat) (l : List (Int × ByteArray)) : ((wrS S c n l).crash 0).2.start.2 = upD S [] (c + (goods n l).length) := by
  show (⟨fallL S _ 0, [], false, _, none⟩ : DS) = _
  rw [fall0]; rfl
theorem wf_syncL : ∀ (ws : List (Nat × ByteArray)) (S : List ByteArray), S.length ≤ 4096 → (∀ s ∈ S, s.size = 64) → (∀ p ∈ ws, p.2.size = 64) → WFl (syncL S ws) []
  | [], S, h1, h2, _ => ⟨h1, h2, fun _ h => (by cases h), fun _ h => (by cases h)⟩
  | p :: r, S, h1, h2, h3 => wf_syncL r (S.set p.1 p.2) (by simpa using h1) (fun s hs => by
      rcases List.mem_or_eq_of_mem_set hs with hs | hs
      · exact h2 s hs
      · rw [hs]; exact h3 p List.mem_cons_self) (fun q hq => h3 q (List.mem_cons_of_mem _ hq))
theorem wr_sync_all {n k : Nat} {l : List (Int × ByteArray)} (hn : n ≤ 4096) (h : k = l.length) : ∃ S c, (wr n (l.take k)).sync.2 = upD S [] c ∧ S.length = n ∧ WFl S [] ∧ c ≤ l.length + 1 := by
  rw [h, List.take_length]
  have hw := wfl_goods hn l
  exact ⟨syncL (List.replicate n noughts) (goods n l), (goods n l).length + 1, rfl, by rw [syncL_len]; simp, wf_syncL _ _ hw.len hw.size hw.size', by have := goods_len n l; omega⟩

theorem wf_upDs {S : List ByteArray} {since : List (Nat × ByteArray)} {c : Nat} (h : WFl S since) : WF (upD S since c) := ⟨h, fun _ _ h => by cases h⟩
def okN (n : Nat) (q : Int × ByteArray) : Int := if (good n q).isSome then 0 else 1
theorem wr_res (n : Nat) (l : List (Int × ByteArray)) (q : Int × ByteArray) : ((wr n l).write q.1 q.2).1 = okN n q := by
  have := (write_good (secs := List.replicate n noughts) (since := goods n l) (c := (goods n l).length) q).2
  simp only [List.length_replicate] at this
  exact this
theorem goods_yes {n k : Nat} {l : List (Int × ByteArray)} {q : Int × ByteArray} (hget : l[k]? = some q) (h : okN n q = 0) : (goods n (l.take (k + 1))).length = (goods n (l.take k)).length + 1 := by
  rw [take_snoc' hget, goods_snoc, List.length_append]
  cases hg : good n q with
  | none => rw [okN, hg] at h; simp at h
  | some p => rfl
theorem goods_no {n k : Nat} {l : List (Int × ByteArray)} {q : Int × ByteArray} (hget : l[k]? = some q) (h : ¬ okN n q = 0) : (goods n (l.take (k + 1))).length = (goods n (l.take k)).length := by
  rw [take_snoc' hget, goods_snoc, List.length_append]
  cases hg : good n q with
  | none => rfl
  | some p => rw [okN, hg] at h; exact absurd rfl h
def fives : Nat → Int
  | 0 => 0
  | m + 1 => 4 * fives m + 1
theorem fall_fives : ∀ (ws : List (Nat × ByteArray)) (m : Nat) (S : List ByteArray), ws.length ≤ m → fallL S ws (fives m) = syncL S ws
  | [], _, _, _ => rfl
  | p :: r, 0, _, h => by simp at h
  | p :: r, m + 1, S, h => by
    have h1 : fives (m + 1) % 4 = 1 := by simp only [fives]; omega
    have h2 : fives (m + 1) / 4 = fives m := by simp only [fives]; omega
    rw [fallL, syncL, h1, h2, show torn (S.getD p.1 default) p.2 1 = p.2 from rfl]
    exact fall_fives r m _ (by simpa using h)
theorem kept_crash {S : List ByteArray} {G : List (Nat × ByteArray)} {c : Nat} (h : G.length ≤ 31) : ((upD S G c).crash 6148914691236517205).2.start.2 = upD (syncL S G) [] c := by
  show (⟨fallL S (G.take 31) (fives 32), [], false, c, none⟩ : DS) = _
  rw [List.take_of_length_le h, fall_fives G 32 S (by omega)]; rfl
theorem syncL_getD : ∀ (ws : List (Nat × ByteArray)) (S : List ByteArray) (i : Nat), (∀ p ∈ ws, p.1 < S.length) → (syncL S ws).getD i default = readL (S.getD i default) i ws
  | [], _, _, _ => rfl
  | p :: r, S, i, h => by
    rw [syncL, readL, syncL_getD r _ i (fun q hq => by simpa using h q (List.mem_cons_of_mem _ hq)), getD_set (h p List.mem_cons_self)]
theorem kept_facts {n k : Nat} {l : List (Int × ByteArray)} (hn : n ≤ 4096) (hd : (goods n (l.take k)).length ≤ 31) : ∃ G, wr n (l.take k) = upD (List.replicate n noughts) G G.length ∧ G.length ≤ 31 ∧ WFl (List.replicate n noughts) G :=
  ⟨goods n (l.take k), rfl, hd, wfl_goods hn _⟩
theorem kept_read {n i c : Nat} {G : List (Nat × ByteArray)} (hw : WFl (List.replicate n noughts) G) (hi : i < n) : (upD (syncL (List.replicate n noughts) G) [] c).read (i : Int) = (readL ((List.replicate n noughts).getD i default) i G, 0) := by
  rw [upD_read (by rw [syncL_len]; simpa using hi), syncL_getD _ _ _ hw.at_]

/-! ### Writes and syncs beside a list of what each sector should be -/
theorem okN_yes {n : Nat} {q : Int × ByteArray} (h1 : q.1 ≥ 0) (h2 : q.1 < (n : Int)) (h3 : (q.2.size : Int) = 64) : okN n q = 0 := by
  have : good n q = some (q.1.toNat, q.2) := by simp only [good]; rw [if_pos ⟨h1, h2, by omega⟩]
  simp [okN, this]
theorem okN_no {n : Nat} {q : Int × ByteArray} (h : ¬ (q.1 ≥ 0 ∧ q.1 < (n : Int) ∧ (q.2.size : Int) = 64)) : ¬ okN n q = 0 := by
  have : good n q = none := by simp only [good]; rw [if_neg (fun h' => h ⟨h'.1, h'.2.1, by omega⟩)]
  simp [okN, this]
theorem good_yes {n a : Nat} {q : Int × ByteArray} (h1 : q.1 = (a : Int)) (h2 : q.1 < (n : Int)) (h3 : (q.2.size : Int) = 64) : good n q = some (a, q.2) := by
  simp only [good]; rw [if_pos ⟨by omega, h2, by omega⟩, h1]; rfl
theorem good_no {n : Nat} {q : Int × ByteArray} (h : ¬ (q.1 ≥ 0 ∧ q.1 < (n : Int) ∧ (q.2.size : Int) = 64)) : good n q = none := by
  simp only [good]; rw [if_neg (fun h' => h ⟨h'.1, h'.2.1, by omega⟩)]
theorem upD_write {S : List ByteArray} {G : List (Nat × ByteArray)} {c n : Nat} (hS : S.length = n) (q : Int × ByteArray) :
    ((upD S G c).write q.1 q.2).2 = upD S (G ++ (good n q).toList) (c + (good n q).toList.length) ∧ ((upD S G c).write q.1 q.2).1 = okN n q := by
  subst hS; exact write_good q
structure Ap (n : Nat) (S : List ByteArray) (G : List (Nat × ByteArray)) (Wl : List ByteArray) : Prop where
  len : S.length = n
  wf : WFl S G
  wl : Wl.length = n
  rd : ∀ i, i < n → readL (S.getD i default) i G = Wl.getD i default
theorem Ap.start {n : Nat} (h : n ≤ 4096) : Ap n (List.replicate n noughts) [] (List.replicate n noughts) :=
  ⟨by simp, ⟨by simpa using h, fun s hs => by rw [(List.mem_replicate.1 hs).2]; exact noughts_size, fun _ h => (by cases h), fun _ h => (by cases h)⟩, by simp, fun _ _ => rfl⟩
theorem Ap.sync {n : Nat} {S : List ByteArray} {G : List (Nat × ByteArray)} {Wl : List ByteArray} (h : Ap n S G Wl) : Ap n (syncL S G) [] Wl :=
  ⟨by rw [syncL_len]; exact h.len, wf_syncL _ _ h.wf.len h.wf.size h.wf.size', h.wl, fun i hi => by show (syncL S G).getD i default = _; rw [syncL_getD _ _ _ h.wf.at_]; exact h.rd i hi⟩
theorem readL_snoc (i a : Nat) (s : ByteArray) : ∀ (G : List (Nat × ByteArray)) (s0 : ByteArray), readL s0 i (G ++ [(a, s)]) = if a = i then s else readL s0 i G
  | [], _ => rfl
  | p :: r, s0 => by rw [List.cons_append, readL, readL_snoc i a s r]; rfl
theorem Ap.write {n a : Nat} {S : List ByteArray} {G : List (Nat × ByteArray)} {Wl : List ByteArray} {s : ByteArray} (h : Ap n S G Wl) (ha : a < n) (hs : s.size = 64) : Ap n S (G ++ [(a, s)]) (Wl.set a s) := by
  refine ⟨h.len, ⟨h.wf.len, h.wf.size, fun p hp => ?_, fun p hp => ?_⟩, by simpa using h.wl, fun i hi => ?_⟩
  · rcases List.mem_append.1 hp with hp | hp
    · exact h.wf.at_ p hp
    · rw [List.mem_singleton.1 hp, h.len]; exact ha
  · rcases List.mem_append.1 hp with hp | hp
    · exact h.wf.size' p hp
    · rw [List.mem_singleton.1 hp]; exact hs
  · rw [readL_snoc, getD_set (by rw [h.wl]; exact ha)]
    split
    · rfl
    · exact h.rd i hi
theorem wl_get {Wl : List ByteArray} {i : Nat} (h : i < Wl.length) : (Wl.map Value.string)[i]? = some (.string (Wl.getD i default)) := by
  rw [List.getElem?_map, List.getD_eq_getElem?_getD, List.getElem?_eq_getElem h]; rfl
theorem rs_const {r n : Nat} (h : r = n) : rsL (fun _ => noughts) r = (List.replicate n noughts).map Value.string := by
  subst h
  simp only [rsL, List.map_const', List.length_range, List.map_replicate]
theorem splice_one {Wl : List ByteArray} {a : Nat} {s : ByteArray} (h : a < Wl.length) : splice (Wl.map Value.string) a [Value.string s] = (Wl.set a s).map Value.string := by
  rw [splice, List.map_set, List.set_eq_take_append_cons_drop, if_pos (by simpa using h)]
  simp

/-! ### What is done to a disk, drawn -/
structure OpR where
  kind : Int
  at_ : Int
  b : Nat
  more : Int
  bits : Int
def opCells (o : OpR) : List Value := [.int .i64 o.kind, .int .i64 o.at_, .int .u8 (o.b : Int), .int .i64 o.more, .int .i64 o.bits]
theorem flat5 {l : List OpR} : ∀ {k : Nat} {o : OpR}, l[k]? = some o → ∀ j u, (opCells o)[j]? = some u → (l.flatMap opCells)[k * 5 + j]? = some u := by
  induction l with
  | nil => intro k o h; simp at h
  | cons q l ih =>
    intro k o h j u hj
    have hl : j < 5 := (List.getElem?_eq_some_iff.1 hj).1
    cases k with
    | zero =>
      simp at h; subst h
      rw [List.flatMap_cons, List.getElem?_append_left (by simp only [opCells, List.length_cons, List.length_nil]; omega), Nat.zero_mul, Nat.zero_add]; exact hj
    | succ k =>
      have := ih (k := k) (by simpa using h) j u hj
      rw [List.flatMap_cons, List.getElem?_append_right (by simp only [opCells, List.length_cons, List.length_nil]; omega)]
      rw [show (k + 1) * 5 + j - (opCells q).length = k * 5 + j from by simp only [opCells, List.length_cons, List.length_nil]; omega]
      exact this
theorem rdO {W0 : World} {v : Value} {l : List OpR} {k : Nat} {o : OpR} (h : Rd W0 v l.length (l.flatMap opCells)) (hg : l[k]? = some o) (j : Nat) {u : Value} (hj : (opCells o)[j]? = some u) : W0.cell? ⟨rb v, ro v + k * 5 + j, none⟩ = some u := by
  have := h.cell _ _ (flat5 hg j u hj); rwa [← Nat.add_assoc] at this
def cutD (S : List ByteArray) (G : List (Nat × ByteArray)) (m k : Nat) : DS := if k ≤ m then ⟨S, G, false, k, some (m - k, 0)⟩ else ⟨S, [], true, m, none⟩
structure CutI (S : List ByteArray) (G : List (Nat × ByteArray)) (k : Nat) : Prop where
  len : S.length = 4
  wf : WFl S G
  since : G.length ≤ k
theorem CutI.start : CutI (List.replicate 4 noughts) [] 0 := ⟨by simp, ⟨by simp, fun s hs => by rw [(List.mem_replicate.1 hs).2]; exact noughts_size, fun _ h => (by cases h), fun _ h => (by cases h)⟩, by simp⟩
theorem cut0 (m : Nat) : (DS.new 4).cutTo (m : Int) 0 = (0, cutD (List.replicate 4 noughts) [] m 0) := by
  unfold DS.cutTo cutD
  rw [if_neg (show ¬ (DS.new 4).down = true by decide), if_neg (show ¬ ((m : Int) < 0) by omega), if_pos (Nat.zero_le m)]
  rfl
theorem cutneg {n : Int} (h : n < 0) : (DS.new 4).cutTo n 0 = (1, DS.new 4) := by
  unfold DS.cutTo
  rw [if_neg (show ¬ (DS.new 4).down = true by decide), if_pos h]
theorem cut_wf {S : List ByteArray} {G : List (Nat × ByteArray)} {m k : Nat} (h : CutI S G k) (hm : m ≤ 9223372036854775807) : WF (cutD S G m k) := by
  unfold cutD
  split
  · exact ⟨h.wf, fun n b e => by cases e; omega⟩
  · exact ⟨⟨h.wf.len, h.wf.size, fun _ h => (by cases h), fun _ h => (by cases h)⟩, fun _ _ e => by cases e⟩
theorem cut_since {S : List ByteArray} {G : List (Nat × ByteArray)} {m k : Nat} (h : CutI S G k) : (cutD S G m k).since.length ≤ k := by
  unfold cutD; split
  · exact h.since
  · exact Nat.zero_le _
theorem cut_count (S : List ByteArray) (G : List (Nat × ByteArray)) (m k : Nat) : (cutD S G m k).count = min k m := by
  unfold cutD; split
  · show k = _; omega
  · show m = _; omega
theorem cutD_up {S : List ByteArray} {G : List (Nat × ByteArray)} {m k : Nat} (h : k < m) : (cutD S G m (k + 1)).down = false := by
  unfold cutD; rw [if_pos (by omega)]
theorem cutD_down {S : List ByteArray} {G : List (Nat × ByteArray)} {m k : Nat} (h : m ≤ k) : (cutD S G m (k + 1)).down = true := by
  unfold cutD; rw [if_neg (by omega)]
theorem cut_fall {S : List ByteArray} {G : List (Nat × ByteArray)} {m k : Nat} (h : CutI S G k) (hk : m = k) : ((⟨S, G, false, k, some (m - k, 0)⟩ : DS).fall 0) = cutD S [] m (k + 1) ∧ CutI S [] (k + 1) := by
  subst hk
  refine ⟨?_, h.len, ⟨h.wf.len, h.wf.size, fun _ h => (by cases h), fun _ h => (by cases h)⟩, Nat.zero_le _⟩
  unfold cutD
  rw [if_neg (by omega), DS.fall, fall0]
theorem cut_write {S : List ByteArray} {G : List (Nat × ByteArray)} {m k : Nat} (h : CutI S G k) {a : Int} {s : ByteArray} (h0 : 0 ≤ a) (h1 : a < 4) (hs : s.size = 64) :
    ∃ S1 G1, (cutD S G m k).write a s = ((if k < m then 0 else 6), cutD S1 G1 m (k + 1)) ∧ CutI S1 G1 (k + 1) := by
  obtain ⟨b, rfl⟩ := Int.eq_ofNat_of_zero_le h0
  by_cases hk : k ≤ m
  · have hd : cutD S G m k = ⟨S, G, false, k, some (m - k, 0)⟩ := by unfold cutD; rw [if_pos hk]
    rw [hd, write_ok rfl (by simp only; rw [h.len]; omega) (by omega)]
    by_cases hlt : k < m
    · obtain ⟨j, hj⟩ : ∃ j, m - k = j + 1 := ⟨m - k - 1, by omega⟩
      refine ⟨S, G ++ [(b, s)], ?_, h.len, ⟨h.wf.len, h.wf.size, fun p hp => ?_, fun p hp => ?_⟩, by simpa using h.since⟩
      · rw [if_pos hlt, hj]
        unfold cutD
        rw [if_pos (by omega), show m - (k + 1) = j from by omega]
        rfl
      · rcases List.mem_append.1 hp with hp | hp
        · exact h.wf.at_ p hp
        · rw [List.mem_singleton.1 hp, h.len]; simp only; omega
      · rcases List.mem_append.1 hp with hp | hp
        · exact h.wf.size' p hp
        · rw [List.mem_singleton.1 hp]; exact hs
    · obtain ⟨h2, h3⟩ := cut_fall h (show m = k by omega)
      refine ⟨S, [], ?_, h3⟩
      rw [if_neg hlt, ← h2, show m - k = 0 from by omega]
      rfl
  · refine ⟨S, [], ?_, h.len, ⟨h.wf.len, h.wf.size, fun _ h => (by cases h), fun _ h => (by cases h)⟩, Nat.zero_le _⟩
    unfold cutD
    rw [if_neg hk, if_neg (by omega), if_neg (by omega)]
    rfl
theorem cut_sync {S : List ByteArray} {G : List (Nat × ByteArray)} {m k : Nat} (h : CutI S G k) :
    ∃ S1 G1, (cutD S G m k).sync = ((if k < m then 0 else 6), cutD S1 G1 m (k + 1)) ∧ CutI S1 G1 (k + 1) := by
  by_cases hk : k ≤ m
  · have hd : cutD S G m k = ⟨S, G, false, k, some (m - k, 0)⟩ := by unfold cutD; rw [if_pos hk]
    rw [hd]
    by_cases hlt : k < m
    · obtain ⟨j, hj⟩ : ∃ j, m - k = j + 1 := ⟨m - k - 1, by omega⟩
      refine ⟨syncL S G, [], ?_, by rw [syncL_len]; exact h.len, wf_syncL _ _ h.wf.len h.wf.size h.wf.size', Nat.zero_le _⟩
      rw [if_pos hlt, hj]
      unfold cutD
      rw [if_pos (by omega), show m - (k + 1) = j from by omega]
      rfl
    · obtain ⟨h2, h3⟩ := cut_fall h (show m = k by omega)
      refine ⟨S, [], ?_, h3⟩
      rw [if_neg hlt, ← h2, show m - k = 0 from by omega]
      rfl
  · refine ⟨S, [], ?_, h.len, ⟨h.wf.len, h.wf.size, fun _ h => (by cases h), fun _ h => (by cases h)⟩, Nat.zero_le _⟩
    unfold cutD
    rw [if_neg hk, if_neg (by omega), if_neg (by omega)]
    rfl
theorem alsz' (b : Nat) : (filled b 0).size = 64 := by
  have h : filledN 0 = 64 := by kernel_rfl
  simp [filled, h, filledL, ByteArray.size]

/-! ### The disk of the reference -/
theorem shr4 {b : Int} {k : Nat} (h : k < 31) : b.fdiv (2 ^ min (Int.toNat ((2 * k : Nat) : Int)) IntKind.i64.bits) = b / 4 ^ k := by
  rw [show min (Int.toNat ((2 * k : Nat) : Int)) IntKind.i64.bits = 2 * k from by simp only [Int.toNat_natCast, IntKind.bits]; omega, Int.pow_mul]
  exact Int.fdiv_eq_ediv_of_nonneg _ (Int.le_of_lt (Int.pow_pos (by decide)))
theorem div4 (b : Int) (k : Nat) : b / 4 ^ (k + 1) = b / 4 ^ k / 4 := by
  rw [Int.pow_succ, Int.ediv_ediv_of_nonneg (Int.le_of_lt (Int.pow_pos (by decide)))]
theorem fall_pow {ss : List ByteArray} {since : List (Nat × ByteArray)} {k a : Nat} {s : ByteArray} {bits : Int} {R : List ByteArray} (h : since[k]? = some (a, s)) (hk : k < 31) (hp : fallL ss ((since.take 31).drop k) (bits / 4 ^ k) = R) :
    fallL (ss.set a (torn (ss.getD a default) s (bits / 4 ^ k % 4))) ((since.take 31).drop (k + 1)) (bits / 4 ^ (k + 1)) = R := by
  rw [div4, ← hp, fall_step h hk]
theorem readL_take {since : List (Nat × ByteArray)} {r a c : Nat} {s s0 : ByteArray} (h : since[r]? = some (a, s)) : readL s0 c (since.take (r + 1)) = if a = c then s else readL s0 c (since.take r) := by
  rw [take_snoc' h, readL_snoc]
def refR (lv bv : Int) : Option (Nat × Int) → Prop
  | none => lv = -1
  | some (n, b) => lv = (n : Int) ∧ bv = b

/-- What is done to the disk. -/
def opD (d : DS) (o : OpR) : DS :=
  if o.kind = 0 then (d.write o.at_ (filled o.b o.more)).2 else if o.kind = 1 then d.sync.2 else if o.kind = 2 then d else if o.kind = 3 then (d.cutTo o.at_ o.bits).2 else if o.kind = 4 then (d.crash o.bits).2 else d.start.2
theorem may_len (d : DS) : d.may.2.since.length ≤ d.since.length ∧ d.may.2.count = d.count ∧ d.may.2.secs.length = d.secs.length := by
  unfold DS.may
  split
  · exact ⟨Nat.le_refl _, rfl, rfl⟩
  · exact ⟨Nat.zero_le _, rfl, fallL_len _ _ _⟩
  · exact ⟨Nat.le_refl _, rfl, rfl⟩
structure OpI (d : DS) (n k : Nat) : Prop where
  wf : WF d
  secs : d.secs.length = n
  since : d.since.length ≤ k
  count : d.count ≤ k
theorem OpI.new {n : Nat} (h : n ≤ 4096) : OpI (DS.new n) n 0 := ⟨WF.new h, by simp [DS.new], Nat.zero_le _, Nat.zero_le _⟩
theorem OpI.opD {d : DS} {n k : Nat} (h : OpI d n k) (o : OpR) (hb : o.at_ ≤ 9223372036854775807) : OpI (opD d o) n (k + 1) := by
  have hm := may_len d
  have h1 := h.since; have h2 := h.count; have h3 := h.secs
  unfold Go.Dk.opD
  split
  · refine ⟨h.wf.write _ _, ?_, ?_, ?_⟩ <;> (unfold DS.write; split; · (simp only; omega)) <;> (split; · (simp only; omega)) <;> (unfold DS.doW; split <;> rename_i e <;> (have e2 := congrArg Prod.snd e; simp only at e2; rw [e2] at hm; simp only [List.length_append, List.length_singleton]; omega))
  split
  · refine ⟨h.wf.sync, ?_, ?_, ?_⟩ <;> (unfold DS.sync; split; · (simp only; omega)) <;> (unfold DS.doS; split <;> rename_i e <;> (have e2 := congrArg Prod.snd e; simp only at e2; rw [e2] at hm; simp only [syncL_len, List.length_nil]; omega))
  split
  · exact ⟨h.wf, h3, by omega, by omega⟩
  split
  · refine ⟨h.wf.cutTo _ _ hb, ?_, ?_, ?_⟩ <;> (unfold DS.cutTo; split; · (simp only; omega)) <;> (split <;> (simp only; omega))
  split
  · refine ⟨h.wf.crash _, ?_, ?_, ?_⟩ <;> (unfold DS.crash; split <;> simp only [DS.fall, fallL_len, List.length_nil] <;> omega)
  · refine ⟨h.wf.start, ?_, ?_, ?_⟩ <;> (unfold DS.start; split <;> (simp only; omega))

/-! ### What is so of whoever does something at all -/
def alA : ByteArray := filled 97 0
def alB : ByteArray := filled 98 0
def al1 : DS := ((DS.new 2).write 0 (filled 97 0)).2
def al2 : DS := al1.sync.2
def al3 : DS := (al2.write 0 (filled 98 0)).2
def al4 : DS := (al3.crash 2).2
def al5 : DS := al4.start.2
def alR : ByteArray := (filled 98 0).extract 0 32 ++ (filled 97 0).extract 32 (filled 97 0).size
theorem alw1 : ((DS.new 2).write 0 (filled 97 0)).1 = 0 := by kernel_rfl
theorem alw2 : al1.sync.1 = 0 := by kernel_rfl
theorem alw3 : (al2.write 0 (filled 98 0)).1 = 0 := by kernel_rfl
theorem alw4 : (al3.crash 2).1 = 0 := by kernel_rfl
theorem alw5 : al4.start.1 = 0 := by kernel_rfl
theorem alr : al5.read 0 = (alR, 0) := by kernel_rfl
theorem alwf0 : WF (DS.new 2) := WF.new (by decide)
theorem alwf1 : WF al1 := alwf0.write _ _
theorem alwf2 : WF al2 := alwf1.sync
theorem alwf3 : WF al3 := alwf2.write _ _
theorem als1 : al1.since.length = 1 := by kernel_rfl
theorem als2 : al2.since.length = 0 := by kernel_rfl
theorem als5 : al5.since.length = 0 := by kernel_rfl
theorem alc1 : al1.count = 1 := by kernel_rfl
theorem alc2 : al2.count = 2 := by kernel_rfl
theorem alc5 : al5.count = 3 := by kernel_rfl
theorem alsz (b : Nat) : (filled b 0).size = 64 := by
  have h : filledN 0 = 64 := by kernel_rfl
  simp [filled, h, filledL, ByteArray.size]
end Go.Dk
