/- A part of the proof. -/
import Derived.Test.YtjnejkdamhefgaaGreatDoorDkM
import Derived.Lib.Strings
import Derived.Lib.SmallJoins
namespace Go.Dk
open Go Go.SL
def beyondF : Int → List Int → Bool
 | _, [] => false
 | acc, x :: r => if x < 0 ∨ x > 262144 then true else if acc + x > 262144 then true else beyondF (acc + x) r
def beyondB (l : List Int) : Bool := beyondF 0 l
theorem beyond_step {acc x : Int} {l : List Int} {k : Nat} (h : l[k]? = some x) : beyondF acc (l.drop k) = if x < 0 ∨ x > 262144 then true else if acc + x > 262144 then true else beyondF (acc + x) (l.drop (k + 1)) := by
 obtain ⟨hl, he⟩ := List.getElem?_eq_some_iff.1 h
 rw [List.drop_eq_getElem_cons hl, he]
 rfl
theorem beyond_le : ∀ {l : List Int} {acc : Int}, beyondF acc l = false → ∀ x ∈ l, 0 ≤ x ∧ x ≤ 262144 := by
  intro l
  induction l with
  | nil => intro _ _ x hx; cases hx
  | cons y r ih =>
    intro acc h x hx
    unfold beyondF at h
    split at h
    · cases h
    · split at h
      · cases h
      · rcases List.mem_cons.1 hx with rfl | hx
        · omega
        · exact ih h x hx
theorem beyond_one {n : Nat} (h : beyondB [(n : Int)] = false) : n ≤ 262144 := by have := beyond_le h n (by simp); omega
theorem beyond_two {n m : Nat} (h : beyondB [(n : Int), (m : Int)] = false) : n ≤ 262144 ∧ m ≤ 262144 := by
 have h1 := beyond_le h n (by simp); have h2 := beyond_le h m (by simp); omega
def good (n : Nat) (q : Int × ByteArray) : Option (Nat × ByteArray) := if 0 ≤ q.1 ∧ q.1 < n ∧ q.2.size = 64 then some (q.1.toNat, q.2) else none
def goods (n : Nat) (l : List (Int × ByteArray)) : List (Nat × ByteArray) := l.filterMap (good n)
def upD (secs : List ByteArray) (since : List (Nat × ByteArray)) (c : Nat) : DS := ⟨secs, since, false, c, none⟩
def wr (n : Nat) (l : List (Int × ByteArray)) : DS := upD (List.replicate n noughts) (goods n l) (goods n l).length
theorem take_snoc' {α : Type} {l : List α} {k : Nat} {q : α} (h : l[k]? = some q) : l.take (k + 1) = l.take k ++ [q] := by
 obtain ⟨hl, he⟩ := List.getElem?_eq_some_iff.1 h
 rw [List.take_succ_eq_append_getElem hl, he]
theorem noughts_size : noughts.size = 64 := by simp [noughts, ByteArray.size]
def lo (s : ByteArray) : ByteArray := s.extract 0 32
def hi (s : ByteArray) : ByteArray := s.extract 32 s.size
theorem ext_data {s u : ByteArray} (h : s.data.toList = u.data.toList) : s = u := by cases s; cases u; congr 1; exact Array.ext' h
theorem lo_cat {s u : ByteArray} (hs : s.size = 64) : lo (s.extract 0 32 ++ u) = lo s := by
 apply ext_data
 have hl : s.data.toList.length = 64 := by simpa using hs
 simp only [lo, Lib.extract_data, Joins.data_append]
 simp [hl]
theorem torn_lo {old s : ByteArray} (k : Int) (h1 : old.size = 64) (h2 : s.size = 64) : lo (torn old s k) = lo old ∨ lo (torn old s k) = lo s := by
 unfold torn
 split; · exact .inl rfl
 split; · exact .inr rfl
 split; · exact .inr (lo_cat h2)
 exact .inl (lo_cat h1)
theorem getD_set {l : List ByteArray} {i j : Nat} {x d : ByteArray} (hi' : i < l.length) : (l.set i x).getD j d = if i = j then x else l.getD j d := by
 simp only [List.getD_eq_getElem?_getD, List.getElem?_set]
 split
 · rfl
 · rfl
def Half (f : ByteArray → ByteArray) (s : ByteArray) (i : Nat) (l : List (Int × ByteArray)) : Prop := f s = f noughts ∨ ∃ q ∈ l, q.1 = (i : Int) ∧ (q.2.size : Int) = 64 ∧ f s = f q.2
theorem Half.snoc {f : ByteArray → ByteArray} {s : ByteArray} {i k : Nat} {l : List (Int × ByteArray)} {q : Int × ByteArray} (h : l[k]? = some q) :
    Half f s i (l.take (k + 1)) ↔ (Half f s i (l.take k) ∨ (q.1 = (i : Int) ∧ (q.2.size : Int) = 64 ∧ f s = f q.2)) := by
  rw [take_snoc' h]
  simp only [Half, List.mem_append, List.mem_singleton]
  constructor
  · rintro (h | ⟨p, hp | hp, h⟩)
    · exact .inl (.inl h)
    · exact .inl (.inr ⟨p, hp, h⟩)
    · rw [hp] at h; exact .inr h
  · rintro ((h | ⟨p, hp, h⟩) | h)
    · exact .inl h
    · exact .inr ⟨p, .inl hp, h⟩
    · exact .inr ⟨q, .inr rfl, h⟩
theorem Half.old {f : ByteArray → ByteArray} {s : ByteArray} {i k : Nat} {l : List (Int × ByteArray)} {q : Int × ByteArray} (h : l[k]? = some q) (ha : true = true ↔ Half f s i (l.take k)) : true = true ↔ Half f s i (l.take (k + 1)) :=
 ⟨fun _ => (Half.snoc h).2 (.inl (ha.1 rfl)), fun _ => rfl⟩
theorem Half.new {f : ByteArray → ByteArray} {s : ByteArray} {i k : Nat} {l : List (Int × ByteArray)} {q : Int × ByteArray} (h : l[k]? = some q) (h1 : q.1 = (i : Int)) (h2 : (q.2.size : Int) = 64) (h3 : f s = f q.2) : true = true ↔ Half f s i (l.take (k + 1)) :=
 ⟨fun _ => (Half.snoc h).2 (.inr ⟨h1, h2, h3⟩), fun _ => rfl⟩
theorem Half.none {f : ByteArray → ByteArray} {s : ByteArray} {i k : Nat} {l : List (Int × ByteArray)} {q : Int × ByteArray} (h : l[k]? = some q) (ha : false = true ↔ Half f s i (l.take k)) (hn : ¬ (q.1 = (i : Int) ∧ (q.2.size : Int) = 64 ∧ f s = f q.2)) : false = true ↔ Half f s i (l.take (k + 1)) :=
 ⟨fun h => (by cases h), fun h' => ((Half.snoc h).1 h').elim ha.2 (fun h => absurd h hn)⟩
def rsL (R : Nat → ByteArray) (i : Nat) : List Value := (List.range i).map fun j => Value.string (R j)
theorem rs_succ (R : Nat → ByteArray) (i : Nat) : rsL R (i + 1) = rsL R i ++ [Value.string (R i)] := by simp [rsL, List.range_succ]
theorem wf_syncL : ∀ (ws : List (Nat × ByteArray)) (S : List ByteArray), S.length ≤ 4096 → (∀ s ∈ S, s.size = 64) → (∀ p ∈ ws, p.2.size = 64) → WFl (syncL S ws) []
 | [], S, h1, h2, _ => ⟨h1, h2, fun _ h => (by cases h), fun _ h => (by cases h)⟩
 | p :: r, S, h1, h2, h3 => wf_syncL r (S.set p.1 p.2) (by simpa using h1) (fun s hs => by
   rcases List.mem_or_eq_of_mem_set hs with hs | hs
   · exact h2 s hs
   · rw [hs]; exact h3 p List.mem_cons_self) (fun q hq => h3 q (List.mem_cons_of_mem _ hq))
theorem syncL_getD : ∀ (ws : List (Nat × ByteArray)) (S : List ByteArray) (i : Nat), (∀ p ∈ ws, p.1 < S.length) → (syncL S ws).getD i default = readL (S.getD i default) i ws
 | [], _, _, _ => rfl
 | p :: r, S, i, h => by
  rw [syncL, readL, syncL_getD r _ i (fun q hq => by simpa using h q (List.mem_cons_of_mem _ hq)), getD_set (h p List.mem_cons_self)]
structure Ap (n : Nat) (S : List ByteArray) (G : List (Nat × ByteArray)) (Wl : List ByteArray) : Prop where
 len : S.length = n
 wf : WFl S G
 wl : Wl.length = n
 rd : ∀ i, i < n → readL (S.getD i default) i G = Wl.getD i default
theorem Ap.start {n : Nat} (h : n ≤ 4096) : Ap n (List.replicate n noughts) [] (List.replicate n noughts) :=
 ⟨by simp, ⟨by simpa using h, fun s hs => by rw [(List.mem_replicate.1 hs).2]; exact noughts_size, fun _ h => (by cases h), fun _ h => (by cases h)⟩, by simp, fun _ _ => rfl⟩
theorem Ap.sync {n : Nat} {S : List ByteArray} {G : List (Nat × ByteArray)} {Wl : List ByteArray} (h : Ap n S G Wl) : Ap n (syncL S G) [] Wl :=
 ⟨by rw [syncL_len]; exact h.len, wf_syncL _ _ h.wf.len h.wf.size h.wf.size', h.wl, fun i hi => by show (syncL S G).getD i default = _; rw [syncL_getD _ _ _ h.wf.at_]; exact h.rd i hi⟩
theorem readL_snoc (i a : Nat) (s : ByteArray) : ∀ (G : List (Nat × ByteArray)) (s0 : ByteArray), readL s0 i (G ++ [(a, s)]) = if a = i then s else readL s0 i G
 | [], _ => rfl
 | p :: r, s0 => by rw [List.cons_append, readL, readL_snoc i a s r]; rfl
theorem Ap.write {n a : Nat} {S : List ByteArray} {G : List (Nat × ByteArray)} {Wl : List ByteArray} {s : ByteArray} (h : Ap n S G Wl) (ha : a < n) (hs : s.size = 64) : Ap n S (G ++ [(a, s)]) (Wl.set a s) := by
  refine ⟨h.len, ⟨h.wf.len, h.wf.size, fun p hp => ?_, fun p hp => ?_⟩, by simpa using h.wl, fun i hi => ?_⟩
  · rcases List.mem_append.1 hp with hp | hp
    · exact h.wf.at_ p hp
    · rw [List.mem_singleton.1 hp, h.len]; exact ha
  · rcases List.mem_append.1 hp with hp | hp
    · exact h.wf.size' p hp
    · rw [List.mem_singleton.1 hp]; exact hs
  · rw [readL_snoc, getD_set (by rw [h.wl]; exact ha)]
    split
    · rfl
    · exact h.rd i hi
theorem rs_const {r n : Nat} (h : r = n) : rsL (fun _ => noughts) r = (List.replicate n noughts).map Value.string := by
 subst h
 simp only [rsL, List.map_const', List.length_range, List.map_replicate]
theorem splice_one {Wl : List ByteArray} {a : Nat} {s : ByteArray} (h : a < Wl.length) : splice (Wl.map Value.string) a [Vs s] = (Wl.set a s).map Value.string := by
 rw [splice, List.map_set, List.set_eq_take_append_cons_drop, if_pos (by simpa using h)]
 simp
structure OpR where
 kind : Int
 at_ : Int
 b : Nat
 more : Int
 bits : Int
structure CutI (S : List ByteArray) (G : List (Nat × ByteArray)) (k : Nat) : Prop where
 len : S.length = 4
 wf : WFl S G
 since : G.length ≤ k
theorem CutI.start : CutI (List.replicate 4 noughts) [] 0 := ⟨by simp, ⟨by simp, fun s hs => by rw [(List.mem_replicate.1 hs).2]; exact noughts_size, fun _ h => (by cases h), fun _ h => (by cases h)⟩, by simp⟩
theorem shr4 {b : Int} {k : Nat} (h : k < 31) : b.fdiv (2 ^ min (Int.toNat ((2 * k : Nat) : Int)) IntKind.i64.bits) = b / 4 ^ k := by
 rw [show min (Int.toNat ((2 * k : Nat) : Int)) IntKind.i64.bits = 2 * k from by simp only [Int.toNat_natCast, IntKind.bits]; omega, Int.pow_mul]
 exact Int.fdiv_eq_ediv_of_nonneg _ (Int.le_of_lt (Int.pow_pos (by decide)))
theorem div4 (b : Int) (k : Nat) : b / 4 ^ (k + 1) = b / 4 ^ k / 4 := by
 rw [Int.pow_succ, Int.ediv_ediv_of_nonneg (Int.le_of_lt (Int.pow_pos (by decide)))]
theorem fall_pow {ss : List ByteArray} {since : List (Nat × ByteArray)} {k a : Nat} {s : ByteArray} {bits : Int} {R : List ByteArray} (h : since[k]? = some (a, s)) (hk : k < 31) (hp : fallL ss ((since.take 31).drop k) (bits / 4 ^ k) = R) :
  fallL (ss.set a (torn (ss.getD a default) s (bits / 4 ^ k % 4))) ((since.take 31).drop (k + 1)) (bits / 4 ^ (k + 1)) = R := by
 rw [div4, ← hp, fall_step h hk]
theorem readL_take {since : List (Nat × ByteArray)} {r a c : Nat} {s s0 : ByteArray} (h : since[r]? = some (a, s)) : readL s0 c (since.take (r + 1)) = if a = c then s else readL s0 c (since.take r) := by
 rw [take_snoc' h, readL_snoc]
def refR (lv bv : Int) : Option (Nat × Int) → Prop
 | none => lv = -1
 | some (n, b) => lv = (n : Int) ∧ bv = b
def opD (d : DS) (o : OpR) : DS :=
 if o.kind = 0 then (d.write o.at_ (filled o.b o.more)).2 else if o.kind = 1 then d.sync.2 else if o.kind = 2 then d else if o.kind = 3 then (d.cutTo o.at_ o.bits).2 else if o.kind = 4 then (d.crash o.bits).2 else d.start.2
theorem may_len (d : DS) : d.may.2.since.length ≤ d.since.length ∧ d.may.2.count = d.count ∧ d.may.2.secs.length = d.secs.length := by
 unfold DS.may
 split
 · exact ⟨Nat.le_refl _, rfl, rfl⟩
 · exact ⟨Nat.zero_le _, rfl, fallL_len _ _ _⟩
 · exact ⟨Nat.le_refl _, rfl, rfl⟩
structure OpI (d : DS) (n k : Nat) : Prop where
 wf : WF d
 secs : d.secs.length = n
 since : d.since.length ≤ k
 count : d.count ≤ k
theorem OpI.new {n : Nat} (h : n ≤ 4096) : OpI (DS.new n) n 0 := ⟨WF.new h, by simp [DS.new], Nat.zero_le _, Nat.zero_le _⟩
theorem OpI.opD {d : DS} {n k : Nat} (h : OpI d n k) (o : OpR) (hb : o.at_ ≤ 9223372036854775807) : OpI (opD d o) n (k + 1) := by
 have hm := may_len d
 have h1 := h.since; have h2 := h.count; have h3 := h.secs
 unfold Go.Dk.opD
 split
 · refine ⟨h.wf.write _ _, ?_, ?_, ?_⟩ <;> (unfold DS.write; split; · (simp only; omega)) <;> (split; · (simp only; omega)) <;> (unfold DS.doW; split <;> rename_i e <;> (have e2 := congrArg Prod.snd e; simp only at e2; rw [e2] at hm; simp only [List.length_append, List.length_singleton]; omega))
 split
 · refine ⟨h.wf.sync, ?_, ?_, ?_⟩ <;> (unfold DS.sync; split; · (simp only; omega)) <;> (unfold DS.doS; split <;> rename_i e <;> (have e2 := congrArg Prod.snd e; simp only at e2; rw [e2] at hm; simp only [syncL_len, List.length_nil]; omega))
 split
 · exact ⟨h.wf, h3, by omega, by omega⟩
 split
 · refine ⟨h.wf.cutTo _ _ hb, ?_, ?_, ?_⟩ <;> (unfold DS.cutTo; split; · (simp only; omega)) <;> (split <;> (simp only; omega))
 split
 · refine ⟨h.wf.crash _, ?_, ?_, ?_⟩ <;> (unfold DS.crash; split <;> simp only [DS.fall, fallL_len, List.length_nil] <;> omega)
 · refine ⟨h.wf.start, ?_, ?_, ?_⟩ <;> (unfold DS.start; split <;> (simp only; omega))
end Go.Dk
