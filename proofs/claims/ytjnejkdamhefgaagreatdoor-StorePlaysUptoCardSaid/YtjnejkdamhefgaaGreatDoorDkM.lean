/- A part of the proof. -/
import Derived.Test.YtjnejkdamhefgaaGreatDoorSLR
namespace Go.Dk
open Go Go.SL
structure DS where
 secs : List ByteArray
 since : List (Nat × ByteArray)
 down : Bool
 count : Nat
 cut : Option (Nat × Int)
def torn (old s : ByteArray) (k : Int) : ByteArray :=
 if k = 0 then old else if k = 1 then s else if k = 2 then s.extract 0 32 ++ old.extract 32 old.size else old.extract 0 32 ++ s.extract 32 s.size
def fallL : List ByteArray → List (Nat × ByteArray) → Int → List ByteArray
 | secs, [], _ => secs
 | secs, p :: r, bits => fallL (secs.set p.1 (torn (secs.getD p.1 default) p.2 (bits % 4))) r (bits / 4)
def DS.fall (d : DS) (bits : Int) : DS := { d with secs := fallL d.secs (d.since.take 31) bits, since := [], down := true, cut := none }
def DS.may (d : DS) : Bool × DS :=
 match d.cut with
 | none => (true, d)
 | some (0, bits) => (false, d.fall bits)
 | some (n + 1, bits) => (true, { d with cut := some (n, bits) })
def syncL : List ByteArray → List (Nat × ByteArray) → List ByteArray
 | secs, [] => secs
 | secs, p :: r => syncL (secs.set p.1 p.2) r
def DS.doW (d : DS) (a : Nat) (s : ByteArray) : Int × DS :=
 match d.may with
 | (false, d') => (6, d')
 | (true, d') => (0, { d' with count := d'.count + 1, since := d'.since ++ [(a, s)] })
def DS.doS (d : DS) : Int × DS :=
 match d.may with
 | (false, d') => (6, d')
 | (true, d') => (0, { d' with count := d'.count + 1, secs := syncL d'.secs d'.since, since := [] })
def noughts : ByteArray := ⟨(List.replicate 64 (0 : UInt8)).toArray⟩
def DS.new (n : Nat) : DS := ⟨List.replicate n noughts, [], false, 0, none⟩
def DS.bad (d : DS) (a : Int) : Prop := a < 0 ∨ (d.secs.length : Int) ≤ a
instance (d : DS) (a : Int) : Decidable (d.bad a) := inferInstanceAs (Decidable (_ ∨ _))
def DS.write (d : DS) (a : Int) (s : ByteArray) : Int × DS :=
 if d.down = true then (6, d) else if d.bad a ∨ s.size ≠ 64 then (1, d) else d.doW a.toNat s
def DS.sync (d : DS) : Int × DS := if d.down = true then (6, d) else d.doS
theorem write_bad {d : DS} {a : Int} {s : ByteArray} (hd : d.down = false) (h : a < 0 ∨ a ≥ (d.secs.length : Int) ∨ ¬ (s.size : Int) = 64) : d.write a s = (1, d) := by
 unfold DS.write
 rw [if_neg (by simp [hd]), if_pos]
 rcases h with h | h | h
 · exact .inl (.inl h)
 · exact .inl (.inr h)
 · exact .inr (by omega)
theorem write_ok {d : DS} {a : Nat} {s : ByteArray} (hd : d.down = false) (h1 : ¬ (a : Int) ≥ (d.secs.length : Int)) (h2 : (s.size : Int) = 64) : d.write a s = d.doW a s := by
 unfold DS.write
 rw [if_neg (by simp [hd]), if_neg]
 · rfl
 · rintro ((h | h) | h) <;> omega
def readL (s0 : ByteArray) (a : Nat) : List (Nat × ByteArray) → ByteArray
 | [] => s0
 | p :: r => readL (if p.1 = a then p.2 else s0) a r
def DS.read (d : DS) (a : Int) : ByteArray × Int :=
 if d.down = true then (ByteArray.empty, 6) else if d.bad a then (ByteArray.empty, 1) else (readL (d.secs.getD a.toNat default) a.toNat d.since, 0)
theorem read_bad {d : DS} {a : Int} (hd : d.down = false) (h : a < 0 ∨ a ≥ (d.secs.length : Int)) : d.read a = (ByteArray.empty, 1) := by
 unfold DS.read
 rw [if_neg (by simp [hd]), if_pos]
 rcases h with h | h
 · exact .inl h
 · exact .inr h
theorem read_ok {d : DS} {a : Nat} (hd : d.down = false) (h1 : ¬ (a : Int) ≥ (d.secs.length : Int)) : d.read a = (readL (d.secs.getD a default) a d.since, 0) := by
 unfold DS.read
 rw [if_neg (by simp [hd]), if_neg]
 · rfl
 · rintro (h | h) <;> omega
def DS.cutTo (d : DS) (n : Int) (bits : Int) : Int × DS :=
 if d.down = true then (6, d) else if n < 0 then (1, d) else (0, { d with cut := some (n.toNat, bits) })
def DS.crash (d : DS) (bits : Int) : Int × DS := if d.down = true then (6, d) else (0, d.fall bits)
def DS.start (d : DS) : Int × DS := if d.down = true then (0, { d with down := false }) else (8, d)
theorem torn_size0 {old s : ByteArray} (k : Int) (h1 : old.size = 64) (h2 : s.size = 64) : (torn old s k).size = 64 := by
 unfold torn
 repeat' split
 all_goals simp [ByteArray.size_append, ByteArray.size_extract, h1, h2]
theorem fallL_len : ∀ (l : List (Nat × ByteArray)) (ss : List ByteArray) (b : Int), (fallL ss l b).length = ss.length
 | [], _, _ => rfl
 | p :: r, ss, b => by rw [fallL, fallL_len r]; simp
theorem syncL_len : ∀ (l : List (Nat × ByteArray)) (ss : List ByteArray), (syncL ss l).length = ss.length
 | [], _ => rfl
 | p :: r, ss => by rw [syncL, syncL_len r]; simp
structure WFl (secs : List ByteArray) (since : List (Nat × ByteArray)) : Prop where
 len : secs.length ≤ 4096
 size : ∀ s ∈ secs, s.size = 64
 at_ : ∀ p ∈ since, p.1 < secs.length
 size' : ∀ p ∈ since, p.2.size = 64
structure WF (d : DS) : Prop where
 l : WFl d.secs d.since
 left : ∀ n b, d.cut = some (n, b) → n ≤ 9223372036854775807
def sv (s : ByteArray) : Value := .string s
def flat (l : List (Nat × ByteArray)) : List Value := l.flatMap fun p => [.int .i64 (p.1 : Int), .string p.2]
theorem WFl.sync {secs : List ByteArray} {since : List (Nat × ByteArray)} (h : WFl secs since) : ∀ (l : List (Nat × ByteArray)) (ss : List ByteArray), (∀ p ∈ l, p.2.size = 64) → (∀ s ∈ ss, s.size = 64) → ∀ s ∈ syncL ss l, s.size = 64
 | [], _, _, h2 => h2
 | p :: r, ss, h1, h2 => WFl.sync h r _ (fun q hq => h1 q (List.mem_cons_of_mem _ hq)) (fun s hs => by
   rcases List.mem_or_eq_of_mem_set hs with hs | hs
   · exact h2 s hs
   · rw [hs]; exact h1 p List.mem_cons_self)
theorem WFl.fallen {secs : List ByteArray} : ∀ (l : List (Nat × ByteArray)) (ss : List ByteArray) (b : Int), ss.length = secs.length → (∀ p ∈ l, p.1 < secs.length ∧ p.2.size = 64) → (∀ s ∈ ss, s.size = 64) → ∀ s ∈ fallL ss l b, s.size = 64
  | [], _, _, _, _, h2 => h2
  | p :: r, ss, b, hl, h1, h2 => WFl.fallen (secs := secs) r _ (b / 4) (by simpa using hl) (fun q hq => h1 q (List.mem_cons_of_mem _ hq)) (fun s hs => by
      rcases List.mem_or_eq_of_mem_set hs with hs | hs
      · exact h2 s hs
      · have hp := h1 p List.mem_cons_self
        rw [hs]
        exact torn_size0 _ (by rw [List.getD_eq_getElem?_getD, List.getElem?_eq_getElem (by rw [hl]; exact hp.1)]; exact h2 _ (List.getElem_mem _)) hp.2)
theorem WF.new {n : Nat} (hn : n ≤ 4096) : WF (DS.new n) :=
 ⟨⟨by simpa [DS.new] using hn, fun s hs => by rw [(List.mem_replicate.1 hs).2]; simp [noughts, ByteArray.size], (fun p hp => by cases hp), (fun p hp => by cases hp)⟩, fun _ _ h => by cases h⟩
theorem WF.fall {d : DS} (h : WF d) (b : Int) : WF (d.fall b) :=
 ⟨⟨by simpa [DS.fall, fallL_len] using h.l.len, WFl.fallen (secs := d.secs) _ _ _ rfl (fun p hp => ⟨h.l.at_ p (List.mem_of_mem_take hp), h.l.size' p (List.mem_of_mem_take hp)⟩) h.l.size, (fun p hp => by cases hp), (fun p hp => by cases hp)⟩, fun _ _ h => by cases h⟩
theorem WF.may {d : DS} (h : WF d) : WF d.may.2 := by
 unfold DS.may
 split
 · exact h
 · exact h.fall _
 · rename_i n b hc; exact ⟨h.l, fun n' b' hc' => by simp at hc'; have := h.left _ _ hc; omega⟩
theorem may_same {d : DS} (h : d.may.1 = true) : d.may.2.secs = d.secs ∧ d.may.2.since = d.since ∧ d.may.2.down = d.down ∧ d.may.2.count = d.count := by
 unfold DS.may at *
 split at h <;> first | exact ⟨rfl, rfl, rfl, rfl⟩ | cases h
theorem WF.write {d : DS} (h : WF d) (a : Int) (s : ByteArray) : WF (d.write a s).2 := by
  unfold DS.write
  split; · exact h
  split; · exact h
  rename_i hb
  have hm := h.may
  unfold DS.doW
  split
  · rename_i d' hd; rw [hd] at hm; exact hm
  · rename_i d' hd
    have hs := may_same (d := d) (by rw [hd])
    rw [hd] at hm hs
    refine ⟨⟨hm.l.len, hm.l.size, fun p hp => ?_, fun p hp => ?_⟩, hm.left⟩
    · rcases List.mem_append.1 hp with hp | hp
      · exact hm.l.at_ p hp
      · rw [List.mem_singleton.1 hp]
        show a.toNat < d'.secs.length
        have h1 : d'.secs = d.secs := hs.1
        rw [h1]
        unfold DS.bad at hb
        have : ¬ (a < 0) ∧ ¬ ((d.secs.length : Int) ≤ a) := ⟨fun h => hb (.inl (.inl h)), fun h => hb (.inl (.inr h))⟩
        omega
    · rcases List.mem_append.1 hp with hp | hp
      · exact hm.l.size' p hp
      · rw [List.mem_singleton.1 hp]
        exact Classical.byContradiction fun hne => hb (.inr hne)
theorem WF.sync {d : DS} (h : WF d) : WF d.sync.2 := by
  unfold DS.sync
  split; · exact h
  have hm := h.may
  unfold DS.doS
  split
  · rename_i d' hd; rw [hd] at hm; exact hm
  · rename_i d' hd; rw [hd] at hm
    exact ⟨⟨by simpa [syncL_len] using hm.l.len, WFl.sync hm.l _ _ hm.l.size' hm.l.size, (fun p hp => by cases hp), (fun p hp => by cases hp)⟩, hm.left⟩
theorem WF.crash {d : DS} (h : WF d) (b : Int) : WF (d.crash b).2 := by
 unfold DS.crash; split; · exact h
 exact h.fall b
theorem WF.start {d : DS} (h : WF d) : WF d.start.2 := by
 unfold DS.start; split
 · exact ⟨⟨h.l.len, h.l.size, h.l.at_, h.l.size'⟩, h.left⟩
 · exact h
theorem WF.cutTo {d : DS} (h : WF d) (n b : Int) (hn : n ≤ 9223372036854775807) : WF (d.cutTo n b).2 := by
 unfold DS.cutTo; split; · exact h
 split; · exact h
 exact ⟨⟨h.l.len, h.l.size, h.l.at_, h.l.size'⟩, fun n' b' hc => by simp at hc; omega⟩
theorem flat_get {l : List (Nat × ByteArray)} : ∀ {i : Nat} {p : Nat × ByteArray}, l[i]? = some p → (flat l)[i * 2]? = some (.int .i64 (p.1 : Int)) ∧ (flat l)[i * 2 + 1]? = some (.string p.2) := by
 induction l with
 | nil => intro i p h; simp at h
 | cons q l ih =>
  intro i p h
  cases i with
  | zero => simp at h; subst h; simp [flat]
  | succ i =>
   have := ih (i := i) (by simpa using h)
   simp only [flat, List.flatMap_cons] at *
   rw [show (i + 1) * 2 = i * 2 + 2 from by omega]
   simpa using this
theorem map_get {α : Type} {f : α → Value} {l : List α} {i : Nat} {d : α} (h : i < l.length) : (l.map f)[i]? = some (f (l.getD i d)) := by
 simp [h, List.getD]
theorem torn_size {old s : ByteArray} (k : Int) (h1 : old.size = 64) (h2 : s.size = 64) : (torn old s k).size = 64 := by
 unfold torn
 repeat' split
 all_goals simp [ByteArray.size_append, ByteArray.size_extract, h1, h2]
theorem fallL_length : ∀ (l : List (Nat × ByteArray)) (ss : List ByteArray) (b : Int), (fallL ss l b).length = ss.length
 | [], _, _ => rfl
 | p :: r, ss, b => by rw [fallL, fallL_length r]; simp
theorem syncL_length : ∀ (l : List (Nat × ByteArray)) (ss : List ByteArray), (syncL ss l).length = ss.length
 | [], _ => rfl
 | p :: r, ss => by rw [syncL, syncL_length r]; simp
theorem fall_step {ss : List ByteArray} {since : List (Nat × ByteArray)} {k a : Nat} {s : ByteArray} {bb : Int} (h : since[k]? = some (a, s)) (hk : k < 31) :
  fallL ss ((since.take 31).drop k) bb = fallL (ss.set a (torn (ss.getD a default) s (bb % 4))) ((since.take 31).drop (k + 1)) (bb / 4) := by
 have h2 : (since.take 31)[k]? = some (a, s) := by rw [List.getElem?_take, if_pos hk]; exact h
 obtain ⟨hl, he⟩ := List.getElem?_eq_some_iff.1 h2
 rw [List.drop_eq_getElem_cons hl, he]
 rfl
theorem sync_step {ss : List ByteArray} {since : List (Nat × ByteArray)} {k a : Nat} {s : ByteArray} (h : since[k]? = some (a, s)) :
  syncL ss (since.drop k) = syncL (ss.set a s) (since.drop (k + 1)) := by
 obtain ⟨hl, he⟩ := List.getElem?_eq_some_iff.1 h
 rw [List.drop_eq_getElem_cons hl, he]
 rfl
theorem read_step {x : ByteArray} {since : List (Nat × ByteArray)} {k a c : Nat} {s : ByteArray} (h : since[k]? = some (a, s)) :
  readL x c (since.drop k) = readL (if a = c then s else x) c (since.drop (k + 1)) := by
 obtain ⟨hl, he⟩ := List.getElem?_eq_some_iff.1 h
 rw [List.drop_eq_getElem_cons hl, he]
 rfl
theorem made_list (v : Value) (n : Nat) : (madeCells #[v] n).toList = List.replicate n v := by
 apply List.ext_getElem
 · simp [madeCells]
 · intro i h1 h2; simp [madeCells, Nat.mod_one]
theorem made_texts (s : ByteArray) (n : Nat) : (madeCells (Value.string s).cells (n * 1)).toList = (List.replicate n s).map Value.string := by
 show (madeCells #[Value.string s] (n * 1)).toList = _
 rw [made_list, Nat.mul_one, List.map_replicate]
abbrev byteV (c : UInt8) : Value := .int .u8 (c.toNat : Int)
theorem made_bytes (n : Nat) : (madeCells (Value.int .u8 0).cells (n * 1)).toList = (List.replicate n (0 : UInt8)).map byteV := by
 show (madeCells #[Value.int .u8 0] (n * 1)).toList = _
 rw [made_list, Nat.mul_one, List.map_replicate]; rfl
theorem new_step {n k : Nat} (h : k < n) (x y : ByteArray) : (List.replicate k x ++ List.replicate (n - k) y).set k x = List.replicate (k + 1) x ++ List.replicate (n - (k + 1)) y := by
  apply List.ext_getElem
  · simp; omega
  · intro i h1 h2
    simp only [List.getElem_set, List.getElem_append, List.length_replicate, List.getElem_replicate]
    repeat' split
    all_goals first | rfl | (exfalso; omega)
def filledN (less : Int) : Nat := if IntKind.i64.wrap (64 - less) < 0 ∨ IntKind.i64.wrap (64 - less) > 128 then 0 else (IntKind.i64.wrap (64 - less)).toNat
def fillB (b i : Nat) : UInt8 := UInt8.ofNat (b + i % 2)
def filledL (b n : Nat) : List UInt8 := (List.range n).map (fillB b)
def filled (b : Nat) (less : Int) : ByteArray := ⟨(filledL b (filledN less)).toArray⟩
theorem flat_snoc (l : List (Nat × ByteArray)) (a : Nat) (s : ByteArray) : flat (l ++ [(a, s)]) = flat l ++ [.int .i64 (a : Int), .string s] := by simp [flat]
end Go.Dk
