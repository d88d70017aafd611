/- The document's journal, in plain data. -/
import Derived.Test.YtnhejdnigblnoaaJnL
namespace Go.Jn
open Go Go.SL Go.Dk
set_option linter.unusedVariables false
/-- What the document reads off a head. -/
def rT (s : ByteArray) : Int × Int := match parse s with
 | some p => p
 | none => (-1, 0)
def rG (s : ByteArray) : Int × Int × Bool := ((rT s).1, (rT s).2, decide (0 ≤ (rT s).1))
theorem parse_G (s : ByteArray) : parse s = if (rG s).2.2 = true then some ((rG s).1, (rG s).2.1) else none := by
 unfold rG rT
 cases h : parse s with
 | none => rfl
 | some p =>
  obtain ⟨n, l⟩ := p
  have := parse_nonneg h
  simp only
  rw [if_pos (decide_eq_true this.1)]
theorem openD_G {d : DS} {T : ByteArray → Int × Int × Bool} (hT : ∀ s, parse s = if (T s).2.2 = true then some ((T s).1, (T s).2.1) else none) (hd : d.down = false) (h4 : 4 ≤ d.secs.length) :
    openD d = openT (half d.secs * 64) (T (rd d 0)) (T (rd d 1)) (fun a l => textR (rd d) (first d.secs a) l) := by
  rw [openD, if_neg (by simp [hd]), openR, if_neg (by omega), hT, hT, openT]
  by_cases h0 : (T (rd d 0)).2.2 = true
  · by_cases h1 : (T (rd d 1)).2.2 = true
    · rw [if_pos h0, if_pos h1, if_pos ⟨h0, h1⟩]
    · rw [if_pos h0, if_neg h1, if_neg (fun h => h1 h.2)]
  · rw [if_neg h0, if_neg (show ¬ ((T (rd d 0)).2.2 = true ∧ (T (rd d 1)).2.2 = true) from fun h => h0 h.1)]
theorem rT_rng {s : ByteArray} (h : 0 ≤ (rT s).1) : (rT s).1 ≤ 9223372036854775807 ∧ 0 ≤ (rT s).2 ∧ (rT s).2 < 4294967296 := by
 unfold rT at *
 cases hp : parse s with
 | none => rw [hp] at h; exact absurd h (by decide)
 | some p =>
  obtain ⟨n, l⟩ := p
  rcases parse_some hp with ⟨h1, h2, _⟩ | ⟨h1, h2, h3, h4, _⟩
  · simp only; omega
  · have := h2.2; simp only; omega
theorem rT_low (s : ByteArray) : -1 ≤ (rT s).1 ∧ 0 ≤ (rT s).2 ∧ (rT s).2 < 4294967296 ∧ (rT s).1 ≤ 9223372036854775807 := by
  by_cases h : 0 ≤ (rT s).1
  · have := rT_rng h; omega
  · unfold rT at *
    cases hp : parse s with
    | none => simp only; omega
    | some p => rw [hp] at h; have := parse_nonneg (s := s) (n := p.1) (l := p.2) hp; exact absurd this.1 h
theorem rT_noughts {s : ByteArray} (h : s = noughts) : rT s = (0, 0) := by rw [rT, h, parse_noughts]
theorem rT_head {s : ByteArray} (h : ¬ s = noughts) (h1 : 0 < sNum s) (h2 : s = headB (sNum s) (sLen s)) : rT s = (sNum s, sLen s) := by
 rw [rT, parse, if_neg h, if_pos ⟨h1, h2⟩]
theorem rT_bad {s : ByteArray} (h : ¬ s = noughts) (h1 : ¬ (0 < sNum s ∧ s = headB (sNum s) (sLen s))) : rT s = (-1, 0) := by
 rw [rT, parse, if_neg h, if_neg h1]
theorem str_drop {s : ByteArray} (f : Nat) {i : Nat} (h : f + i < s.size) : ∃ c, s.data.toList[f + i]? = some c ∧ ((s.data.toList.drop f).take (i + 1)) = (s.data.toList.drop f).take i ++ [c] := by
 have hl : f + i < s.data.toList.length := by simpa using h
 refine ⟨_, List.getElem?_eq_getElem hl, ?_⟩
 rw [List.take_succ_eq_append_getElem (by rw [List.length_drop]; omega), List.getElem_drop]
theorem flat_pieces (s : ByteArray) (f i : Nat) : flat (((List.range (i + 1)).map fun i => (f + i, piece s i))) = flat ((List.range i).map fun i => (f + i, piece s i)) ++ [.int .i64 ((f + i : Nat) : Int), .string (piece s i)] := by
 rw [List.range_succ, List.map_append, List.map_singleton, flat_snoc]
theorem write_06 {d : DS} {a : Nat} {s : ByteArray} (ha : a < d.secs.length) (hs : s.size = 64) : (d.write (a : Int) s).1 = 0 ∨ (d.write (a : Int) s).1 = 6 := by
  cases hd : d.down
  · rw [write_ok hd (by omega) (by omega)]
    unfold DS.doW
    rcases d.may with ⟨b, d'⟩
    cases b
    · exact .inr rfl
    · exact .inl rfl
  · right; unfold DS.write; rw [if_pos hd]
theorem sync_06 (d : DS) : d.sync.1 = 0 ∨ d.sync.1 = 6 := by
  unfold DS.sync
  split
  · exact .inr rfl
  · unfold DS.doS
    rcases d.may with ⟨b, d'⟩
    cases b
    · exact .inr rfl
    · exact .inl rfl
theorem is_six {r : Int × DS} (h : r.1 = 0 ∨ r.1 = 6) (h0 : ¬ r.1 = 0) : r = (6, r.2) := Prod.ext (h.resolve_left h0) rfl
theorem is_ok {r : Int × DS} (h0 : r.1 = 0) : r = (0, r.2) := Prod.ext h0 rfl
section
variable {d d1 d2 d3 d4 : DS} {t s : ByteArray} {n c : Int}
theorem jput_big (hd : d.down = false) (hs : half d.secs * 64 < s.size) : (JS.mk t n false).put d s = (5, d, ⟨t, n, false⟩) := by
 rw [JS.put, if_neg (by simp [hd]), if_pos hs]
theorem jput_wall (hd : d.down = false) (hs : ¬ half d.secs * 64 < s.size) (e : wall d (pieces s (first d.secs (n + 1))) = (c, d1)) (hc : ¬ c = 0) : (JS.mk t n false).put d s = (c, d1, ⟨t, n, true⟩) := by
 have h : putD d n s = (c, d1) := by rw [putD, e, if_neg hc]
 rw [JS.put, if_neg (by simp [hd]), if_neg hs, h, if_neg hc]
theorem jput_sync (hd : d.down = false) (hs : ¬ half d.secs * 64 < s.size) (e : wall d (pieces s (first d.secs (n + 1))) = (0, d1)) (e1 : d1.sync = (c, d2)) (hc : ¬ c = 0) : (JS.mk t n false).put d s = (c, d2, ⟨t, n, true⟩) := by
 have h : putD d n s = (c, d2) := by rw [putD, e, if_pos rfl, syncD, e1, if_neg hc]
 rw [JS.put, if_neg (by simp [hd]), if_neg hs, h, if_neg hc]
theorem jput_head (hd : d.down = false) (hs : ¬ half d.secs * 64 < s.size) (e : wall d (pieces s (first d.secs (n + 1))) = (0, d1)) (e1 : d1.sync = (0, d2)) (e2 : d2.write (n % 2) (headB (n + 1) (s.size : Int)) = (c, d3)) (hc : ¬ c = 0) : (JS.mk t n false).put d s = (c, d3, ⟨t, n, true⟩) := by
 have h : putD d n s = (c, d3) := by rw [putD, e, if_pos rfl, syncD, e1, if_pos rfl, headD, e2, if_neg hc]
 rw [JS.put, if_neg (by simp [hd]), if_neg hs, h, if_neg hc]
theorem jput_last (hd : d.down = false) (hs : ¬ half d.secs * 64 < s.size) (e : wall d (pieces s (first d.secs (n + 1))) = (0, d1)) (e1 : d1.sync = (0, d2)) (e2 : d2.write (n % 2) (headB (n + 1) (s.size : Int)) = (0, d3)) (e3 : d3.sync = (c, d4)) (hc : ¬ c = 0) : (JS.mk t n false).put d s = (c, d4, ⟨t, n, true⟩) := by
 have h : putD d n s = (c, d4) := by rw [putD, e, if_pos rfl, syncD, e1, if_pos rfl, headD, e2, if_pos rfl, e3]
 rw [JS.put, if_neg (by simp [hd]), if_neg hs, h, if_neg hc]
theorem jput_ok (hd : d.down = false) (hs : ¬ half d.secs * 64 < s.size) (e : wall d (pieces s (first d.secs (n + 1))) = (0, d1)) (e1 : d1.sync = (0, d2)) (e2 : d2.write (n % 2) (headB (n + 1) (s.size : Int)) = (0, d3)) (e3 : d3.sync = (0, d4)) : (JS.mk t n false).put d s = (0, d4, ⟨s, n + 1, false⟩) := by
 have h : putD d n s = (0, d4) := by rw [putD, e, if_pos rfl, syncD, e1, if_pos rfl, headD, e2, if_pos rfl, e3]
 rw [JS.put, if_neg (by simp [hd]), if_neg hs, h, if_pos rfl]
end
theorem head_06 {d : DS} {n l : Int} (h : 4 ≤ d.secs.length) (k : Int) : (d.write (k % 2) (headB n l)).1 = 0 ∨ (d.write (k % 2) (headB n l)).1 = 6 := by
 obtain ⟨a, ha, h1⟩ := mod2 k
 rw [← ha]
 exact write_06 (by omega) (headB_size _ _)
theorem quo64 {i : Nat} (h : i < 1099511627776) : IntKind.i64.wrap (Int.tdiv ((i * 64 : Nat) : Int) 64) = ((i : Nat) : Int) := by
 rw [tdiv64 (by omega), show ((i * 64 : Nat) : Int) / 64 = ((i : Nat) : Int) by omega]
 exact wrap_i64 (by omega) (by omega)
theorem piece_big {s : ByteArray} {i : Nat} (h : (rest s i).size > 64) : (rest s i).extract 0 64 ++ noughts.extract ((rest s i).extract 0 64).size noughts.size = piece s i := by
 rw [piece, padB, Nat.min_eq_right (show 64 ≤ (rest s i).size by omega), ByteArray.size_extract, noughts_size, show min 64 (rest s i).size - 0 = 64 by omega]
theorem piece_small {s : ByteArray} {i : Nat} (h : ¬ (rest s i).size > 64) : rest s i ++ noughts.extract (rest s i).size noughts.size = piece s i := by
 rw [piece, padB, Nat.min_eq_left (show (rest s i).size ≤ 64 by omega), noughts_size, ByteArray.extract_zero_size]
theorem flat_at {s : ByteArray} {f i : Nat} (h : i < nPieces s) : (flat (pieces s f))[i * 2]? = some (.int .i64 ((f + i : Nat) : Int)) ∧ (flat (pieces s f))[i * 2 + 1]? = some (.string (piece s i)) := flat_get (pieces_get h)
end Go.Jn
