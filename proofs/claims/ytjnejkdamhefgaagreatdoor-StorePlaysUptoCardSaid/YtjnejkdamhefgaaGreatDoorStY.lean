/- A part of the proof. -/
import Derived.Test.YtjnejkdamhefgaaGreatDoorStX
namespace Go.Jn
open Go Go.SL Go.Dk
set_option linter.unusedVariables false
def rT (s : ByteArray) : Int × Int := match parse s with
 | some p => p
 | none => (-1, 0)
def rG (s : ByteArray) : Int × Int × Bool := ((rT s).1, (rT s).2, decide (0 ≤ (rT s).1))
theorem parse_G (s : ByteArray) : parse s = if (rG s).2.2 = true then some ((rG s).1, (rG s).2.1) else none := by
 unfold rG rT
 cases h : parse s with
 | none => rfl
 | some p =>
  obtain ⟨n, l⟩ := p
  have := parse_nonneg h
  simp only
  rw [if_pos (decide_eq_true this.1)]
theorem openD_G {d : DS} {T : ByteArray → Int × Int × Bool} (hT : ∀ s, parse s = if (T s).2.2 = true then some ((T s).1, (T s).2.1) else none) (hd : d.down = false) (h4 : 4 ≤ d.secs.length) :
    openD d = openT (half d.secs * 64) (T (rd d 0)) (T (rd d 1)) (fun a l => textR (rd d) (first d.secs a) l) := by
  rw [openD, if_neg (by simp [hd]), openR, if_neg (by omega), hT, hT, openT]
  by_cases h0 : (T (rd d 0)).2.2 = true
  · by_cases h1 : (T (rd d 1)).2.2 = true
    · rw [if_pos h0, if_pos h1, if_pos ⟨h0, h1⟩]
    · rw [if_pos h0, if_neg h1, if_neg (fun h => h1 h.2)]
  · rw [if_neg h0, if_neg (show ¬ ((T (rd d 0)).2.2 = true ∧ (T (rd d 1)).2.2 = true) from fun h => h0 h.1)]
theorem rT_rng {s : ByteArray} (h : 0 ≤ (rT s).1) : (rT s).1 ≤ 9223372036854775807 ∧ 0 ≤ (rT s).2 ∧ (rT s).2 < 4294967296 := by
 unfold rT at *
 cases hp : parse s with
 | none => rw [hp] at h; exact absurd h (by decide)
 | some p =>
  obtain ⟨n, l⟩ := p
  rcases parse_some hp with ⟨h1, h2, _⟩ | ⟨h1, h2, h3, h4, _⟩
  · simp only; omega
  · have := h2.2; simp only; omega
theorem rT_low (s : ByteArray) : -1 ≤ (rT s).1 ∧ 0 ≤ (rT s).2 ∧ (rT s).2 < 4294967296 ∧ (rT s).1 ≤ 9223372036854775807 := by
  by_cases h : 0 ≤ (rT s).1
  · have := rT_rng h; omega
  · unfold rT at *
    cases hp : parse s with
    | none => simp only; omega
    | some p => rw [hp] at h; have := parse_nonneg (s := s) (n := p.1) (l := p.2) hp; exact absurd this.1 h
theorem rT_noughts {s : ByteArray} (h : s = noughts) : rT s = (0, 0) := by rw [rT, h, parse_noughts]
theorem rT_head {s : ByteArray} (h : ¬ s = noughts) (h1 : 0 < sNum s) (h2 : s = headB (sNum s) (sLen s)) : rT s = (sNum s, sLen s) := by
 rw [rT, parse, if_neg h, if_pos ⟨h1, h2⟩]
theorem rT_bad {s : ByteArray} (h : ¬ s = noughts) (h1 : ¬ (0 < sNum s ∧ s = headB (sNum s) (sLen s))) : rT s = (-1, 0) := by
 rw [rT, parse, if_neg h, if_neg h1]
theorem str_drop {s : ByteArray} (f : Nat) {i : Nat} (h : f + i < s.size) : ∃ c, s.data.toList[f + i]? = some c ∧ ((s.data.toList.drop f).take (i + 1)) = (s.data.toList.drop f).take i ++ [c] := by
 have hl : f + i < s.data.toList.length := by simpa using h
 refine ⟨_, List.getElem?_eq_getElem hl, ?_⟩
 rw [List.take_succ_eq_append_getElem (by rw [List.length_drop]; omega), List.getElem_drop]
theorem flat_pieces (s : ByteArray) (f i : Nat) : flat (((List.range (i + 1)).map fun i => (f + i, piece s i))) = flat ((List.range i).map fun i => (f + i, piece s i)) ++ [.int .i64 ((f + i : Nat) : Int), .string (piece s i)] := by
 rw [List.range_succ, List.map_append, List.map_singleton, flat_snoc]
theorem write_06 {d : DS} {a : Nat} {s : ByteArray} (ha : a < d.secs.length) (hs : s.size = 64) : (d.write (a : Int) s).1 = 0 ∨ (d.write (a : Int) s).1 = 6 := by
  cases hd : d.down
  · rw [write_ok hd (by omega) (by omega)]
    unfold DS.doW
    rcases d.may with ⟨b, d'⟩
    cases b
    · exact .inr rfl
    · exact .inl rfl
  · right; unfold DS.write; rw [if_pos hd]
theorem sync_06 (d : DS) : d.sync.1 = 0 ∨ d.sync.1 = 6 := by
  unfold DS.sync
  split
  · exact .inr rfl
  · unfold DS.doS
    rcases d.may with ⟨b, d'⟩
    cases b
    · exact .inr rfl
    · exact .inl rfl
theorem is_six {r : Int × DS} (h : r.1 = 0 ∨ r.1 = 6) (h0 : ¬ r.1 = 0) : r = (6, r.2) := Prod.ext (h.resolve_left h0) rfl
theorem is_ok {r : Int × DS} (h0 : r.1 = 0) : r = (0, r.2) := Prod.ext h0 rfl
section
variable {d d1 d2 d3 d4 : DS} {t s : ByteArray} {n c : Int}
theorem jput_big (hd : d.down = false) (hs : half d.secs * 64 < s.size) : (JS.mk t n false).put d s = (5, d, ⟨t, n, false⟩) := by
 rw [JS.put, if_neg (by simp [hd]), if_pos hs]
theorem jput_wall (hd : d.down = false) (hs : ¬ half d.secs * 64 < s.size) (e : wall d (pieces s (first d.secs (n + 1))) = (c, d1)) (hc : ¬ c = 0) : (JS.mk t n false).put d s = (c, d1, ⟨t, n, true⟩) := by
 have h : putD d n s = (c, d1) := by rw [putD, e, if_neg hc]
 rw [JS.put, if_neg (by simp [hd]), if_neg hs, h, if_neg hc]
theorem jput_sync (hd : d.down = false) (hs : ¬ half d.secs * 64 < s.size) (e : wall d (pieces s (first d.secs (n + 1))) = (0, d1)) (e1 : d1.sync = (c, d2)) (hc : ¬ c = 0) : (JS.mk t n false).put d s = (c, d2, ⟨t, n, true⟩) := by
 have h : putD d n s = (c, d2) := by rw [putD, e, if_pos rfl, syncD, e1, if_neg hc]
 rw [JS.put, if_neg (by simp [hd]), if_neg hs, h, if_neg hc]
theorem jput_head (hd : d.down = false) (hs : ¬ half d.secs * 64 < s.size) (e : wall d (pieces s (first d.secs (n + 1))) = (0, d1)) (e1 : d1.sync = (0, d2)) (e2 : d2.write (n % 2) (headB (n + 1) (s.size : Int)) = (c, d3)) (hc : ¬ c = 0) : (JS.mk t n false).put d s = (c, d3, ⟨t, n, true⟩) := by
 have h : putD d n s = (c, d3) := by rw [putD, e, if_pos rfl, syncD, e1, if_pos rfl, headD, e2, if_neg hc]
 rw [JS.put, if_neg (by simp [hd]), if_neg hs, h, if_neg hc]
theorem jput_last (hd : d.down = false) (hs : ¬ half d.secs * 64 < s.size) (e : wall d (pieces s (first d.secs (n + 1))) = (0, d1)) (e1 : d1.sync = (0, d2)) (e2 : d2.write (n % 2) (headB (n + 1) (s.size : Int)) = (0, d3)) (e3 : d3.sync = (c, d4)) (hc : ¬ c = 0) : (JS.mk t n false).put d s = (c, d4, ⟨t, n, true⟩) := by
 have h : putD d n s = (c, d4) := by rw [putD, e, if_pos rfl, syncD, e1, if_pos rfl, headD, e2, if_pos rfl, e3]
 rw [JS.put, if_neg (by simp [hd]), if_neg hs, h, if_neg hc]
theorem jput_ok (hd : d.down = false) (hs : ¬ half d.secs * 64 < s.size) (e : wall d (pieces s (first d.secs (n + 1))) = (0, d1)) (e1 : d1.sync = (0, d2)) (e2 : d2.write (n % 2) (headB (n + 1) (s.size : Int)) = (0, d3)) (e3 : d3.sync = (0, d4)) : (JS.mk t n false).put d s = (0, d4, ⟨s, n + 1, false⟩) := by
 have h : putD d n s = (0, d4) := by rw [putD, e, if_pos rfl, syncD, e1, if_pos rfl, headD, e2, if_pos rfl, e3]
 rw [JS.put, if_neg (by simp [hd]), if_neg hs, h, if_pos rfl]
end
theorem head_06 {d : DS} {n l : Int} (h : 4 ≤ d.secs.length) (k : Int) : (d.write (k % 2) (headB n l)).1 = 0 ∨ (d.write (k % 2) (headB n l)).1 = 6 := by
 obtain ⟨a, ha, h1⟩ := mod2 k
 rw [← ha]
 exact write_06 (by omega) (headB_size _ _)
theorem quo64 {i : Nat} (h : i < 1099511627776) : IntKind.i64.wrap (Int.tdiv ((i * 64 : Nat) : Int) 64) = ((i : Nat) : Int) := by
 rw [tdiv64 (by omega), show ((i * 64 : Nat) : Int) / 64 = ((i : Nat) : Int) by omega]
 exact wrap_i64 (by omega) (by omega)
theorem piece_big {s : ByteArray} {i : Nat} (h : (rest s i).size > 64) : (rest s i).extract 0 64 ++ noughts.extract ((rest s i).extract 0 64).size noughts.size = piece s i := by
 rw [piece, padB, Nat.min_eq_right (show 64 ≤ (rest s i).size by omega), ByteArray.size_extract, noughts_size, show min 64 (rest s i).size - 0 = 64 by omega]
theorem piece_small {s : ByteArray} {i : Nat} (h : ¬ (rest s i).size > 64) : rest s i ++ noughts.extract (rest s i).size noughts.size = piece s i := by
 rw [piece, padB, Nat.min_eq_left (show (rest s i).size ≤ 64 by omega), noughts_size, ByteArray.extract_zero_size]
theorem flat_at {s : ByteArray} {f i : Nat} (h : i < nPieces s) : (flat (pieces s f))[i * 2]? = some (.int .i64 ((f + i : Nat) : Int)) ∧ (flat (pieces s f))[i * 2 + 1]? = some (.string (piece s i)) := flat_get (pieces_get h)
structure OpJ where
 kind : Int
 n : Int
 b : Nat
 bits : Int
def andJ (x : Int) : Int := IntKind.i64.wrap ((BitVec.ofInt IntKind.i64.bits x &&& BitVec.ofInt IntKind.i64.bits 1023).toNat)
def opJ (d : DS) (oj : Option JS) (o : OpJ) : DS × Option JS :=
 if o.kind = 0 then
  match oj with
  | none => (d, none)
  | some js => ((js.put d (txt o.n o.b)).2.1, some (js.put d (txt o.n o.b)).2.2)
 else if o.kind = 1 then
  match (openD d).2 with
  | none => (d, none)
  | some p => (d, some ⟨p.1, p.2, false⟩)
 else if o.kind = 2 then (d, oj)
 else if o.kind = 3 then ((d.cutTo o.n o.bits).2, oj)
 else if o.kind = 4 then ((d.crash o.bits).2, oj)
 else if o.kind = 5 then (d.start.2, oj)
 else if o.kind = 6 then ((d.write o.n (txt 64 o.b)).2, oj)
 else if o.kind = 8 then ((d.write o.n (headB (o.b : Int) (andJ o.bits))).2, oj)
 else (d.sync.2, oj)
structure PlayI (N k : Nat) (d : DS) (oj : Option JS) : Prop where
 wf : WF d
 since : d.since.length ≤ 3000 * k
 count : d.count ≤ 3000 * k
 len : d.secs.length = N
 low : LowD (255 + (k : Int)) d
 seq : ∀ js, oj = some js → 0 ≤ js.seq ∧ js.seq ≤ 255 + (k : Int) ∧ 4 ≤ N
theorem LowD.new1 {M : Int} (n : Nat) : LowD M (DS.new n) := by
 refine ⟨fun a ha => ?_, fun p hp => by cases hp⟩
 show Low M ((List.replicate n noughts).getD a default)
 rw [List.getD_eq_getElem?_getD, List.getElem?_replicate]
 split
 · exact low_noughts M
 · exact low_first M (fun h => by cases h)
theorem PlayI.new {n : Nat} (hn : n ≤ 4096) : PlayI n 0 (DS.new n) none :=
 ⟨WF.new hn, Nat.le_refl _, Nat.le_refl _, List.length_replicate, LowD.new1 n, fun _ h => by cases h⟩
theorem low_txt {M : Int} {b : Nat} (hb : b < 256) : Low M (txt 64 b) := by
  have e : ∀ i, i < 64 → (txt 64 b).data.toList[i]? = some (txtB b i) := fun i hi => by
    show ((txtL b 64).toArray).toList[i]? = _
    rw [List.toList_toArray]
    simp [txtL, hi]
  have val : ∀ i, (txtB b i).toNat = (b + i % 7) % 256 := fun i => by rw [txtB, UInt8.toNat_ofNat']
  by_cases h : b = 74
  · refine low_none M 0 (by decide) ?_
    rw [e 13 (by decide)]
    intro h2
    have := congrArg UInt8.toNat (Option.some.inj h2)
    rw [val, h] at this
    exact absurd this (by decide)
  · refine low_first M ?_
    rw [e 0 (by decide)]
    intro h2
    have := congrArg UInt8.toNat (Option.some.inj h2)
    rw [val] at this
    have h3 : (b + 0 % 7) % 256 = 74 := this
    omega
theorem open_len {d : DS} {p : ByteArray × Int} {c : Int} (h : openD d = (c, some p)) : 4 ≤ d.secs.length := by
 unfold openD at h
 split at h
 · cases h
 unfold openR at h
 split at h
 · cases h
 · omega
theorem open_err {d : DS} {p : ByteArray × Int} {c : Int} (h : openD d = (c, some p)) : c = 0 := by
  unfold openD at h
  split at h
  · cases h
  unfold openR at h
  split at h
  · cases h
  split at h
  · split at h
    · cases h
    split at h
    · exact (congrArg Prod.fst h).symm
    split at h
    · exact (congrArg Prod.fst h).symm
    split at h
    · exact (congrArg Prod.fst h).symm
    · cases h
  · cases h
theorem put_play {N k : Nat} {d : DS} {js : JS} {s : ByteArray} (h : PlayI N k d (some js)) (hk : k ≤ 1000) (hs : s.size ≤ 131072) :
  PlayI N (k + 1) (js.put d s).2.1 (some (js.put d s).2.2) := by
 have hq := h.seq js rfl
 have hn := few s hs
 have same : PlayI N (k + 1) d (some js) := ⟨h.wf, by have := h.since; omega, by have := h.count; omega, h.len, h.low.mono (by omega), fun j hj => by have := h.seq j hj; omega⟩
 have hp := put_keeps (s := s) h.wf (h.low.mono (M' := 255 + ((k + 1 : Nat) : Int)) (by omega)) hq.1 (by omega) (by omega)
 have mk : ∀ js' : JS, 0 ≤ js'.seq → js'.seq ≤ 255 + ((k + 1 : Nat) : Int) → PlayI N (k + 1) (putD d js.seq s).2 (some js') := fun js' h0 h1 =>
  ⟨hp.1.wf, by have := hp.1.since; have := h.since; omega, by have := hp.1.count; have := h.count; omega, hp.1.len.trans h.len, hp.2, fun j hj => by cases hj; exact ⟨h0, h1, hq.2.2⟩⟩
 unfold JS.put
 split
 · exact same
 split
 · exact same
 split
 · exact mk _ (by show 0 ≤ js.seq + 1; omega) (by show js.seq + 1 ≤ _; omega)
 · exact mk _ hq.1 (by show js.seq ≤ _; omega)
theorem PlayI.step {N k : Nat} {d : DS} {oj : Option JS} (h : PlayI N k d oj) (hk : k ≤ 1000) {o : OpJ} (hb : o.b < 256) (hn : o.n ≤ 9223372036854775807) :
    PlayI N (k + 1) (opJ d oj o).1 (opJ d oj o).2 := by
  have same : ∀ d' : DS, WF d' → d'.since.length ≤ d.since.length + 1 → d'.count ≤ d.count + 1 → d'.secs.length = d.secs.length → LowD (255 + ((k + 1 : Nat) : Int)) d' → PlayI N (k + 1) d' oj := fun d' h1 h2 h3 h4 h5 =>
    ⟨h1, by have := h.since; omega, by have := h.count; omega, h4.trans h.len, h5, fun j hj => by have := h.seq j hj; omega⟩
  have hl := h.low.mono (M' := 255 + ((k + 1 : Nat) : Int)) (by omega)
  unfold opJ
  split
  · cases oj with
    | none => exact same d h.wf (by omega) (by omega) rfl hl
    | some js => exact put_play h hk (txt_le _ _)
  split
  · rcases ho : openD d with ⟨c, _ | ⟨t, q⟩⟩
    · show PlayI N (k + 1) d none
      exact ⟨h.wf, by have := h.since; omega, by have := h.count; omega, h.len, hl, fun j hj => by cases hj⟩
    · have hq := open_low (by omega) h.low ho
      have h4 := open_len ho
      show PlayI N (k + 1) d (some ⟨t, q, false⟩)
      exact ⟨h.wf, by have := h.since; omega, by have := h.count; omega, h.len, hl, fun j hj => by cases hj; exact ⟨hq.1, by show q ≤ _; omega, by have := h.len; omega⟩⟩
  split
  · exact same d h.wf (by omega) (by omega) rfl hl
  split
  · refine same _ (h.wf.cutTo _ _ hn) ?_ ?_ ?_ (hl.cutTo _ _) <;> (unfold DS.cutTo; split <;> first | (simp only; omega) | (split <;> first | (simp only; omega) | rfl) | rfl)
  split
  · refine same _ (h.wf.crash _) ?_ ?_ ?_ (hl.crash h.wf _)
    · unfold DS.crash; split
      · simp only; omega
      · show ([] : List (Nat × ByteArray)).length ≤ _; simp
    · unfold DS.crash; split
      · simp only; omega
      · show d.count ≤ _; omega
    · unfold DS.crash; split
      · rfl
      · exact fallL_len _ _ _
  split
  · refine same _ h.wf.start ?_ ?_ ?_ hl.start <;> (unfold DS.start; split <;> first | (simp only; omega) | rfl)
  split
  · exact same _ (h.wf.write _ _) (write_small _ _ _).1 (write_small _ _ _).2.1 (write_small _ _ _).2.2 (hl.write h.wf _ _ (fun _ => low_txt hb))
  split
  · exact same _ (h.wf.write _ _) (write_small _ _ _).1 (write_small _ _ _).2.1 (write_small _ _ _).2.2 (hl.write h.wf _ _ (fun _ => low_head ⟨by omega, by omega⟩ (by omega)))
  · exact same _ h.wf.sync (sync_small _).1 (sync_small _).2.1 (sync_small _).2.2 (hl.sync h.wf)
theorem PlayI.put {N k : Nat} {d : DS} {oj : Option JS} (h : PlayI N k d oj) (hk : k ≤ 1000) : ∀ js, oj = some js → 0 ≤ js.seq ∧ js.seq < 9223372036854775807 ∧ 4 ≤ d.secs.length := fun js hj => by
 have := h.seq js hj
 have := h.len
 omega
end Go.Jn
namespace Go.St
open Go Go.SL Go.Wr Go.Dk Go.Jn
set_option linter.unusedVariables false
structure OpS where
 kind : Int
 v : Value
 l : List PairR
 n : Int
 bits : Int
def opSC (o : OpS) : List Value := [.int .i64 o.kind, o.v, .int .i64 o.n, .int .i64 o.bits]
structure StS where
 js : JS
 T : AL
def chgS (d : DS) (s : StS) (l : List PairR) : Int × DS × StS :=
 if (chgA s.T [] l).1 = 0 then
  if (packP (allA (chgA s.T [] l).2)).2 = 0 then
   ((s.js.put d (packP (allA (chgA s.T [] l).2)).1).1, (s.js.put d (packP (allA (chgA s.T [] l).2)).1).2.1,
    ⟨(s.js.put d (packP (allA (chgA s.T [] l).2)).1).2.2, if (s.js.put d (packP (allA (chgA s.T [] l).2)).1).1 = 0 then (chgA s.T [] l).2 else s.T⟩)
  else ((packP (allA (chgA s.T [] l).2)).2, d, s)
 else ((chgA s.T [] l).1, d, s)
theorem chgS_bad {d : DS} {s : StS} {l : List PairR} {e : Int} (h : (chgA s.T [] l).1 = e) (he : ¬ e = 0) : chgS d s l = (e, d, s) := by unfold chgS; rw [h, if_neg he]
theorem chgS_pk {d : DS} {s : StS} {l : List PairR} {T' : AL} (h : chgA s.T [] l = (0, T')) (hp : ¬ (packP (allA T')).2 = 0) : chgS d s l = ((packP (allA T')).2, d, s) := by
 unfold chgS; rw [h]; simp only; rw [if_pos trivial, if_neg hp]
theorem chgS_put {d : DS} {s : StS} {l : List PairR} {T' : AL} (h : chgA s.T [] l = (0, T')) (hp : (packP (allA T')).2 = 0) (hq : ¬ (s.js.put d (packP (allA T')).1).1 = 0) :
  chgS d s l = ((s.js.put d (packP (allA T')).1).1, (s.js.put d (packP (allA T')).1).2.1, ⟨(s.js.put d (packP (allA T')).1).2.2, s.T⟩) := by
 unfold chgS; rw [h]; simp only; rw [if_pos trivial, if_pos hp, if_neg hq]
theorem chgS_ok {d : DS} {s : StS} {l : List PairR} {T' : AL} (h : chgA s.T [] l = (0, T')) (hp : (packP (allA T')).2 = 0) (hq : (s.js.put d (packP (allA T')).1).1 = 0) :
  chgS d s l = ((s.js.put d (packP (allA T')).1).1, (s.js.put d (packP (allA T')).1).2.1, ⟨(s.js.put d (packP (allA T')).1).2.2, T'⟩) := by
 unfold chgS; rw [h]; simp only; rw [if_pos trivial, if_pos hp, if_pos hq]
def openS (d : DS) : Int × Option StS := match openD d with
 | (c, none) => (c, none)
 | (_, some (t, q)) => if q = 0 then (0, some ⟨⟨t, q, false⟩, []⟩) else if unpackE t = 0 then (0, some ⟨⟨t, q, false⟩, ofL (unpackL t)⟩) else (14, none)
def opS (d : DS) (os : Option StS) (o : OpS) : DS × Option StS :=
 if o.kind = 0 then match os with
  | none => (d, none)
  | some s => ((chgS d s o.l).2.1, some (chgS d s o.l).2.2)
 else if o.kind = 1 then (d, (openS d).2)
 else if o.kind = 2 then (d, os)
 else if o.kind = 3 then ((d.cutTo o.n o.bits).2, os)
 else if o.kind = 4 then ((d.crash o.bits).2, os)
 else (d.start.2, os)
theorem openS_bad {d : DS} {c : Int} (h : openD d = (c, none)) : openS d = (c, none) := by unfold openS; rw [h]
theorem openS_zero {d : DS} {c q : Int} {t : ByteArray} (h : openD d = (c, some (t, q))) (hq : q = 0) : openS d = (0, some ⟨⟨t, q, false⟩, []⟩) := by unfold openS; rw [h]; simp only; rw [if_pos hq]
theorem openS_text {d : DS} {c q : Int} {t : ByteArray} (h : openD d = (c, some (t, q))) (hq : ¬ q = 0) (hu : unpackE t = 0) : openS d = (0, some ⟨⟨t, q, false⟩, ofL (unpackL t)⟩) := by unfold openS; rw [h]; simp only; rw [if_neg hq, if_pos hu]
theorem openS_broken {d : DS} {c q : Int} {t : ByteArray} (h : openD d = (c, some (t, q))) (hq : ¬ q = 0) (hu : ¬ unpackE t = 0) : openS d = (14, none) := by unfold openS; rw [h]; simp only; rw [if_neg hq, if_neg hu]
theorem open_none {d : DS} {c : Int} (h : openD d = (c, none)) : ¬ c = 0 := by
  unfold openD at h
  split at h
  · cases h; decide
  unfold openR at h
  split at h
  · cases h; decide
  split at h
  · split at h
    · cases h; decide
    split at h
    · cases h
    split at h
    · cases h
    split at h
    · cases h
    · cases h; decide
  · cases h; decide
theorem open_up {d : DS} {c : Int} {p : ByteArray × Int} (h : openD d = (c, some p)) : d.down = false := by
 unfold openD at h
 split at h
 · cases h
 · rename_i hd; exact Bool.eq_false_iff.2 hd
theorem text_le (R : Nat → ByteArray) (f : Nat) (l : Int) : (textR R f l).size ≤ l.toNat := by
 unfold textR; rw [ByteArray.size_extract]; omega
theorem open_size {d : DS} {c q : Int} {t : ByteArray} (hw : WF d) (h : openD d = (c, some (t, q))) : t.size ≤ 9223372036854775807 := by
  have hl := hw.l.len
  have hh : half d.secs * 64 ≤ 131008 := by unfold half; omega
  unfold openD at h
  split at h
  · cases h
  unfold openR at h
  split at h
  · cases h
  split at h
  · split at h
    · cases h
    rename_i hno
    split at h
    · cases h; show ByteArray.empty.size ≤ _; decide
    split at h
    · simp only [Prod.mk.injEq, Option.some.injEq] at h
      rw [← h.2.1]
      refine Nat.le_trans (text_le _ _ _) ?_
      omega
    split at h
    · simp only [Prod.mk.injEq, Option.some.injEq] at h
      rw [← h.2.1]
      refine Nat.le_trans (text_le _ _ _) ?_
      omega
    · cases h
  · cases h
structure PlayS (N k : Nat) (d : DS) (os : Option StS) : Prop where
 play : PlayI N k d (os.map (·.js))
 ok : ∀ s, os = some s → okA s.T ∧ s.T.length ≤ 256
theorem _root_.Go.Jn.PlayI.more {N k : Nat} {d : DS} {oj : Option JS} (h : PlayI N k d oj) : PlayI N (k + 1) d oj :=
 ⟨h.wf, by have := h.since; omega, by have := h.count; omega, h.len, h.low.mono (by omega), fun j hj => by have := h.seq j hj; omega⟩
theorem _root_.Go.Jn.PlayI.drop {N k : Nat} {d : DS} {oj : Option JS} (h : PlayI N k d oj) : PlayI N k d none := ⟨h.wf, h.since, h.count, h.len, h.low, fun j hj => by cases hj⟩
theorem put_playS {N k : Nat} {d : DS} {js : JS} {s : ByteArray} (hN : N ≤ 4096) (h : PlayI N k d (some js)) (hk : k ≤ 1000) :
    PlayI N (k + 1) (js.put d s).2.1 (some (js.put d s).2.2) := by
  by_cases hs : s.size ≤ 131072
  · exact put_play h hk hs
  · have hh : half d.secs * 64 < s.size := by have := h.len; unfold half; omega
    have e : js.put d s = (if js.dead = true ∨ d.down = true then 6 else 5, d, js) := by
      unfold JS.put
      by_cases hd : js.dead = true ∨ d.down = true
      · rw [if_pos hd, if_pos hd]
      · rw [if_neg hd, if_pos hh, if_neg hd]
    rw [e]
    exact h.more
theorem openS_play {N k : Nat} {d : DS} {oj : Option JS} (h : PlayI N k d oj) (hk : k ≤ 1000) : PlayS N (k + 1) d (openS d).2 := by
  have h1 := (h.step hk (o := ⟨1, 0, 0, 0⟩) (show (0 : Nat) < 256 by decide) (show (0 : Int) ≤ 9223372036854775807 by decide))
  unfold opJ at h1
  rw [if_neg (show ¬ (1 : Int) = 0 by decide), if_pos rfl] at h1
  unfold openS
  rcases ho : openD d with ⟨c, _ | ⟨t, q⟩⟩
  · rw [ho] at h1; exact ⟨h1, fun s hs => by cases hs⟩
  · rw [ho] at h1
    simp only at h1 ⊢
    split
    · exact ⟨h1, fun s hs => by cases hs; exact ⟨⟨List.nodup_nil, fun p hp => by cases hp⟩, Nat.zero_le _⟩⟩
    · split
      · rename_i hu
        exact ⟨h1, fun s hs => by cases hs; exact ⟨(text_of hu).1, (text_of hu).2.2⟩⟩
      · exact ⟨h1.drop, fun s hs => by cases hs⟩
theorem PlayS.step {N k : Nat} {d : DS} {os : Option StS} (hN : N ≤ 4096) (h : PlayS N k d os) (hk : k ≤ 1000) {o : OpS} (hn : o.n ≤ 9223372036854775807) :
    PlayS N (k + 1) (opS d os o).1 (opS d os o).2 := by
  have jk : ∀ (kd : Int) (n bits : Int), n ≤ 9223372036854775807 → PlayI N (k + 1) (opJ d (os.map (·.js)) ⟨kd, n, 0, bits⟩).1 (opJ d (os.map (·.js)) ⟨kd, n, 0, bits⟩).2 := fun kd n bits hn => h.play.step hk (show (0 : Nat) < 256 by decide) hn
  unfold opS
  split
  · cases os with
    | none => exact ⟨h.play.more, fun s hs => by cases hs⟩
    | some s =>
      have hp := h.play
      have ho := h.ok s rfl
      simp only [Option.map_some] at hp
      show PlayS N (k + 1) (chgS d s o.l).2.1 (some (chgS d s o.l).2.2)
      unfold chgS
      split
      · rename_i h1
        split
        · rename_i h2
          refine ⟨put_playS hN hp hk, fun s' hs' => ?_⟩
          cases hs'
          simp only
          split
          · exact ⟨okA_chg ho.1 h1, by rw [← allA_len]; exact pack_few h2⟩
          · exact ho
        · exact ⟨hp.more, fun s' hs' => by cases hs'; exact ho⟩
      · exact ⟨hp.more, fun s' hs' => by cases hs'; exact ho⟩
  split
  · exact openS_play h.play hk
  split
  · exact ⟨h.play.more, h.ok⟩
  split
  · have := jk 3 o.n o.bits hn
    unfold opJ at this
    rw [if_neg (show ¬ (3 : Int) = 0 by decide), if_neg (show ¬ (3 : Int) = 1 by decide), if_neg (show ¬ (3 : Int) = 2 by decide), if_pos rfl] at this
    exact ⟨this, h.ok⟩
  split
  · have := jk 4 o.n o.bits hn
    unfold opJ at this
    rw [if_neg (show ¬ (4 : Int) = 0 by decide), if_neg (show ¬ (4 : Int) = 1 by decide), if_neg (show ¬ (4 : Int) = 2 by decide), if_neg (show ¬ (4 : Int) = 3 by decide), if_pos rfl] at this
    exact ⟨this, h.ok⟩
  · have := jk 5 o.n o.bits hn
    unfold opJ at this
    rw [if_neg (show ¬ (5 : Int) = 0 by decide), if_neg (show ¬ (5 : Int) = 1 by decide), if_neg (show ¬ (5 : Int) = 2 by decide), if_neg (show ¬ (5 : Int) = 3 by decide), if_neg (show ¬ (5 : Int) = 4 by decide), if_pos rfl] at this
    exact ⟨this, h.ok⟩
theorem PlayS.seq {N k : Nat} {d : DS} {s : StS} (h : PlayS N k d (some s)) (hk : k ≤ 1000) : 0 ≤ s.js.seq ∧ s.js.seq < 9223372036854775807 ∧ 4 ≤ d.secs.length := h.play.put hk s.js rfl
theorem PlayS.new {n : Nat} (hn : n ≤ 4096) : PlayS n 0 (DS.new n) none := ⟨PlayI.new hn, fun s hs => by cases hs⟩
theorem flat4S {l : List OpS} : ∀ {i : Nat} {o : OpS}, l[i]? = some o → ∀ j u, (opSC o)[j]? = some u → (l.flatMap opSC)[i * 4 + j]? = some u := by
 induction l with
 | nil => intro i o h; simp at h
 | cons q l ih =>
  intro i o h j u hj
  have hlen : (opSC q).length = 4 := rfl
  cases i with
  | zero =>
   obtain rfl : q = o := by simpa using h
   have hlt := (List.getElem?_eq_some_iff.1 hj).1
   rw [List.flatMap_cons, Nat.zero_mul, Nat.zero_add, List.getElem?_append_left hlt]
   exact hj
  | succ i =>
   rw [List.getElem?_cons_succ] at h
   rw [List.flatMap_cons, List.getElem?_append_right (by rw [hlen]; omega), hlen, show (i + 1) * 4 + j - 4 = i * 4 + j by omega]
   exact ih h j u hj
theorem rdS {W0 : World} {v : Value} {l : List OpS} {k : Nat} {o : OpS} (h : Rd W0 v l.length (l.flatMap opSC)) (hg : l[k]? = some o) (j : Nat) {u : Value} (hj : (opSC o)[j]? = some u) : W0.cell? ⟨rb v, ro v + k * 4 + j, none⟩ = some u := by
 have := h.cell _ _ (flat4S hg j u hj); rwa [← Nat.add_assoc] at this
end Go.St
