/- A part of the proof. -/
import Derived.Test.YtjnejkdamhefgaaGreatDoorJnO
namespace Go.Jn
open Go Go.SL Go.Dk
set_option linter.unusedVariables false
def Low (M : Int) (x : ByteArray) : Prop := ∀ n l, fits n → lo x = lo (headB n l) → n ≤ M
theorem Low.mono {M M' : Int} (h : M ≤ M') {x : ByteArray} (hx : Low M x) : Low M' x := fun n l hn e => Int.le_trans (hx n l hn e) h
theorem Low.torn {M : Int} {old s : ByteArray} {k : Int} (h1 : old.size = 64) (h2 : s.size = 64) (ho : Low M old) (hs : Low M s) : Low M (torn old s k) := by
 intro n l hn e
 rcases torn_lo k h1 h2 with h | h
 · exact ho n l hn (h.symm.trans e)
 · exact hs n l hn (h.symm.trans e)
theorem lo_at {x : ByteArray} {i : Nat} (h : i < 32) : (lo x).data.toList[i]? = x.data.toList[i]? := by
 unfold lo
 rw [ByteArray.data_extract, Array.toList_extract, List.extract_eq_take_drop, List.drop_zero, List.getElem?_take, if_pos h]
theorem head_at {n l : Int} {i : Nat} (h : i < 51) : (headB n l).data.toList[13 + i]? = some 0 := by
 show ((headL n l).toArray).toList[13 + i]? = _
 rw [List.toList_toArray]
 unfold headL
 rw [show 13 + i = (12 + i) + 1 by omega, List.getElem?_cons_succ, List.getElem?_append_right (by rw [bytesOf_len]; omega), bytesOf_len, List.getElem?_append_right (by rw [bytesOf_len]; omega), bytesOf_len, List.getElem?_replicate]
 rw [if_pos (by omega)]
theorem low_head {n l M : Int} (hn : fits n) (hM : n ≤ M) : Low M (headB n l) := by
 intro m k hm e
 have : sNum (headB n l) = sNum (headB m k) := by
  unfold sNum
  have key : ∀ x : ByteArray, (x.data.toList.drop 1).take 8 = ((lo x).data.toList.drop 1).take 8 := by
   intro x
   apply List.ext_getElem?
   intro i
   rw [List.getElem?_take, List.getElem?_take]
   split
   · rw [List.getElem?_drop, List.getElem?_drop, lo_at (by omega)]
   · rfl
  rw [key (headB n l), key (headB m k), e]
 rw [sNum_head hn, sNum_head hm] at this
 omega
theorem low_none {x : ByteArray} (M : Int) (i : Nat) (hi : i < 19) (h : x.data.toList[13 + i]? ≠ some 0) : Low M x := by
 intro n l hn e
 have := congrArg (fun s : ByteArray => s.data.toList[13 + i]?) e
 simp only [lo_at (x := x) (i := 13 + i) (by omega), lo_at (x := headB n l) (i := 13 + i) (by omega), head_at (n := n) (l := l) (i := i) (by omega)] at this
 exact absurd this h
theorem low_first {x : ByteArray} (M : Int) (h : x.data.toList[0]? ≠ some 74) : Low M x := by
 intro n l hn e
 have := congrArg (fun s : ByteArray => s.data.toList[0]?) e
 simp only [lo_at (x := x) (i := 0) (by omega), lo_at (x := headB n l) (i := 0) (by omega), head_first] at this
 exact absurd this h
theorem low_noughts (M : Int) : Low M noughts := low_first M (by rw [show noughts.data.toList[0]? = some 0 from rfl]; decide)
theorem low_parse {x : ByteArray} {M n l : Int} (hM : 0 ≤ M) (h : Low M x) (hp : parse x = some (n, l)) : n ≤ M := by
 rcases parse_some hp with ⟨rfl, _, _⟩ | ⟨_, hn, _, _, e⟩
 · exact hM
 · exact h n l hn (by rw [← e])
structure LowD (M : Int) (d : DS) : Prop where
 secs : ∀ a, a ≤ 1 → Low M (d.secs.getD a default)
 since : ∀ p ∈ d.since, p.1 ≤ 1 → Low M p.2
theorem LowD.mono {M M' : Int} (h : M ≤ M') {d : DS} (hd : LowD M d) : LowD M' d := ⟨fun a ha => (hd.secs a ha).mono h, fun p hp ha => (hd.since p hp ha).mono h⟩
theorem low_readL {M : Int} {a : Nat} (ha : a ≤ 1) : ∀ (l : List (Nat × ByteArray)) (x : ByteArray), Low M x → (∀ p ∈ l, p.1 ≤ 1 → Low M p.2) → Low M (readL x a l)
 | [], _, h, _ => h
 | p :: r, x, h, hl => by
  rw [readL]
  refine low_readL ha r _ ?_ (fun q hq => hl q (List.mem_cons_of_mem _ hq))
  split
  · rename_i e; exact hl p List.mem_cons_self (by omega)
  · exact h
theorem LowD.rd {M : Int} {d : DS} (h : LowD M d) {a : Nat} (ha : a ≤ 1) : Low M (rd d a) := low_readL ha _ _ (h.secs a ha) h.since
theorem low_fallL {M : Int} : ∀ (ws : List (Nat × ByteArray)) (S : List ByteArray) (b : Int), (∀ s ∈ S, s.size = 64) → (∀ p ∈ ws, p.1 < S.length ∧ p.2.size = 64 ∧ (p.1 ≤ 1 → Low M p.2)) → (∀ a, a ≤ 1 → Low M (S.getD a default)) → ∀ a, a ≤ 1 → Low M ((fallL S ws b).getD a default)
  | [], _, _, _, _, h => h
  | p :: r, S, b, h1, h2, h3 => by
    have hp := h2 p List.mem_cons_self
    have hz : (S.getD p.1 default).size = 64 := by rw [List.getD_eq_getElem?_getD, List.getElem?_eq_getElem hp.1]; exact h1 _ (List.getElem_mem _)
    refine low_fallL r _ (b / 4) (fun s hs => ?_) (fun q hq => ?_) (fun a ha => ?_)
    · rcases List.mem_or_eq_of_mem_set hs with hs | rfl
      · exact h1 s hs
      · exact torn_size0 _ hz hp.2.1
    · rw [List.length_set]; exact h2 q (List.mem_cons_of_mem _ hq)
    · rw [getD_set hp.1]
      split
      · rename_i e; exact Low.torn hz hp.2.1 (h3 _ (by omega)) (hp.2.2 (by omega))
      · exact h3 a ha
theorem low_syncL {M : Int} : ∀ (ws : List (Nat × ByteArray)) (S : List ByteArray), (∀ p ∈ ws, p.1 < S.length ∧ (p.1 ≤ 1 → Low M p.2)) → (∀ a, a ≤ 1 → Low M (S.getD a default)) → ∀ a, a ≤ 1 → Low M ((syncL S ws).getD a default)
  | [], _, _, h => h
  | p :: r, S, h2, h3 => by
    have hp := h2 p List.mem_cons_self
    refine low_syncL r _ (fun q hq => ?_) (fun a ha => ?_)
    · rw [List.length_set]; exact h2 q (List.mem_cons_of_mem _ hq)
    · rw [getD_set hp.1]
      split
      · rename_i e; exact hp.2 (by omega)
      · exact h3 a ha
theorem LowD.fall {M : Int} {d : DS} (hw : WF d) (h : LowD M d) (b : Int) : LowD M (d.fall b) :=
 ⟨low_fallL _ _ _ hw.l.size (fun p hp => ⟨hw.l.at_ p (List.mem_of_mem_take hp), hw.l.size' p (List.mem_of_mem_take hp), h.since p (List.mem_of_mem_take hp)⟩) h.secs, fun p hp => by cases hp⟩
theorem LowD.may {M : Int} {d : DS} (hw : WF d) (h : LowD M d) : LowD M d.may.2 := by
 unfold DS.may
 split
 · exact h
 · exact h.fall hw _
 · exact ⟨h.secs, h.since⟩
theorem LowD.write {M : Int} {d : DS} (hw : WF d) (h : LowD M d) (a : Int) (s : ByteArray) (hs : a ≤ 1 → Low M s) : LowD M (d.write a s).2 := by
  unfold DS.write
  split; · exact h
  split; · exact h
  rename_i hb
  have hm := LowD.may hw h
  unfold DS.doW
  split
  · rename_i d' hd; rw [hd] at hm; exact hm
  · rename_i d' hd; rw [hd] at hm
    refine ⟨hm.secs, fun p hp hp1 => ?_⟩
    rcases List.mem_append.1 hp with hp | hp
    · exact hm.since p hp hp1
    · rw [List.mem_singleton] at hp; subst hp; exact hs (by simp only at hp1; omega)
theorem LowD.sync {M : Int} {d : DS} (hw : WF d) (h : LowD M d) : LowD M d.sync.2 := by
  unfold DS.sync
  split; · exact h
  have hm := LowD.may hw h
  have hw2 := hw.may
  unfold DS.doS
  split
  · rename_i d' hd; rw [hd] at hm; exact hm
  · rename_i d' hd; rw [hd] at hm hw2
    exact ⟨low_syncL _ _ (fun p hp => ⟨hw2.l.at_ p hp, hm.since p hp⟩) hm.secs, fun p hp => by cases hp⟩
theorem LowD.crash {M : Int} {d : DS} (hw : WF d) (h : LowD M d) (b : Int) : LowD M (d.crash b).2 := by
 unfold DS.crash; split; · exact h
 exact h.fall hw b
theorem LowD.start {M : Int} {d : DS} (h : LowD M d) : LowD M d.start.2 := by
 unfold DS.start; split
 · exact ⟨h.secs, h.since⟩
 · exact h
theorem LowD.cutTo {M : Int} {d : DS} (h : LowD M d) (n b : Int) : LowD M (d.cutTo n b).2 := by
 unfold DS.cutTo; split; · exact h
 split; · exact h
 exact ⟨h.secs, h.since⟩
theorem LowD.new {M : Int} (n : Nat) (hn : 2 ≤ n) : LowD M (DS.new n) :=
 ⟨fun a ha => by show Low M ((List.replicate n noughts).getD a default); rw [List.getD_eq_getElem?_getD, List.getElem?_replicate, if_pos (by omega)]; exact low_noughts M, fun p hp => by cases hp⟩
structure Kp (d0 d : DS) (m : Nat) : Prop where
 wf : WF d
 since : d.since.length ≤ d0.since.length + m
 count : d.count ≤ d0.count + m
 len : d.secs.length = d0.secs.length
theorem Kp.refl {d : DS} (h : WF d) : Kp d d 0 := ⟨h, Nat.le_refl _, Nat.le_refl _, rfl⟩
theorem Kp.step {d0 d d' : DS} {m : Nat} (h : Kp d0 d m) (hw : WF d') (h1 : d'.since.length ≤ d.since.length + 1) (h2 : d'.count ≤ d.count + 1) (h3 : d'.secs.length = d.secs.length) : Kp d0 d' (m + 1) :=
 ⟨hw, by have := h.since; omega, by have := h.count; omega, h3.trans h.len⟩
theorem Kp.le {d0 d : DS} {m m' : Nat} (h : Kp d0 d m) (hm : m ≤ m') : Kp d0 d m' := ⟨h.wf, by have := h.since; omega, by have := h.count; omega, h.len⟩
theorem write_small (d : DS) (a : Int) (s : ByteArray) : (d.write a s).2.since.length ≤ d.since.length + 1 ∧ (d.write a s).2.count ≤ d.count + 1 ∧ (d.write a s).2.secs.length = d.secs.length := by
 have hm := may_len d
 refine ⟨?_, ?_, ?_⟩ <;> (unfold DS.write; split; · first | omega | (simp only; omega) | simp) <;> (split; · first | omega | (simp only; omega) | simp) <;> (unfold DS.doW; split <;> rename_i e <;> (have e2 := congrArg Prod.snd e; simp only at e2; rw [e2] at hm; simp only [List.length_append, List.length_singleton]; omega))
theorem sync_small (d : DS) : d.sync.2.since.length ≤ d.since.length + 1 ∧ d.sync.2.count ≤ d.count + 1 ∧ d.sync.2.secs.length = d.secs.length := by
 have hm := may_len d
 refine ⟨?_, ?_, ?_⟩ <;> (unfold DS.sync; split; · first | omega | (simp only; omega) | simp) <;> (unfold DS.doS; split <;> rename_i e <;> (have e2 := congrArg Prod.snd e; simp only at e2; rw [e2] at hm; simp only [syncL_len, List.length_nil]; omega))
theorem Kp.write {d0 d : DS} {m : Nat} (h : Kp d0 d m) (a : Int) (s : ByteArray) : Kp d0 (d.write a s).2 (m + 1) := h.step (h.wf.write a s) (write_small d a s).1 (write_small d a s).2.1 (write_small d a s).2.2
theorem Kp.sync {d0 d : DS} {m : Nat} (h : Kp d0 d m) : Kp d0 d.sync.2 (m + 1) := h.step h.wf.sync (sync_small d).1 (sync_small d).2.1 (sync_small d).2.2
theorem wall_keeps {M : Int} : ∀ (ws : List (Nat × ByteArray)) {d0 d : DS} {m : Nat}, Kp d0 d m → LowD M d → (∀ p ∈ ws, 2 ≤ p.1) → Kp d0 (wall d ws).2 (m + ws.length) ∧ LowD M (wall d ws).2
  | [], _, _, _, h, hl, _ => ⟨h, hl⟩
  | p :: r, d0, d, m, h, hl, h2 => by
    have hp := h2 p List.mem_cons_self
    have k1 := h.write (p.1 : Int) p.2
    have l1 := hl.write h.wf (p.1 : Int) p.2 (fun hh => absurd hh (by omega))
    rw [wall]
    split
    · have := wall_keeps r k1 l1 (fun q hq => h2 q (List.mem_cons_of_mem _ hq))
      exact ⟨this.1.le (by simp only [List.length_cons]; omega), this.2⟩
    · exact ⟨k1.le (by simp only [List.length_cons]; omega), l1⟩
theorem put_keeps {M : Int} {d : DS} {q : Int} {s : ByteArray} (h : WF d) (hl : LowD M d) (h0 : 0 ≤ q) (hq : q + 1 ≤ M) (hM : M ≤ 9223372036854775807) : Kp d (putD d q s).2 (nPieces s + 3) ∧ LowD M (putD d q s).2 := by
  have key := wall_keeps (M := M) (pieces s (first d.secs (q + 1))) (Kp.refl h) hl (fun p hp => by
    unfold pieces at hp
    obtain ⟨i, hi, rfl⟩ := List.mem_map.1 hp
    simp only
    unfold first; split <;> omega)
  rw [pieces_len] at key
  unfold putD
  split
  · unfold syncD
    have k1 := key.1.sync
    have l1 := key.2.sync key.1.wf
    split
    · unfold headD
      have k2 := k1.write (q % 2) (headB (q + 1) (s.size : Int))
      have l2 := l1.write k1.wf (q % 2) (headB (q + 1) (s.size : Int)) (fun _ => low_head ⟨by omega, by omega⟩ hq)
      split
      · exact ⟨k2.sync.le (by omega), l2.sync k2.wf⟩
      · exact ⟨k2.le (by omega), l2⟩
    · exact ⟨k1.le (by omega), l1⟩
  · exact ⟨key.1.le (by omega), key.2⟩
theorem open_low {M : Int} (hM : 0 ≤ M) {d : DS} (h : LowD M d) {t : ByteArray} {q e : Int} (ho : openD d = (e, some (t, q))) : 0 ≤ q ∧ q ≤ M := by
  unfold openD at ho
  split at ho
  · cases ho
  unfold openR at ho
  split at ho
  · cases ho
  split at ho
  · rename_i a la b lb e0 e1
    have n0 := low_parse hM (h.rd (a := 0) (by omega)) e0
    have n1 := low_parse hM (h.rd (a := 1) (by omega)) e1
    have p0 := parse_nonneg e0
    have p1 := parse_nonneg e1
    split at ho
    · cases ho
    split at ho
    · cases ho; omega
    split at ho
    · cases ho; omega
    split at ho
    · cases ho; omega
    · cases ho
  · cases ho
theorem rest_zero (s : ByteArray) : rest s 0 = s := by simp [rest]
theorem rest_next (s : ByteArray) (i : Nat) : (rest s i).extract (min (rest s i).size 64) (rest s i).size = rest s (i + 1) := by
  rw [rest_size]
  unfold rest
  rw [ByteArray.extract_extract]
  by_cases h : s.size - i * 64 ≤ 64
  · rw [Nat.min_eq_left h, ByteArray.extract_eq_empty_iff.2 (by omega), ByteArray.extract_eq_empty_iff.2 (by omega)]
  · rw [Nat.min_eq_right (by omega)]
    congr 1 <;> omega
theorem rest_end {s : ByteArray} {i : Nat} (hi : i ≤ nPieces s) (h : rest s i = ⟨#[]⟩) : i = nPieces s := by
 have := congrArg ByteArray.size h
 rw [rest_size] at this
 have h2 : (⟨#[]⟩ : ByteArray).size = 0 := rfl
 unfold nPieces at *
 omega
theorem rest_more {s : ByteArray} {i : Nat} (h : ¬ rest s i = ⟨#[]⟩) : i < nPieces s ∧ i * 64 < s.size := by
 have h2 : ¬ (rest s i).size = 0 := fun e => h (ByteArray.size_eq_zero_iff.1 e)
 rw [rest_size] at h2
 unfold nPieces
 omega
theorem wall_at {s : ByteArray} {f i : Nat} (d : DS) (h : i < nPieces s) : wall d ((pieces s f).drop i) =
  if (d.write ((f + i : Nat) : Int) (piece s i)).1 = 0 then wall (d.write ((f + i : Nat) : Int) (piece s i)).2 ((pieces s f).drop (i + 1)) else d.write ((f + i : Nat) : Int) (piece s i) := by
 obtain ⟨hl, he⟩ := List.getElem?_eq_some_iff.1 (pieces_get (s := s) (f := f) h)
 rw [List.drop_eq_getElem_cons hl, he, wall]
theorem wall_done {s : ByteArray} {f : Nat} (d : DS) : wall d ((pieces s f).drop (nPieces s)) = (0, d) := by
 rw [List.drop_of_length_le (by rw [pieces_len]; exact Nat.le_refl _)]; rfl
theorem pieces_le {s : ByteArray} {n : Nat} (h : s.size ≤ n * 64) : nPieces s ≤ n := by unfold nPieces; omega
end Go.Jn
namespace Go.Proofs.YtjnejkdamhefgaaGreatDoor
open Tryz
open Go Go.SL Go.Dk Go.Jn Go.RowKit
set_option linter.unusedVariables false
set_option maxRecDepth 8000
theorem pieces_c (W0 : World) (s : ByteArray) (n : Int) :
  Con prog W0 277 #[Vs s, Vi n] [] (X := Nat × Nat) (fun _ => True) (fun c => .func (.func 301) #[] #[.pointer (some ⟨c.1, 0, none⟩), .pointer (some ⟨c.2, 0, none⟩)]) (fun c => [pt c.1 9 [.string s], pt c.2 3 [.int .i64 n]]) := by
 refine Con.of func277 rfl ntmps277 rfl (fun F => ?_)
 refine Wc.sr (Wl.e (e_box (x := .tmp 0) (vs := [Vs s]) rfl) (fun c1 _ => ?_))
 refine Wl.e (e_box (x := .tmp 1) (vs := [Vi n]) rfl) (fun c2 _ => ?_)
 refine Wl.rg 1 rfl (Wc.sr (Wl.q (q_makeFunc (us := []) (vs := [Vp c1, Vp c2]) rfl rfl) (Wl.rg 1 rfl (Wc.ret (Wx.f1 rfl (fun w hs => ?_))))))
 exact ⟨(c1, c2), trivial, rfl, (st_pull [1, 0] (hs))⟩
theorem pieces_iter (W0 : World) (l c1 c2 f : Nat) (s : ByteArray) (d0 : DS) (ls : LpS) (H : Int × DS → HP) (hsz : s.size ≤ 262144) (hf : f ≤ 4096) (hw : WF d0) (hy0 : ∀ (i : Nat) (d : DS), Kp d0 d i → i < nPieces s → (d.write ((f + i : Nat) : Int) (piece s i)).1 = 0 → ConY prog W0 l #[.int .i64 ((f + i : Nat) : Int), .string (piece s i)] [lp ls l .ready none, H (0, d)] (X := Unit) (fun _ => True) (fun _ => .bool true) (fun _ => [lp ls l .ready none, H (0, (d.write ((f + i : Nat) : Int) (piece s i)).2)])) (hy1 : ∀ (i : Nat) (d : DS), Kp d0 d i → i < nPieces s → ¬ (d.write ((f + i : Nat) : Int) (piece s i)).1 = 0 → ConY prog W0 l #[.int .i64 ((f + i : Nat) : Int), .string (piece s i)] [lp ls l .ready none, H (0, d)] (X := Unit) (fun _ => True) (fun _ => .bool false) (fun _ => [lp ls l .done (some .ret), H (d.write ((f + i : Nat) : Int) (piece s i))])) :
    Con1 prog W0 301 #[Value.func (.yield l) #[] #[], Vp c1, Vp c2] [lp ls l .ready none, pt c1 9 [Vs s], pt c2 3 [Vi ((f : Nat) : Int)], H (0, d0)] (.tuple #[]) [lp ls l (if (wall d0 (pieces s f)).1 = 0 then .ready else .done) (if (wall d0 (pieces s f)).1 = 0 then none else some .ret), H (wall d0 (pieces s f))] := by
  refine Con.of func301 rfl ntmps301 rfl (fun F => ?_)
  show Wc _ W0 _ _ _ _ _ ((lp ls l .ready none) :: (pt c1 9 [Vs s]) :: (pt c2 3 [Vi ((f : Nat) : Int)]) :: (H (0, d0)) :: F)
  refine Wc.block ?_
  refine Wc.loop (X := Nat × DS) (fun (i, d) E => E 0 = Value.func (.yield l) #[] #[] ∧ E 1 = Vp c1 ∧ E 2 = Vp c2 ∧ Kp d0 d i ∧ i ≤ nPieces s ∧ (wall d0 (pieces s f)) = wall d ((pieces s f).drop i)) (fun (i, d) => (lp ls l .ready none) :: (pt c1 9 [Vs (rest s i)]) :: (pt c2 3 [Vi (((f + i) : Nat) : Int)]) :: (H (0, d)) :: F) (fun (i, d) => nPieces s - i) (0, d0) ?_ ?_ ?_
  · exact ⟨rfl, rfl, rfl, (Kp.refl hw), (Nat.zero_le _), (by rw [List.drop_zero])⟩
  · exact fun w hs => by have h2 : st W0 w ((lp ls l .ready none) :: (pt c1 9 [Vs (rest s 0)]) :: (pt c2 3 [Vi (((f + 0) : Nat) : Int)]) :: (H (0, d0)) :: F) := (by rw [rest_zero]; exact hs); exact h2
  · rintro ⟨i, d⟩ E2 ⟨hE0_0, hE1_0, hE2_0, hk, hi, hw3⟩
    dsimp only at *
    have hrs := rest_size s i
    refine Wc.seq (Wc.sr (Wl.q (q_c 1 sc_9 hE1_0 rfl rfl) ?_))
    by_cases he : (rest s i) = (⟨#[]⟩)
    ·
      refine Wl.q (q_neq_str (r := true) rfl rfl (text_true he)) (Wl.dg (Wc.no rfl (Wc.exit (Wx.thenExit (Wx.thenExit (Wx.out (Wx.fin0 rfl (.inr rfl) (fun w hs => ?_))))))))
      have e := rest_end hi he
      have er : (wall d0 (pieces s f)) = (0, d) := by rw [hw3, e]; exact wall_done d
      exact ⟨(), trivial, rfl, by rw [er]; exact (st_drop (st_drop (st_pull [1, 1] hs)))⟩
    ·
      have hm := rest_more he
      refine Wl.q (q_neq_str (r := false) rfl rfl (text_false he)) (Wl.dg (Wc.yes rfl (Wc.skip (Wx.go (Wc.seq (Wc.block (Wc.sr (Wl.q (q_c 1 sc_9 hE1_0 rfl rfl) (Wl.q (q_len_str underlying9 rfl) (Wl.q (q_min (c := (((min (rest s i).size 64) : Nat) : Int)) rfl rfl (by omega)) ?_))))))))))
      by_cases hw0 : (d.write ((f + i : Nat) : Int) (piece s i)).1 = 0
      ·
        refine Wl.rg 1 rfl (Wc.seq (Wc.seq (Wc.inn ?_)))
        refine Ri.drawsS [9] ((lp ls l .ready none) :: (pt c1 9 [Vs (rest s i)]) :: (pt c2 3 [Vi (((f + i) : Nat) : Int)]) :: (H (0, d)) :: []) (by kernel_rfl) ?_
        refine Rr.pure (v := Value.func (.yield l) #[] #[]) 0 rfl (by kernel_rfl) (.inr (fun _ h => st_take [0, 0, 0, 0] h)) (.inl ⟨rfl, fun _ => q_move hE0_0⟩) ?_
        refine Rr.take (v := Vi (((f + i) : Nat) : Int)) 1 rfl (by kernel_rfl) (fun _ h => st_take [0, 0, 0, 0] h) (.inl ⟨rfl, q_c 2 sc_3 hE2_0 rfl rfl⟩) ?_
        refine Rr.take (v := Vs (rest s i)) 2 rfl (by kernel_rfl) (fun _ h => st_take [0, 0, 0, 0] h) (.inl ⟨rfl, q_c 1 sc_9 hE1_0 rfl rfl⟩) ?_
        refine Rr.pure (v := Vi (((min (rest s i).size 64) : Nat) : Int)) 3 rfl (by kernel_rfl) (.inr (fun _ h => st_take [0, 0, 0, 0] h)) (.inl ⟨rfl, fun _ => q_move rfl⟩) ?_
        refine Rr.pure (v := Vs ((rest s i).extract 0 (min (rest s i).size 64))) 4 rfl (by kernel_rfl) (.inr (fun _ h => st_take [0, 0, 0, 0] h)) (.inl ⟨rfl, fun _ => q_slice_str (l := 0) (h := (min (rest s i).size 64)) underlying9 rfl rfl ⟨_, rfl⟩ (by omega) (by omega) rfl⟩) ?_
        refine Rr.pure (v := Vi (((min (rest s i).size 64) : Nat) : Int)) 6 rfl (by kernel_rfl) (.inr (fun _ h => st_take [0, 0, 0, 0] h)) (.inl ⟨rfl, fun _ => q_move rfl⟩) ?_
        refine Rr.e 5 (by kernel_rfl) rfl (e_c call260 (none_c W0)) (.inr fun _ _ _ h => st_take [0, 0, 0, 0] h) (fun _ _ => ?_)
        refine Rr.imp (L' := (lp ls l .ready none) :: (pt c1 9 [Vs (rest s i)]) :: (pt c2 3 [Vi (((f + i) : Nat) : Int)]) :: (H (0, d)) :: F) (fun _ h => h) ?_
        refine Rr.pure (v := Vs (noughts.extract (min (rest s i).size 64) noughts.size)) 7 rfl (by kernel_rfl) (.inr (fun _ h => st_take [0, 0, 0, 0] h)) (.inl ⟨rfl, fun _ => q_slice_str (l := (min (rest s i).size 64)) (h := noughts.size) underlying9 rfl ⟨_, rfl⟩ rfl (by rw [noughts_size]; omega) (by omega) rfl⟩) ?_
        refine Rr.pure (v := Vs (piece s i)) 8 rfl (by kernel_rfl) (.inr (fun _ h => st_take [0, 0, 0, 0] h)) (.inl ⟨rfl, fun _ => q_cat (z := (piece s i)) rfl rfl (by rw [ByteArray.size_extract, ByteArray.size_extract, noughts_size]; omega) (by rw [noughts_size]; rfl)⟩) ?_
        refine Rr.imp (L' := (lp ls l .ready none) :: (H (0, d)) :: (pt c1 9 [Vs (rest s i)]) :: (pt c2 3 [Vi (((f + i) : Nat) : Int)]) :: F) (fun _ h => st_pull [0, 2] h) ?_
        refine Rr.ei 9 (by kernel_rfl) rfl (e_yield (F := (pt c1 9 [Vs (rest s i)]) :: (pt c2 3 [Vi (((f + i) : Nat) : Int)]) :: F) (args := [Vi (((f + i) : Nat) : Int), Vs (piece s i)]) (pre := [lp ls l .ready none, H (0, d)]) rfl rfl (hy0 i d hk hm.1 hw0)) (.inl (by kernel_rfl)) (fun _ _ => ?_)
        refine Rr.imp (L' := (lp ls l .ready none) :: (H (0, (d.write ((f + i : Nat) : Int) (piece s i)).2)) :: (pt c1 9 [Vs (rest s i)]) :: (pt c2 3 [Vi (((f + i) : Nat) : Int)]) :: F) (fun _ h => h) ?_
        refine Rr.rebaseS [] ((lp ls l .ready none) :: (H (0, (d.write ((f + i : Nat) : Int) (piece s i)).2)) :: (pt c1 9 [Vs (rest s i)]) :: (pt c2 3 [Vi (((f + i) : Nat) : Int)]) :: []) (by kernel_rfl) ?_
        refine Rr.pure (v := Vf) 10 rfl (by kernel_rfl) (.inr (fun _ h => st_take [0, 0, 0, 0] h)) (.inl ⟨rfl, fun _ => q_not rfl rfl⟩) ?_
        refine Rr.done (by kernel_rfl) ?_
        refine Wx.go (Wc.no rfl (Wc.skip (Wx.go (Wc.region (Wl.q (q_c 2 sc_9 hE1_0 rfl rfl) (Wl.run 1 rfl (Wl.q (q_slice_str (l := (min (rest s i).size 64)) (h := (rest s i).size) underlying9 rfl ⟨_, rfl⟩ rfl (by omega) (by omega) rfl) (Wl.e (e_store (i := 2) (v := Vs ((rest s i).extract (min (rest s i).size 64) ((rest s i).size))) sz_9 hE1_0 rfl (fun _ _ => rfl) rfl (by simp)) (fun _ _ => Wl.done (Wx.blockEnd (Wx.go (Wc.region (Wl.q (q_c 3 sc_3 hE2_0 rfl rfl) (Wl.q (q_add (c := (((f + i) + 1 : Nat) : Int)) rfl rfl (by rw [wrap_i64] <;> omega)) (Wl.e (e_store (i := 3) (v := Vi (((f + i) + 1 : Nat) : Int)) sz_3 hE2_0 rfl (fun _ _ => rfl) rfl (by simp)) (fun _ _ => Wl.done ?_))))))))))))))))
        refine Wx.at (i + 1, (d.write ((f + i : Nat) : Int) (piece s i)).2) ⟨(by simp only; omega), hE0_0, hE1_0, hE2_0, (hk.write _ _), (by omega), (by rw [hw3, wall_at d hm.1, if_pos hw0])⟩ (fun w hs => by have h2 : st W0 w ((lp ls l .ready none) :: (pt c1 9 [Vs (rest s (i + 1))]) :: (pt c2 3 [Vi (((f + (i + 1)) : Nat) : Int)]) :: (H (0, (d.write ((f + i : Nat) : Int) (piece s i)).2)) :: F) := (by rw [← rest_next]; exact (st_pull [0, 1, 1, 0] (hs))); exact h2)
      ·
        refine Wl.rg 1 rfl (Wc.seq (Wc.seq (Wc.inn ?_)))
        refine Ri.drawsS [9] ((lp ls l .ready none) :: (pt c1 9 [Vs (rest s i)]) :: (pt c2 3 [Vi (((f + i) : Nat) : Int)]) :: (H (0, d)) :: []) (by kernel_rfl) ?_
        refine Rr.pure (v := Value.func (.yield l) #[] #[]) 0 rfl (by kernel_rfl) (.inr (fun _ h => st_take [0, 0, 0, 0] h)) (.inl ⟨rfl, fun _ => q_move hE0_0⟩) ?_
        refine Rr.take (v := Vi (((f + i) : Nat) : Int)) 1 rfl (by kernel_rfl) (fun _ h => st_take [0, 0, 0, 0] h) (.inl ⟨rfl, q_c 2 sc_3 hE2_0 rfl rfl⟩) ?_
        refine Rr.take (v := Vs (rest s i)) 2 rfl (by kernel_rfl) (fun _ h => st_take [0, 0, 0, 0] h) (.inl ⟨rfl, q_c 1 sc_9 hE1_0 rfl rfl⟩) ?_
        refine Rr.pure (v := Vi (((min (rest s i).size 64) : Nat) : Int)) 3 rfl (by kernel_rfl) (.inr (fun _ h => st_take [0, 0, 0, 0] h)) (.inl ⟨rfl, fun _ => q_move rfl⟩) ?_
        refine Rr.pure (v := Vs ((rest s i).extract 0 (min (rest s i).size 64))) 4 rfl (by kernel_rfl) (.inr (fun _ h => st_take [0, 0, 0, 0] h)) (.inl ⟨rfl, fun _ => q_slice_str (l := 0) (h := (min (rest s i).size 64)) underlying9 rfl rfl ⟨_, rfl⟩ (by omega) (by omega) rfl⟩) ?_
        refine Rr.pure (v := Vi (((min (rest s i).size 64) : Nat) : Int)) 6 rfl (by kernel_rfl) (.inr (fun _ h => st_take [0, 0, 0, 0] h)) (.inl ⟨rfl, fun _ => q_move rfl⟩) ?_
        refine Rr.e 5 (by kernel_rfl) rfl (e_c call260 (none_c W0)) (.inr fun _ _ _ h => st_take [0, 0, 0, 0] h) (fun _ _ => ?_)
        refine Rr.imp (L' := (lp ls l .ready none) :: (pt c1 9 [Vs (rest s i)]) :: (pt c2 3 [Vi (((f + i) : Nat) : Int)]) :: (H (0, d)) :: F) (fun _ h => h) ?_
        refine Rr.pure (v := Vs (noughts.extract (min (rest s i).size 64) noughts.size)) 7 rfl (by kernel_rfl) (.inr (fun _ h => st_take [0, 0, 0, 0] h)) (.inl ⟨rfl, fun _ => q_slice_str (l := (min (rest s i).size 64)) (h := noughts.size) underlying9 rfl ⟨_, rfl⟩ rfl (by rw [noughts_size]; omega) (by omega) rfl⟩) ?_
        refine Rr.pure (v := Vs (piece s i)) 8 rfl (by kernel_rfl) (.inr (fun _ h => st_take [0, 0, 0, 0] h)) (.inl ⟨rfl, fun _ => q_cat (z := (piece s i)) rfl rfl (by rw [ByteArray.size_extract, ByteArray.size_extract, noughts_size]; omega) (by rw [noughts_size]; rfl)⟩) ?_
        refine Rr.imp (L' := (lp ls l .ready none) :: (H (0, d)) :: (pt c1 9 [Vs (rest s i)]) :: (pt c2 3 [Vi (((f + i) : Nat) : Int)]) :: F) (fun _ h => st_pull [0, 2] h) ?_
        refine Rr.ei 9 (by kernel_rfl) rfl (e_yield (F := (pt c1 9 [Vs (rest s i)]) :: (pt c2 3 [Vi (((f + i) : Nat) : Int)]) :: F) (args := [Vi (((f + i) : Nat) : Int), Vs (piece s i)]) (pre := [lp ls l .ready none, H (0, d)]) rfl rfl (hy1 i d hk hm.1 hw0)) (.inl (by kernel_rfl)) (fun _ _ => ?_)
        refine Rr.imp (L' := (lp ls l .done (some .ret)) :: (H (d.write ((f + i : Nat) : Int) (piece s i))) :: (pt c1 9 [Vs (rest s i)]) :: (pt c2 3 [Vi (((f + i) : Nat) : Int)]) :: F) (fun _ h => h) ?_
        refine Rr.rebaseS [] ((lp ls l .done (some .ret)) :: (H (d.write ((f + i : Nat) : Int) (piece s i))) :: (pt c1 9 [Vs (rest s i)]) :: (pt c2 3 [Vi (((f + i) : Nat) : Int)]) :: []) (by kernel_rfl) ?_
        refine Rr.pure (v := Vt) 10 rfl (by kernel_rfl) (.inr (fun _ h => st_take [0, 0, 0, 0] h)) (.inl ⟨rfl, fun _ => q_not rfl rfl⟩) ?_
        refine Rr.done (by kernel_rfl) ?_
        refine Wx.go (Wc.yes rfl (Wc.ret (Wx.thenRet (Wx.blockRet (Wx.thenRet (Wx.thenRet (Wx.blockRet (Wx.fin0 rfl (.inl rfl) (fun w hs => ?_)))))))))
        have er : (wall d0 (pieces s f)) = (d.write ((f + i : Nat) : Int) (piece s i)) := by rw [hw3, wall_at d hm.1, if_neg hw0]
        exact ⟨(), trivial, rfl, by rw [er, if_neg hw0, if_neg hw0]; exact (st_drop (st_drop (st_pull [2, 2] hs)))⟩
end Go.Proofs.YtjnejkdamhefgaaGreatDoor
