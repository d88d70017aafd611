/- What follows: contracts of the calls. -/
import Derived.Test.YtmghnmfhniohkaaDdL2
namespace Go.Proofs.Ytmghnmfhniohkaa
open Go Go.SL Go.Dd Go.RowKit
set_option linter.unusedVariables false

def chapterL : List TermR := [⟨1, 1, 0, 0⟩, ⟨5, 0, 1, 0⟩, ⟨1, 2, 0, 0⟩, ⟨6, 0, 2, 3⟩, ⟨1, 3, 0, 0⟩, ⟨6, 0, 3, 5⟩, ⟨3, 0, 4, 6⟩, ⟨7, 0, 5, 0⟩]
theorem chapter_build : build [] chapterL = chapterL := by decide +kernel
theorem build_all {l : List TermR} (h : ∀ x ∈ l, okT x) : Wf (build [] l) := by have := build_wf h l.length; rwa [List.take_length] at this
theorem build_all_le (l : List TermR) : (build [] l).length ≤ l.length := by have := build_le (l := l) l.length; rwa [List.take_length] at this
theorem chapter_ok : ∀ x ∈ chapterL, okT x := by
  unfold chapterL okT
  intro x hx
  simp only [List.mem_cons, List.not_mem_nil, or_false] at hx
  rcases hx with rfl | rfl | rfl | rfl | rfl | rfl | rfl | rfl <;> simp
/-- Is a set closed? -/
def closedB (ts : List TermR) (S : Nat → Bool) : Bool := S 0 && (List.range (ts.length + 1)).all fun n => match atN ts n with
  | none => true
  | some t => (t.kind != 2 || S n) && (t.kind == 1 || t.kind == 2 || !S t.a.toNat || !S t.b.toNat || S n) && (t.kind != 3 || !S n || (S t.a.toNat && S t.b.toNat)) && (t.kind != 6 || !S n || !S (byN ts t.a.toNat) || S t.b.toNat)
theorem closed_of {ts : List TermR} {S : Nat → Bool} (h : closedB ts S = true) : Closed ts (fun n => S n = true) := by
  unfold closedB at h
  rw [Bool.and_eq_true, List.all_eq_true] at h
  obtain ⟨h0, h⟩ := h
  have key : ∀ n t, atN ts n = some t → ((t.kind != 2 || S n) && (t.kind == 1 || t.kind == 2 || !S t.a.toNat || !S t.b.toNat || S n) && (t.kind != 3 || !S n || (S t.a.toNat && S t.b.toNat)) && (t.kind != 6 || !S n || !S (byN ts t.a.toNat) || S t.b.toNat)) = true := fun n t ht => by
    have hn : n ∈ List.range (ts.length + 1) := by
      rw [List.mem_range]
      unfold atN at ht
      split at ht
      · cases ht
      · have := (List.getElem?_eq_some_iff.1 ht).1; omega
    have := h n hn
    rw [ht] at this; exact this
  refine ⟨h0, fun n t ht hk => ?_, fun n t ht h1 h2 ha hb => ?_, fun n t ht hk hn => ?_, fun n t ht hk hn => ?_, fun n t ht hk hn hb => ?_⟩ <;> have := key n t ht <;> simp_all
theorem live1 : derB chapterL (KL [7, 1]) 5 = true := by
  refine derB_iff.2 ⟨by decide, by decide, ?_⟩
  have h7 : Der chapterL (KL [7, 1]) 7 := .known ⟨7, by simp, rfl⟩
  have h1 : Der chapterL (KL [7, 1]) 1 := .known ⟨1, by simp, rfl⟩
  have h4 : Der chapterL (KL [7, 1]) 4 := Der.fst (n := 7) (t := ⟨3, 0, 4, 6⟩) rfl rfl h7
  have h6 : Der chapterL (KL [7, 1]) 6 := Der.snd (n := 7) (t := ⟨3, 0, 4, 6⟩) rfl rfl h7
  have h3 : Der chapterL (KL [7, 1]) 3 := Der.opn (n := 4) (t := ⟨6, 0, 2, 3⟩) rfl rfl h4 (by rw [show byN chapterL (2 : Int).toNat = 1 from by decide +kernel]; exact h1)
  exact Der.opn (n := 6) (t := ⟨6, 0, 3, 5⟩) rfl rfl h6 (by rw [show byN chapterL (3 : Int).toNat = 3 from by decide +kernel]; exact h3)
theorem live2 : derB chapterL (KL [7]) 5 = false := by
  refine Bool.eq_false_iff.2 fun h => ?_
  have h5 := (derB_iff.1 h).2.2
  have := h5.least (closed_of (S := fun n => n == 0 || n == 4 || n == 6 || n == 7) (by decide +kernel)) (fun n hn => by
    obtain ⟨x, hx, e⟩ := hn
    simp only [List.mem_singleton] at hx
    subst hx; subst e; rfl)
  exact absurd this (by decide)

theorem chapter_c (W0 : World)  :
    Con Try.prog W0 27 #[] [] (X := Nat) (fun _ => True) (fun b => .slice (some ⟨b, 0, none⟩) 8 8) (fun b => [pt b 46 [Value.int .u8 1, Value.int .i64 1, Value.int .i64 0, Value.int .i64 0, Value.int .u8 5, Value.int .i64 0, Value.int .i64 1, Value.int .i64 0, Value.int .u8 1, Value.int .i64 2, Value.int .i64 0, Value.int .i64 0, Value.int .u8 6, Value.int .i64 0, Value.int .i64 2, Value.int .i64 3, Value.int .u8 1, Value.int .i64 3, Value.int .i64 0, Value.int .i64 0, Value.int .u8 6, Value.int .i64 0, Value.int .i64 3, Value.int .i64 5, Value.int .u8 3, Value.int .i64 0, Value.int .i64 4, Value.int .i64 6, Value.int .u8 7, Value.int .i64 0, Value.int .i64 5, Value.int .i64 0]]) := by
  refine Con.of (args := []) Try.func27 rfl Try.ntmps27 rfl (fun F => ?_)
  show Wc _ W0 _ _ _ _ _ (F)
  refine Wc.seq ?_
  refine Wc.region ?_
  refine Wl.q (v := Value.slice none 0 0) (q_assign rfl) ?_
  refine Wl.done ?_
  refine Wx.go ?_
  refine Wc.seq ?_
  refine Wc.region ?_
  refine Wl.q (v := Value.agg #[Value.int .u8 1, Value.int .i64 1, Value.int .i64 0, Value.int .i64 0]) (q_build (pl := [(0, 1), (1, 1), (2, 1), (3, 1)]) Try.underlying46 zo_46 (by kernel_rfl) (by kernel_rfl)) ?_
  refine Wl.q (v := Value.agg #[Value.int .u8 5, Value.int .i64 0, Value.int .i64 1, Value.int .i64 0]) (q_build (pl := [(0, 1), (1, 1), (2, 1), (3, 1)]) Try.underlying46 zo_46 (by kernel_rfl) (by kernel_rfl)) ?_
  refine Wl.q (v := Value.agg #[Value.int .u8 1, Value.int .i64 2, Value.int .i64 0, Value.int .i64 0]) (q_build (pl := [(0, 1), (1, 1), (2, 1), (3, 1)]) Try.underlying46 zo_46 (by kernel_rfl) (by kernel_rfl)) ?_
  refine Wl.q (v := Value.agg #[Value.int .u8 6, Value.int .i64 0, Value.int .i64 2, Value.int .i64 3]) (q_build (pl := [(0, 1), (1, 1), (2, 1), (3, 1)]) Try.underlying46 zo_46 (by kernel_rfl) (by kernel_rfl)) ?_
  refine Wl.q (v := Value.agg #[Value.int .u8 1, Value.int .i64 3, Value.int .i64 0, Value.int .i64 0]) (q_build (pl := [(0, 1), (1, 1), (2, 1), (3, 1)]) Try.underlying46 zo_46 (by kernel_rfl) (by kernel_rfl)) ?_
  refine Wl.q (v := Value.agg #[Value.int .u8 6, Value.int .i64 0, Value.int .i64 3, Value.int .i64 5]) (q_build (pl := [(0, 1), (1, 1), (2, 1), (3, 1)]) Try.underlying46 zo_46 (by kernel_rfl) (by kernel_rfl)) ?_
  refine Wl.q (v := Value.agg #[Value.int .u8 3, Value.int .i64 0, Value.int .i64 4, Value.int .i64 6]) (q_build (pl := [(0, 1), (1, 1), (2, 1), (3, 1)]) Try.underlying46 zo_46 (by kernel_rfl) (by kernel_rfl)) ?_
  refine Wl.q (v := Value.agg #[Value.int .u8 7, Value.int .i64 0, Value.int .i64 5, Value.int .i64 0]) (q_build (pl := [(0, 1), (1, 1), (2, 1), (3, 1)]) Try.underlying46 zo_46 (by kernel_rfl) (by kernel_rfl)) ?_
  refine Wl.e (e_buildSlice (cs := [Value.int .u8 1, Value.int .i64 1, Value.int .i64 0, Value.int .i64 0, Value.int .u8 5, Value.int .i64 0, Value.int .i64 1, Value.int .i64 0, Value.int .u8 1, Value.int .i64 2, Value.int .i64 0, Value.int .i64 0, Value.int .u8 6, Value.int .i64 0, Value.int .i64 2, Value.int .i64 3, Value.int .u8 1, Value.int .i64 3, Value.int .i64 0, Value.int .i64 0, Value.int .u8 6, Value.int .i64 0, Value.int .i64 3, Value.int .i64 5, Value.int .u8 3, Value.int .i64 0, Value.int .i64 4, Value.int .i64 6, Value.int .u8 7, Value.int .i64 0, Value.int .i64 5, Value.int .i64 0]) se_22 zo_46 (by decide) (by decide) (by kernel_rfl)) (fun b _ => ?_)
  refine Wl.imp (L' := (pt b 46 [Value.int .u8 1, Value.int .i64 1, Value.int .i64 0, Value.int .i64 0, Value.int .u8 5, Value.int .i64 0, Value.int .i64 1, Value.int .i64 0, Value.int .u8 1, Value.int .i64 2, Value.int .i64 0, Value.int .i64 0, Value.int .u8 6, Value.int .i64 0, Value.int .i64 2, Value.int .i64 3, Value.int .u8 1, Value.int .i64 3, Value.int .i64 0, Value.int .i64 0, Value.int .u8 6, Value.int .i64 0, Value.int .i64 3, Value.int .i64 5, Value.int .u8 3, Value.int .i64 0, Value.int .i64 4, Value.int .i64 6, Value.int .u8 7, Value.int .i64 0, Value.int .i64 5, Value.int .i64 0]) :: F) (fun _ h => h) ?_
  refine Wl.q (v := Value.slice (some ⟨b, 0, none⟩) 8 8) (q_assign rfl) ?_
  refine Wl.done ?_
  refine Wx.go ?_
  refine Wc.ret ?_
  refine Wx.fin1 rfl (.inl rfl) (fun w hs => ?_)
  exact ⟨b, trivial, rfl, hs⟩

theorem build_b (W0 : World) (b cap : Nat) (l : List TermR) (hlm : l.length ≤ 1000000) (hlo : ∀ x ∈ l, okT x) :
    Con Try.prog W0 9 #[Value.slice (some ⟨b, 0, none⟩) l.length cap] [pt b 46 (l.flatMap termCells)] (X := Nat × Nat) (fun _ => True) (fun y => .tuple #[.pointer (some ⟨y.1, 0, none⟩), .pointer (some ⟨y.2, 0, none⟩), .bool true]) (fun y => [storeI y.1 (build [] l), refI y.2 (build [] l)]) := by
  refine Con.of (args := [Value.slice (some ⟨b, 0, none⟩) l.length cap]) Try.func9 rfl Try.ntmps9 rfl (fun F => ?_)
  show Wc _ W0 _ _ _ _ _ ((pt b 46 (l.flatMap termCells)) :: F)
  refine Wc.seq ?_
  refine Wc.region ?_
  refine Wl.q (v := Value.pointer none) (q_assign rfl) ?_
  refine Wl.q (v := Value.pointer none) (q_assign rfl) ?_
  refine Wl.q (v := Value.bool false) (q_assign rfl) ?_
  refine Wl.done ?_
  refine Wx.go ?_
  refine Wc.seq ?_
  refine Wc.region ?_
  refine Wl.e (e_call (F := (pt b 46 (l.flatMap termCells)) :: F) (args := []) Try.call24 rfl (tnew_c W0)) (fun s _ => ?_)
  refine Wl.imp (L' := (storeI s []) :: (pt b 46 (l.flatMap termCells)) :: F) (fun _ h => h) ?_
  refine Wl.q (v := Value.pointer (some ⟨s, 0, none⟩)) (q_assign rfl) ?_
  refine Wl.done ?_
  refine Wx.go ?_
  refine Wc.seq ?_
  refine Wc.region ?_
  refine Wl.e (e_call (F := (storeI s []) :: (pt b 46 (l.flatMap termCells)) :: F) (args := []) Try.call25 rfl (rtnew_c W0)) (fun r _ => ?_)
  refine Wl.imp (L' := (refI r []) :: (storeI s []) :: (pt b 46 (l.flatMap termCells)) :: F) (fun _ h => h) ?_
  refine Wl.q (v := Value.pointer (some ⟨r, 0, none⟩)) (q_assign rfl) ?_
  refine Wl.done ?_
  refine Wx.go ?_
  refine Wc.seq ?_
  refine Wc.seq ?_
  refine Wc.region ?_
  refine Wl.q (v := Value.int .i64 0) (q_assign rfl) ?_
  refine Wl.done ?_
  refine Wx.go ?_
  refine Wc.block ?_
  refine Wc.loop (X := Nat) (fun k E => E 7 = Value.int .i64 ((k : Nat) : Int) ∧ E 0 = Value.slice (some ⟨b, 0, none⟩) l.length cap ∧ E 5 = Value.pointer (some ⟨s, 0, none⟩) ∧ E 6 = Value.pointer (some ⟨r, 0, none⟩) ∧ k ≤ l.length) (fun k => (storeI s (build [] (l.take k))) :: (refI r (build [] (l.take k))) :: (pt b 46 (l.flatMap termCells)) :: F) (fun k => l.length - k) 0 ?_ ?_ ?_
  · exact ⟨rfl, rfl, rfl, rfl, (by omega)⟩
  · exact fun w hs => (st_pull [1, 0, 0] (hs))
  · rintro k E2 ⟨hE7_0, hE0_0, hE5_0, hE6_0, hk⟩
    refine Wc.seq ?_
    refine Wc.seq ?_
    refine Wc.region ?_
    refine Wl.q (v := Value.int .i64 ((k : Nat) : Int)) (q_move hE7_0) ?_
    refine Wl.q (v := Value.slice (some ⟨b, 0, none⟩) l.length cap) (q_move hE0_0) ?_
    refine Wl.q (v := Value.int .i64 ((l.length : Nat) : Int)) (q_len_slice Try.underlying22 rfl) ?_
    by_cases hlt : ((k : Nat) : Int) < ((l.length : Nat) : Int)
    ·
      obtain ⟨o, hget⟩ : ∃ o, l[k]? = some o := ⟨l[k]'(by omega), List.getElem?_eq_getElem (by omega)⟩
      have hok := hlo o (List.mem_of_getElem? hget)
      refine Wl.q (v := Value.bool true) (q_lss (r := true) rfl rfl (decide_eq_true hlt)) ?_
      refine Wl.done ?_
      refine Wx.go ?_
      refine Wc.yes rfl ?_
      refine Wc.skip ?_
      refine Wx.go ?_
      refine Wc.seq ?_
      refine Wc.block ?_
      refine Wc.seq ?_
      refine Wc.region ?_
      refine Wl.q (v := Value.pointer (some ⟨s, 0, none⟩)) (q_move hE5_0) ?_
      refine Wl.q (v := Value.slice (some ⟨b, 0, none⟩) l.length cap) (q_move hE0_0) ?_
      refine Wl.q (v := Value.int .i64 ((k : Nat) : Int)) (q_move hE7_0) ?_
      refine Wl.q (v := Value.pointer (some ⟨b, k * 4, none⟩)) (q_idx (m := k * 4) se_22 rfl rfl (by omega) (by omega) (by simp)) ?_
      refine Wl.q (v := Value.agg #[Value.int .u8 ((o.kind : Nat) : Int), Value.int .i64 o.n, Value.int .i64 o.a, Value.int .i64 o.b]) (q_loadAgg (vs := [Value.int .u8 ((o.kind : Nat) : Int), Value.int .i64 o.n, Value.int .i64 o.a, Value.int .i64 o.b]) ag_46 rfl (fun j u hj => .cel (i := 2) rfl (flat4 hget j u hj))) ?_
      refine Wl.e (e_call (F := (refI r (build [] (l.take k))) :: (pt b 46 (l.flatMap termCells)) :: F) (args := [Value.pointer (some ⟨s, 0, none⟩), Value.agg #[Value.int .u8 ((o.kind : Nat) : Int), Value.int .i64 o.n, Value.int .i64 o.a, Value.int .i64 o.b]]) Try.call19 rfl (make_c W0 s (build [] (l.take k)) o (build_wf hlo k) (by have := build_le (l := l) k; omega) hok)) (fun _ _ => ?_)
      refine Wl.imp (L' := (storeI s ((mk (build [] (l.take k)) o).1)) :: (refI r (build [] (l.take k))) :: (pt b 46 (l.flatMap termCells)) :: F) (fun _ h => h) ?_
      refine Wl.q (v := Value.tuple #[Value.int .i64 (((mk (build [] (l.take k)) o).2.1 : Nat) : Int), Value.int .i64 ((mk (build [] (l.take k)) o).2.2)]) (q_move rfl) ?_
      refine Wl.q (v := Value.int .i64 (((mk (build [] (l.take k)) o).2.1 : Nat) : Int)) (q_extract (i := 0) rfl rfl) ?_
      refine Wl.q (v := Value.int .i64 ((mk (build [] (l.take k)) o).2.2)) (q_extract (i := 1) rfl rfl) ?_
      refine Wl.q (v := Value.int .i64 (((mk (build [] (l.take k)) o).2.1 : Nat) : Int)) (q_assign rfl) ?_
      refine Wl.q (v := Value.int .i64 ((mk (build [] (l.take k)) o).2.2)) (q_assign rfl) ?_
      refine Wl.done ?_
      refine Wx.go ?_
      refine Wc.seq ?_
      refine Wc.region ?_
      refine Wl.q (v := Value.pointer (some ⟨r, 0, none⟩)) (q_move hE6_0) ?_
      refine Wl.q (v := Value.slice (some ⟨b, 0, none⟩) l.length cap) (q_move hE0_0) ?_
      refine Wl.q (v := Value.int .i64 ((k : Nat) : Int)) (q_move hE7_0) ?_
      refine Wl.q (v := Value.pointer (some ⟨b, k * 4, none⟩)) (q_idx (m := k * 4) se_22 rfl rfl (by omega) (by omega) (by simp)) ?_
      refine Wl.q (v := Value.agg #[Value.int .u8 ((o.kind : Nat) : Int), Value.int .i64 o.n, Value.int .i64 o.a, Value.int .i64 o.b]) (q_loadAgg (vs := [Value.int .u8 ((o.kind : Nat) : Int), Value.int .i64 o.n, Value.int .i64 o.a, Value.int .i64 o.b]) ag_46 rfl (fun j u hj => .cel (i := 2) rfl (flat4 hget j u hj))) ?_
      refine Wl.imp (L' := (refI r (build [] (l.take k))) :: (storeI s ((mk (build [] (l.take k)) o).1)) :: (pt b 46 (l.flatMap termCells)) :: F) (fun _ h => st_pull [1] h) ?_
      refine Wl.e (e_call (F := (storeI s ((mk (build [] (l.take k)) o).1)) :: (pt b 46 (l.flatMap termCells)) :: F) (args := [Value.pointer (some ⟨r, 0, none⟩), Value.agg #[Value.int .u8 ((o.kind : Nat) : Int), Value.int .i64 o.n, Value.int .i64 o.a, Value.int .i64 o.b]]) Try.call23 rfl (rmake_c W0 r (build [] (l.take k)) o (build_wf hlo k) (by have := build_le (l := l) k; omega) hok)) (fun _ _ => ?_)
      refine Wl.imp (L' := (refI r ((mk (build [] (l.take k)) o).1)) :: (storeI s ((mk (build [] (l.take k)) o).1)) :: (pt b 46 (l.flatMap termCells)) :: F) (fun _ h => h) ?_
      refine Wl.q (v := Value.tuple #[Value.int .i64 (((mk (build [] (l.take k)) o).2.1 : Nat) : Int), Value.int .i64 ((mk (build [] (l.take k)) o).2.2)]) (q_move rfl) ?_
      refine Wl.q (v := Value.int .i64 (((mk (build [] (l.take k)) o).2.1 : Nat) : Int)) (q_extract (i := 0) rfl rfl) ?_
      refine Wl.q (v := Value.int .i64 ((mk (build [] (l.take k)) o).2.2)) (q_extract (i := 1) rfl rfl) ?_
      refine Wl.q (v := Value.int .i64 (((mk (build [] (l.take k)) o).2.1 : Nat) : Int)) (q_assign rfl) ?_
      refine Wl.q (v := Value.int .i64 ((mk (build [] (l.take k)) o).2.2)) (q_assign rfl) ?_
      refine Wl.done ?_
      refine Wx.go ?_
      refine Wc.seq ?_
      refine Wc.region ?_
      refine Wl.q (v := Value.int .i64 (((mk (build [] (l.take k)) o).2.1 : Nat) : Int)) (q_move rfl) ?_
      refine Wl.q (v := Value.int .i64 (((mk (build [] (l.take k)) o).2.1 : Nat) : Int)) (q_move rfl) ?_
      refine Wl.q (v := Value.bool false) (q_neq (r := true) rfl rfl (decide_eq_true (rfl))) ?_
      refine Wl.q (v := Value.bool false) (q_move rfl) ?_
      refine Wl.q (v := Value.int .i64 ((mk (build [] (l.take k)) o).2.2)) (q_move rfl) ?_
      refine Wl.q (v := Value.int .i64 ((mk (build [] (l.take k)) o).2.2)) (q_move rfl) ?_
      refine Wl.q (v := Value.bool false) (q_neq (r := true) rfl rfl (decide_eq_true (rfl))) ?_
      refine Wl.q (v := Value.bool false) (q_pick (t := false) rfl rfl) ?_
      refine Wl.done ?_
      refine Wx.go ?_
      refine Wc.no rfl ?_
      refine Wc.skip ?_
      refine Wx.blockEnd ?_
      refine Wx.go ?_
      refine Wc.region ?_
      refine Wl.q (v := Value.int .i64 ((k : Nat) : Int)) (q_move hE7_0) ?_
      refine Wl.q (v := Value.int .i64 ((k + 1 : Nat) : Int)) (q_add (c := ((k + 1 : Nat) : Int)) rfl rfl (by rw [wrap_i64] <;> omega)) ?_
      refine Wl.q (v := Value.int .i64 ((k + 1 : Nat) : Int)) (q_assign rfl) ?_
      refine Wl.done ?_
      refine Wx.at (k + 1) ⟨(by omega), rfl, hE0_0, hE5_0, hE6_0, (by omega)⟩ (fun w hs => by rw [build_take hget]; exact (st_pull [1, 0, 0] (hs)))
    ·
      have hke : k = l.length := by omega
      refine Wl.q (v := Value.bool false) (q_lss (r := false) rfl rfl (decide_eq_false hlt)) ?_
      refine Wl.done ?_
      refine Wx.go ?_
      refine Wc.no rfl ?_
      refine Wc.exit ?_
      refine Wx.thenExit ?_
      refine Wx.thenExit ?_
      refine Wx.out ?_
      refine Wx.go ?_
      refine Wc.seq ?_
      refine Wc.region ?_
      refine Wl.q (v := Value.pointer (some ⟨s, 0, none⟩)) (q_move hE5_0) ?_
      refine Wl.q (v := Value.pointer (some ⟨r, 0, none⟩)) (q_move hE6_0) ?_
      refine Wl.q (v := Value.pointer (some ⟨s, 0, none⟩)) (q_move hE5_0) ?_
      refine Wl.q (v := Value.bool true) (q_neq_nil (r := false) rfl rfl Try.underlying24 rfl) ?_
      refine Wl.q (v := Value.pointer (some ⟨s, 0, none⟩)) (q_assign rfl) ?_
      refine Wl.q (v := Value.pointer (some ⟨r, 0, none⟩)) (q_assign rfl) ?_
      refine Wl.q (v := Value.bool true) (q_assign rfl) ?_
      refine Wl.done ?_
      refine Wx.go ?_
      refine Wc.ret ?_
      refine Wx.fin3 rfl (.inl rfl) (fun w hs => ?_)
      rw [hke, List.take_length] at hs
      exact ⟨(s, r), trivial, rfl, (st_drop (st_pull [2] hs))⟩

theorem lives_c (W0 : World)  :
    Con Try.prog W0 12 #[] [] (X := Unit) (fun _ => True) (fun _ => .bool true) (fun _ => []) := by
  refine Con.of (args := []) Try.func12 rfl Try.ntmps12 rfl (fun F => ?_)
  show Wc _ W0 _ _ _ _ _ (F)
  refine Wc.seq ?_
  refine Wc.region ?_
  refine Wl.q (v := Value.bool false) (q_assign rfl) ?_
  refine Wl.done ?_
  refine Wx.go ?_
  refine Wc.seq ?_
  refine Wc.region ?_
  refine Wl.e (e_call (F := F) (args := []) Try.call27 rfl (chapter_c W0)) (fun cb _ => ?_)
  refine Wl.imp (L' := (pt cb 46 [Value.int .u8 1, Value.int .i64 1, Value.int .i64 0, Value.int .i64 0, Value.int .u8 5, Value.int .i64 0, Value.int .i64 1, Value.int .i64 0, Value.int .u8 1, Value.int .i64 2, Value.int .i64 0, Value.int .i64 0, Value.int .u8 6, Value.int .i64 0, Value.int .i64 2, Value.int .i64 3, Value.int .u8 1, Value.int .i64 3, Value.int .i64 0, Value.int .i64 0, Value.int .u8 6, Value.int .i64 0, Value.int .i64 3, Value.int .i64 5, Value.int .u8 3, Value.int .i64 0, Value.int .i64 4, Value.int .i64 6, Value.int .u8 7, Value.int .i64 0, Value.int .i64 5, Value.int .i64 0]) :: F) (fun _ h => h) ?_
  refine Wl.e (e_call (F := F) (args := [Value.slice (some ⟨cb, 0, none⟩) 8 8]) Try.call9 rfl (Con.eqs (post' := fun y => [storeI y.1 chapterL, refI y.2 chapterL]) (build_b W0 cb 8 chapterL (by decide) chapter_ok) (fun _ => rfl) (fun _ => by rw [chapter_build]))) (fun ⟨s, r⟩ _ => ?_)
  refine Wl.imp (L' := (storeI s chapterL) :: (refI r chapterL) :: F) (fun _ h => h) ?_
  refine Wl.q (v := Value.tuple #[Value.pointer (some ⟨s, 0, none⟩), Value.pointer (some ⟨r, 0, none⟩), Value.bool true]) (q_move rfl) ?_
  refine Wl.q (v := Value.pointer (some ⟨s, 0, none⟩)) (q_extract (i := 0) rfl rfl) ?_
  refine Wl.q (v := Value.pointer (some ⟨r, 0, none⟩)) (q_extract (i := 1) rfl rfl) ?_
  refine Wl.q (v := Value.bool true) (q_extract (i := 2) rfl rfl) ?_
  refine Wl.q (v := Value.pointer (some ⟨s, 0, none⟩)) (q_assign rfl) ?_
  refine Wl.q (v := Value.pointer (some ⟨r, 0, none⟩)) (q_assign rfl) ?_
  refine Wl.q (v := Value.bool true) (q_assign rfl) ?_
  refine Wl.done ?_
  refine Wx.go ?_
  refine Wc.seq ?_
  refine Wc.region ?_
  refine Wl.q (v := Value.pointer (some ⟨s, 0, none⟩)) (q_move rfl) ?_
  refine Wl.e (e_buildSlice (cs := [Value.int .i64 7, Value.int .i64 1]) se_23 zo_3 (by decide) (by decide) (by kernel_rfl)) (fun b1 _ => ?_)
  refine Wl.imp (L' := (pt b1 3 [Value.int .i64 7, Value.int .i64 1]) :: (storeI s chapterL) :: (refI r chapterL) :: F) (fun _ h => h) ?_
  refine Wl.imp (L' := (sl 3 1 (Value.slice (some ⟨b1, 0, none⟩) 2 2) (([7, 1] : List Int).length) (([7, 1] : List Int).map intV)) :: (storeI s chapterL) :: (refI r chapterL) :: F) (fun w hs => st_sl_mk rfl (by decide) (st_slp_pt rfl (by decide) hs)) ?_
  refine Wl.imp (L' := (storeI s chapterL) :: (sl 3 1 (Value.slice (some ⟨b1, 0, none⟩) 2 2) (([7, 1] : List Int).length) (([7, 1] : List Int).map intV)) :: (refI r chapterL) :: F) (fun _ h => st_pull [1, 0] h) ?_
  refine Wl.e (e_call (F := (refI r chapterL) :: F) (args := [Value.pointer (some ⟨s, 0, none⟩), Value.slice (some ⟨b1, 0, none⟩) 2 2, Value.int .i64 5]) Try.call10 rfl (Con.eqs (val' := fun _ => .tuple #[.bool true, .int .i64 0]) (fol_ok_sl W0 s chapterL (chapter_build ▸ build_all chapter_ok) (by decide) (Value.slice (some ⟨b1, 0, none⟩) 2 2) [7, 1] (by decide) 5 (by decide) (by decide) (by decide)) (fun _ => by rw [live1]) (fun _ => rfl))) (fun _ _ => ?_)
  refine Wl.imp (L' := (storeI s chapterL) :: (sl 3 1 (Value.slice (some ⟨b1, 0, none⟩) 2 2) (([7, 1] : List Int).length) (([7, 1] : List Int).map intV)) :: (refI r chapterL) :: F) (fun _ h => h) ?_
  refine Wl.q (v := Value.tuple #[Value.bool true, Value.int .i64 0]) (q_move rfl) ?_
  refine Wl.q (v := Value.bool true) (q_extract (i := 0) rfl rfl) ?_
  refine Wl.q (v := Value.int .i64 0) (q_extract (i := 1) rfl rfl) ?_
  refine Wl.q (v := Value.bool true) (q_assign rfl) ?_
  refine Wl.q (v := Value.int .i64 0) (q_assign rfl) ?_
  refine Wl.done ?_
  refine Wx.go ?_
  refine Wc.seq ?_
  refine Wc.region ?_
  refine Wl.q (v := Value.pointer (some ⟨s, 0, none⟩)) (q_move rfl) ?_
  refine Wl.e (e_buildSlice (cs := [Value.int .i64 7]) se_23 zo_3 (by decide) (by decide) (by kernel_rfl)) (fun b2 _ => ?_)
  refine Wl.imp (L' := (pt b2 3 [Value.int .i64 7]) :: (storeI s chapterL) :: (sl 3 1 (Value.slice (some ⟨b1, 0, none⟩) 2 2) (([7, 1] : List Int).length) (([7, 1] : List Int).map intV)) :: (refI r chapterL) :: F) (fun _ h => h) ?_
  refine Wl.imp (L' := (pt b2 3 [Value.int .i64 7]) :: (storeI s chapterL) :: (refI r chapterL) :: F) (fun w hs => (st_drop (st_pull [2] hs))) ?_
  refine Wl.imp (L' := (sl 3 1 (Value.slice (some ⟨b2, 0, none⟩) 1 1) (([7] : List Int).length) (([7] : List Int).map intV)) :: (storeI s chapterL) :: (refI r chapterL) :: F) (fun w hs => st_sl_mk rfl (by decide) (st_slp_pt rfl (by decide) hs)) ?_
  refine Wl.imp (L' := (storeI s chapterL) :: (sl 3 1 (Value.slice (some ⟨b2, 0, none⟩) 1 1) (([7] : List Int).length) (([7] : List Int).map intV)) :: (refI r chapterL) :: F) (fun _ h => st_pull [1, 0] h) ?_
  refine Wl.e (e_call (F := (refI r chapterL) :: F) (args := [Value.pointer (some ⟨s, 0, none⟩), Value.slice (some ⟨b2, 0, none⟩) 1 1, Value.int .i64 5]) Try.call10 rfl (Con.eqs (val' := fun _ => .tuple #[.bool false, .int .i64 0]) (fol_ok_sl W0 s chapterL (chapter_build ▸ build_all chapter_ok) (by decide) (Value.slice (some ⟨b2, 0, none⟩) 1 1) [7] (by decide) 5 (by decide) (by decide) (by decide)) (fun _ => by rw [live2]) (fun _ => rfl))) (fun _ _ => ?_)
  refine Wl.imp (L' := (storeI s chapterL) :: (sl 3 1 (Value.slice (some ⟨b2, 0, none⟩) 1 1) (([7] : List Int).length) (([7] : List Int).map intV)) :: (refI r chapterL) :: F) (fun _ h => h) ?_
  refine Wl.q (v := Value.tuple #[Value.bool false, Value.int .i64 0]) (q_move rfl) ?_
  refine Wl.q (v := Value.bool false) (q_extract (i := 0) rfl rfl) ?_
  refine Wl.q (v := Value.int .i64 0) (q_extract (i := 1) rfl rfl) ?_
  refine Wl.q (v := Value.bool false) (q_assign rfl) ?_
  refine Wl.q (v := Value.int .i64 0) (q_assign rfl) ?_
  refine Wl.done ?_
  refine Wx.go ?_
  refine Wc.seq ?_
  refine Wc.region ?_
  refine Wl.q (v := Value.bool true) (q_move rfl) ?_
  refine Wl.q (v := Value.bool true) (q_move rfl) ?_
  refine Wl.q (v := Value.int .i64 0) (q_move rfl) ?_
  refine Wl.q (v := Value.bool true) (q_eql (r := true) rfl rfl (decide_eq_true (by decide))) ?_
  refine Wl.q (v := Value.bool true) (q_pick (t := true) rfl rfl) ?_
  refine Wl.q (v := Value.bool true) (q_move rfl) ?_
  refine Wl.q (v := Value.int .i64 0) (q_move rfl) ?_
  refine Wl.q (v := Value.bool true) (q_eql (r := true) rfl rfl (decide_eq_true (by decide))) ?_
  refine Wl.q (v := Value.bool true) (q_pick (t := true) rfl rfl) ?_
  refine Wl.q (v := Value.bool true) (q_move rfl) ?_
  refine Wl.q (v := Value.bool true) (q_move rfl) ?_
  refine Wl.q (v := Value.bool true) (q_pick (t := true) rfl rfl) ?_
  refine Wl.q (v := Value.bool true) (q_move rfl) ?_
  refine Wl.q (v := Value.bool false) (q_move rfl) ?_
  refine Wl.q (v := Value.bool true) (q_not rfl rfl) ?_
  refine Wl.q (v := Value.bool true) (q_pick (t := true) rfl rfl) ?_
  refine Wl.q (v := Value.bool true) (q_assign rfl) ?_
  refine Wl.done ?_
  refine Wx.go ?_
  refine Wc.ret ?_
  refine Wx.fin1 rfl (.inl rfl) (fun w hs => ?_)
  exact ⟨(), trivial, rfl, (st_drop (st_drop (st_drop (st_pull [0, 0, 0] hs))))⟩

theorem rnew_okc (W0 : World) (r : Nat) (ts : List TermR) (hw : Wf ts) (hl : ts.length ≤ 1048576) (vl : Value) (l : List Int) (hkl : Rd W0 vl l.length (l.flatMap int1)) (hkm : l.length ≤ 9223372036854775807) (hshort : l.length ≤ 65536) (hall0 : ∀ x ∈ l, 1 ≤ x ∧ x ≤ (ts.length : Int)) :
    Con Try.prog W0 11 #[Value.pointer (some ⟨r, 0, none⟩), vl] [refI r ts] (X := Nat) (fun _ => True) (fun w => .tuple #[.pointer (some ⟨w, 0, none⟩), .int .i64 0]) (fun w => [refK w r ts (KL l), refI r ts]) := Con.ref fun v => rnew_ok W0 r v ts hw hl vl l hkl hkm hshort hall0
theorem rnew_badc (W0 : World) (r : Nat) (ts : List TermR) (hw : Wf ts) (hl : ts.length ≤ 1048576) (vl : Value) (l : List Int) (hkl : Rd W0 vl l.length (l.flatMap int1)) (hkm : l.length ≤ 9223372036854775807) (hshort : l.length ≤ 65536) (hbad : ∃ x ∈ l, ¬ (1 ≤ x ∧ x ≤ (ts.length : Int))) :
    Con Try.prog W0 11 #[Value.pointer (some ⟨r, 0, none⟩), vl] [refI r ts] (X := Unit) (fun _ => True) (fun _ => .tuple #[.pointer none, .int .i64 1]) (fun _ => [refI r ts]) := Con.ref fun v =>
  (rnew_bad W0 r v ts hw hl vl l hkl hkm hshort hbad).mono fun _ _ => ⟨(), trivial, rfl, fun _ _ h => refI_mk h⟩
theorem all_or_bad (l : List Int) (m : Int) : (∀ x ∈ l, 1 ≤ x ∧ x ≤ m) ∨ ∃ x ∈ l, ¬ (1 ≤ x ∧ x ≤ m) := by
  by_cases h : ∃ x ∈ l, ¬ (1 ≤ x ∧ x ≤ m)
  · exact .inr h
  · exact .inl fun x hx => Classical.byContradiction fun hn => h ⟨x, hx, hn⟩

theorem khas_is (W0 : World) (k s : Nat) (ts : List TermR) (K : Nat → Prop) (x : Int) (hl : ts.length ≤ 1048576) {b : Bool} (h : derB ts K x = b) : Con Try.prog W0 17 #[Value.pointer (some ⟨k, 0, none⟩), Value.int .i64 x] [knowK k s ts K, storeI s ts] (X := Unit) (fun _ => True) (fun _ => .bool b) (fun _ => [knowK k s ts K, storeI s ts]) := h ▸ khas_c W0 k s ts K x hl

end Go.Proofs.Ytmghnmfhniohkaa
