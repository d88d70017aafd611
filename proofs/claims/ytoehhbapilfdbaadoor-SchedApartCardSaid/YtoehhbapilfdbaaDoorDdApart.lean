/- What follows: contracts of the calls. -/
import Derived.Test.YtoehhbapilfdbaaDoorDdQ
import Derived.Test.YtoehhbapilfdbaaDoorDdP
import Derived.Test.YtoehhbapilfdbaaDoorDdLx
namespace Go.Proofs.YtoehhbapilfdbaaDoor
open Go Go.SL Go.Dd Go.RowKit
set_option linter.unusedVariables false
set_option maxRecDepth 8000

theorem dnew_w (W0 : World) (s : Nat) (ts : List TermR) (vb vc : Nat) (l : List Int) (m : Nat) (cells : List Value) (hm : l.length = m) (hc : l.map intV = cells) (hr : (decide (m ≤ 65536) && l.all fun x => decide (1 ≤ x) && decide (x ≤ (ts.length : Int))) = true) :
    Con Tryd.prog W0 8 #[.pointer (some ⟨s, 0, none⟩), .slice (some ⟨vb, 0, none⟩) m vc] [storeW s ts, pt vb 3 cells] (X := Nat) (fun _ => True) (fun k => .tuple #[.pointer (some ⟨k, 0, none⟩), .int .i64 0]) (fun k => [knowK k s ts (KL l), storeW s ts, pt vb 3 cells]) := Con.storeW fun hw hl => by
  subst hm
  simp only [Bool.and_eq_true, List.all_eq_true, decide_eq_true_eq] at hr
  have := new_ok_pt W0 s ts hw hl vb vc l [] (by omega) hr.1 hr.2
  rw [List.append_nil, hc] at this
  exact this.mono fun k _ => ⟨k, trivial, rfl, fun _ _ hs => st_swap (storeW_mk hw hl (st_swap hs))⟩
theorem khas_w (W0 : World) (k s : Nat) (ts : List TermR) (K : Nat → Prop) (x : Int) {b : Bool} (h : derB ts K x = b) : Con Tryd.prog W0 9 #[.pointer (some ⟨k, 0, none⟩), .int .i64 x] [storeW s ts, knowK k s ts K] (X := Unit) (fun _ => True) (fun _ => .bool b) (fun _ => [storeW s ts, knowK k s ts K]) := Con.storeW fun hw hl =>
  ((khas_is W0 k s ts K x hl h).pre fun _ _ hs => st_swap hs).mono fun _ _ => ⟨(), trivial, rfl, fun _ _ hs => storeW_mk hw hl (st_swap hs)⟩

def tl25_1 (n : Int) : List TermR := [⟨1, n, 0, 0⟩]

def tl26_2 (n : Int) : List TermR := [⟨1, n, 0, 0⟩, ⟨1, (n + 1), 0, 0⟩]

def tl27_3 (n : Int) : List TermR := [⟨1, n, 0, 0⟩, ⟨1, (n + 1), 0, 0⟩, ⟨1, (n + 2), 0, 0⟩]

set_option maxRecDepth 8000 in
set_option maxHeartbeats 4000000 in
theorem ap2_Build (W0 : World) (n : Int) (hn : 0 ≤ n ∧ n ≤ 1152921504606846976) (q0 : Nat)  :
    Con Tryd.prog W0 5 #[Value.slice (some ⟨q0, 0, none⟩) 3 3] [pt q0 29 [Value.int .u8 1, iv n, iv 0, iv 0, Value.int .u8 1, iv (n + 1), iv 0, iv 0, Value.int .u8 1, iv (n + 2), iv 0, iv 0]] (X := Nat × Nat) (fun _ => True) (fun y => Value.tuple #[Value.pointer (some ⟨y.1, 0, none⟩), Value.pointer (some ⟨y.2, 0, none⟩), Value.bool true]) (fun y => [pt q0 29 [Value.int .u8 1, iv n, iv 0, iv 0, Value.int .u8 1, iv (n + 1), iv 0, iv 0, Value.int .u8 1, iv (n + 2), iv 0, iv 0], storeW y.1 (tl27_3 n), refW y.2 (tl27_3 n)]) := by
  refine Con.of (args := [Value.slice (some ⟨q0, 0, none⟩) 3 3]) Tryd.func5 rfl Tryd.ntmps5 rfl (fun F => ?_)
  show Wc _ W0 _ _ _ _ _ ((pt q0 29 [Value.int .u8 1, iv n, iv 0, iv 0, Value.int .u8 1, iv (n + 1), iv 0, iv 0, Value.int .u8 1, iv (n + 2), iv 0, iv 0]) :: F)
  refine Wc.seq ?_
  refine Wc.region ?_
  refine Wl.q (v := Value.pointer none) (q_assign rfl) ?_
  refine Wl.q (v := Value.pointer none) (q_assign rfl) ?_
  refine Wl.q (v := Value.bool false) (q_assign rfl) ?_
  refine Wl.done ?_
  refine Wx.go ?_
  refine Wc.seq ?_
  refine Wc.region ?_
  refine Wl.e (e_call (F := (pt q0 29 [Value.int .u8 1, iv n, iv 0, iv 0, Value.int .u8 1, iv (n + 1), iv 0, iv 0, Value.int .u8 1, iv (n + 2), iv 0, iv 0]) :: F) (args := []) Tryd.call10 rfl (tnew_w W0)) (fun s1 _ => ?_)
  refine Wl.imp (L' := (storeW s1 []) :: (pt q0 29 [Value.int .u8 1, iv n, iv 0, iv 0, Value.int .u8 1, iv (n + 1), iv 0, iv 0, Value.int .u8 1, iv (n + 2), iv 0, iv 0]) :: F) (fun _ h => h) ?_
  refine Wl.q (v := pv s1) (q_assign rfl) ?_
  refine Wl.done ?_
  refine Wx.go ?_
  refine Wc.seq ?_
  refine Wc.region ?_
  refine Wl.e (e_call (F := (storeW s1 []) :: (pt q0 29 [Value.int .u8 1, iv n, iv 0, iv 0, Value.int .u8 1, iv (n + 1), iv 0, iv 0, Value.int .u8 1, iv (n + 2), iv 0, iv 0]) :: F) (args := []) Tryd.call11 rfl (rtnew_w W0)) (fun s2 _ => ?_)
  refine Wl.imp (L' := (refW s2 []) :: (storeW s1 []) :: (pt q0 29 [Value.int .u8 1, iv n, iv 0, iv 0, Value.int .u8 1, iv (n + 1), iv 0, iv 0, Value.int .u8 1, iv (n + 2), iv 0, iv 0]) :: F) (fun _ h => h) ?_
  refine Wl.q (v := pv s2) (q_assign rfl) ?_
  refine Wl.done ?_
  refine Wx.go ?_
  refine Wc.seq ?_
  refine Wc.seq ?_
  refine Wc.region ?_
  refine Wl.q (v := iv 0) (q_assign rfl) ?_
  refine Wl.done ?_
  refine Wx.go ?_
  refine Wc.block ?_
  refine Wc.rounds 64 ?_
  refine Wn.round ?_
  refine Wc.seq ?_
  refine Wc.seq ?_
  refine Wc.region ?_
  refine Wl.q (v := iv 0) (q_move rfl) ?_
  refine Wl.q (v := Value.slice (some ⟨q0, 0, none⟩) 3 3) (q_move rfl) ?_
  refine Wl.q (v := iv 3) (q_len_slice Tryd.underlying30 rfl) ?_
  refine Wl.q (v := Value.bool true) (q_lss (r := true) rfl rfl (decide_eq_true (by decide))) ?_
  refine Wl.done ?_
  refine Wx.go ?_
  refine Wc.yes rfl ?_
  refine Wc.skip ?_
  refine Wx.go ?_
  refine Wc.seq ?_
  refine Wc.block ?_
  refine Wc.seq ?_
  refine Wc.region ?_
  refine Wl.q (v := pv s1) (q_move rfl) ?_
  refine Wl.q (v := Value.slice (some ⟨q0, 0, none⟩) 3 3) (q_move rfl) ?_
  refine Wl.q (v := iv 0) (q_move rfl) ?_
  refine Wl.q (v := pv q0) (q_idx (m := 0) se_30 rfl rfl (by omega) (by omega) rfl) ?_
  refine Wl.q (v := Value.agg #[Value.int .u8 1, iv n, iv 0, iv 0]) (q_loadAgg (vs := [Value.int .u8 1, iv n, iv 0, iv 0]) ag_29 rfl (Has.of_pt (i := 2) rfl rfl)) ?_
  refine Wl.imp (L' := (storeW s1 []) :: (refW s2 []) :: (pt q0 29 [Value.int .u8 1, iv n, iv 0, iv 0, Value.int .u8 1, iv (n + 1), iv 0, iv 0, Value.int .u8 1, iv (n + 2), iv 0, iv 0]) :: F) (fun _ h => st_pull [1] h) ?_
  refine Wl.e (e_call (F := (refW s2 []) :: (pt q0 29 [Value.int .u8 1, iv n, iv 0, iv 0, Value.int .u8 1, iv (n + 1), iv 0, iv 0, Value.int .u8 1, iv (n + 2), iv 0, iv 0]) :: F) (args := [pv s1, Value.agg #[Value.int .u8 1, iv n, iv 0, iv 0]]) Tryd.call12 rfl (make_w W0 s1 [] (tl25_1 n) ⟨1, n, 0, 0⟩ 1 1 0 (by unfold okT; simp only; omega) (mk_new (decide_eq_true (.inl ⟨rfl, by show n ≥ (0 : Int); omega, rfl, rfl⟩)) (by simp) (by show 0 < 1048576; decide)) rfl)) (fun _ _ => ?_)
  refine Wl.imp (L' := (storeW s1 (tl25_1 n)) :: (refW s2 []) :: (pt q0 29 [Value.int .u8 1, iv n, iv 0, iv 0, Value.int .u8 1, iv (n + 1), iv 0, iv 0, Value.int .u8 1, iv (n + 2), iv 0, iv 0]) :: F) (fun _ h => h) ?_
  refine Wl.q (v := Value.tuple #[iv 1, iv 0]) (q_move rfl) ?_
  refine Wl.q (v := iv 1) (q_extract (i := 0) rfl rfl) ?_
  refine Wl.q (v := iv 0) (q_extract (i := 1) rfl rfl) ?_
  refine Wl.q (v := iv 1) (q_assign rfl) ?_
  refine Wl.q (v := iv 0) (q_assign rfl) ?_
  refine Wl.done ?_
  refine Wx.go ?_
  refine Wc.seq ?_
  refine Wc.region ?_
  refine Wl.q (v := pv s2) (q_move rfl) ?_
  refine Wl.q (v := Value.slice (some ⟨q0, 0, none⟩) 3 3) (q_move rfl) ?_
  refine Wl.q (v := iv 0) (q_move rfl) ?_
  refine Wl.q (v := pv q0) (q_idx (m := 0) se_30 rfl rfl (by omega) (by omega) rfl) ?_
  refine Wl.q (v := Value.agg #[Value.int .u8 1, iv n, iv 0, iv 0]) (q_loadAgg (vs := [Value.int .u8 1, iv n, iv 0, iv 0]) ag_29 rfl (Has.of_pt (i := 2) rfl rfl)) ?_
  refine Wl.imp (L' := (refW s2 []) :: (storeW s1 (tl25_1 n)) :: (pt q0 29 [Value.int .u8 1, iv n, iv 0, iv 0, Value.int .u8 1, iv (n + 1), iv 0, iv 0, Value.int .u8 1, iv (n + 2), iv 0, iv 0]) :: F) (fun _ h => st_pull [1] h) ?_
  refine Wl.e (e_call (F := (storeW s1 (tl25_1 n)) :: (pt q0 29 [Value.int .u8 1, iv n, iv 0, iv 0, Value.int .u8 1, iv (n + 1), iv 0, iv 0, Value.int .u8 1, iv (n + 2), iv 0, iv 0]) :: F) (args := [pv s2, Value.agg #[Value.int .u8 1, iv n, iv 0, iv 0]]) Tryd.call13 rfl (rmake_w W0 s2 [] (tl25_1 n) ⟨1, n, 0, 0⟩ 1 1 0 (by unfold okT; simp only; omega) (mk_new (decide_eq_true (.inl ⟨rfl, by show n ≥ (0 : Int); omega, rfl, rfl⟩)) (by simp) (by show 0 < 1048576; decide)) rfl)) (fun _ _ => ?_)
  refine Wl.imp (L' := (refW s2 (tl25_1 n)) :: (storeW s1 (tl25_1 n)) :: (pt q0 29 [Value.int .u8 1, iv n, iv 0, iv 0, Value.int .u8 1, iv (n + 1), iv 0, iv 0, Value.int .u8 1, iv (n + 2), iv 0, iv 0]) :: F) (fun _ h => h) ?_
  refine Wl.q (v := Value.tuple #[iv 1, iv 0]) (q_move rfl) ?_
  refine Wl.q (v := iv 1) (q_extract (i := 0) rfl rfl) ?_
  refine Wl.q (v := iv 0) (q_extract (i := 1) rfl rfl) ?_
  refine Wl.q (v := iv 1) (q_assign rfl) ?_
  refine Wl.q (v := iv 0) (q_assign rfl) ?_
  refine Wl.done ?_
  refine Wx.go ?_
  refine Wc.seq ?_
  refine Wc.region ?_
  refine Wl.q (v := iv 1) (q_move rfl) ?_
  refine Wl.q (v := iv 1) (q_move rfl) ?_
  refine Wl.q (v := Value.bool false) (q_neq (r := true) rfl rfl (decide_eq_true (by decide))) ?_
  refine Wl.q (v := Value.bool false) (q_move rfl) ?_
  refine Wl.q (v := iv 0) (q_move rfl) ?_
  refine Wl.q (v := iv 0) (q_move rfl) ?_
  refine Wl.q (v := Value.bool false) (q_neq (r := true) rfl rfl (decide_eq_true (by decide))) ?_
  refine Wl.q (v := Value.bool false) (q_pick (t := false) rfl rfl) ?_
  refine Wl.done ?_
  refine Wx.go ?_
  refine Wc.no rfl ?_
  refine Wc.skip ?_
  refine Wx.blockEnd ?_
  refine Wx.go ?_
  refine Wc.region ?_
  refine Wl.q (v := iv 0) (q_move rfl) ?_
  refine Wl.q (v := iv 1) (q_add (c := 1) rfl rfl (by decide)) ?_
  refine Wl.q (v := iv 1) (q_assign rfl) ?_
  refine Wl.done ?_
  refine Wx.again ?_
  refine Wn.round ?_
  refine Wc.seq ?_
  refine Wc.seq ?_
  refine Wc.region ?_
  refine Wl.q (v := iv 1) (q_move rfl) ?_
  refine Wl.q (v := Value.slice (some ⟨q0, 0, none⟩) 3 3) (q_move rfl) ?_
  refine Wl.q (v := iv 3) (q_len_slice Tryd.underlying30 rfl) ?_
  refine Wl.q (v := Value.bool true) (q_lss (r := true) rfl rfl (decide_eq_true (by decide))) ?_
  refine Wl.done ?_
  refine Wx.go ?_
  refine Wc.yes rfl ?_
  refine Wc.skip ?_
  refine Wx.go ?_
  refine Wc.seq ?_
  refine Wc.block ?_
  refine Wc.seq ?_
  refine Wc.region ?_
  refine Wl.q (v := pv s1) (q_move rfl) ?_
  refine Wl.q (v := Value.slice (some ⟨q0, 0, none⟩) 3 3) (q_move rfl) ?_
  refine Wl.q (v := iv 1) (q_move rfl) ?_
  refine Wl.q (v := Value.pointer (some ⟨q0, 4, none⟩)) (q_idx (m := 4) se_30 rfl rfl (by omega) (by omega) rfl) ?_
  refine Wl.q (v := Value.agg #[Value.int .u8 1, iv (n + 1), iv 0, iv 0]) (q_loadAgg (vs := [Value.int .u8 1, iv (n + 1), iv 0, iv 0]) ag_29 rfl (Has.of_pt (i := 2) rfl rfl)) ?_
  refine Wl.imp (L' := (storeW s1 (tl25_1 n)) :: (refW s2 (tl25_1 n)) :: (pt q0 29 [Value.int .u8 1, iv n, iv 0, iv 0, Value.int .u8 1, iv (n + 1), iv 0, iv 0, Value.int .u8 1, iv (n + 2), iv 0, iv 0]) :: F) (fun _ h => st_pull [1] h) ?_
  refine Wl.e (e_call (F := (refW s2 (tl25_1 n)) :: (pt q0 29 [Value.int .u8 1, iv n, iv 0, iv 0, Value.int .u8 1, iv (n + 1), iv 0, iv 0, Value.int .u8 1, iv (n + 2), iv 0, iv 0]) :: F) (args := [pv s1, Value.agg #[Value.int .u8 1, iv (n + 1), iv 0, iv 0]]) Tryd.call12 rfl (make_w W0 s1 (tl25_1 n) (tl26_2 n) ⟨1, (n + 1), 0, 0⟩ 2 2 0 (by unfold okT; simp only; omega) (mk_new (decide_eq_true (.inl ⟨rfl, by show (n + 1) ≥ (0 : Int); omega, rfl, rfl⟩)) (by unfold tl25_1; simp only [List.mem_cons, List.not_mem_nil, or_false, TermR.mk.injEq]; omega) (by show 1 < 1048576; decide)) rfl)) (fun _ _ => ?_)
  refine Wl.imp (L' := (storeW s1 (tl26_2 n)) :: (refW s2 (tl25_1 n)) :: (pt q0 29 [Value.int .u8 1, iv n, iv 0, iv 0, Value.int .u8 1, iv (n + 1), iv 0, iv 0, Value.int .u8 1, iv (n + 2), iv 0, iv 0]) :: F) (fun _ h => h) ?_
  refine Wl.q (v := Value.tuple #[iv 2, iv 0]) (q_move rfl) ?_
  refine Wl.q (v := iv 2) (q_extract (i := 0) rfl rfl) ?_
  refine Wl.q (v := iv 0) (q_extract (i := 1) rfl rfl) ?_
  refine Wl.q (v := iv 2) (q_assign rfl) ?_
  refine Wl.q (v := iv 0) (q_assign rfl) ?_
  refine Wl.done ?_
  refine Wx.go ?_
  refine Wc.seq ?_
  refine Wc.region ?_
  refine Wl.q (v := pv s2) (q_move rfl) ?_
  refine Wl.q (v := Value.slice (some ⟨q0, 0, none⟩) 3 3) (q_move rfl) ?_
  refine Wl.q (v := iv 1) (q_move rfl) ?_
  refine Wl.q (v := Value.pointer (some ⟨q0, 4, none⟩)) (q_idx (m := 4) se_30 rfl rfl (by omega) (by omega) rfl) ?_
  refine Wl.q (v := Value.agg #[Value.int .u8 1, iv (n + 1), iv 0, iv 0]) (q_loadAgg (vs := [Value.int .u8 1, iv (n + 1), iv 0, iv 0]) ag_29 rfl (Has.of_pt (i := 2) rfl rfl)) ?_
  refine Wl.imp (L' := (refW s2 (tl25_1 n)) :: (storeW s1 (tl26_2 n)) :: (pt q0 29 [Value.int .u8 1, iv n, iv 0, iv 0, Value.int .u8 1, iv (n + 1), iv 0, iv 0, Value.int .u8 1, iv (n + 2), iv 0, iv 0]) :: F) (fun _ h => st_pull [1] h) ?_
  refine Wl.e (e_call (F := (storeW s1 (tl26_2 n)) :: (pt q0 29 [Value.int .u8 1, iv n, iv 0, iv 0, Value.int .u8 1, iv (n + 1), iv 0, iv 0, Value.int .u8 1, iv (n + 2), iv 0, iv 0]) :: F) (args := [pv s2, Value.agg #[Value.int .u8 1, iv (n + 1), iv 0, iv 0]]) Tryd.call13 rfl (rmake_w W0 s2 (tl25_1 n) (tl26_2 n) ⟨1, (n + 1), 0, 0⟩ 2 2 0 (by unfold okT; simp only; omega) (mk_new (decide_eq_true (.inl ⟨rfl, by show (n + 1) ≥ (0 : Int); omega, rfl, rfl⟩)) (by unfold tl25_1; simp only [List.mem_cons, List.not_mem_nil, or_false, TermR.mk.injEq]; omega) (by show 1 < 1048576; decide)) rfl)) (fun _ _ => ?_)
  refine Wl.imp (L' := (refW s2 (tl26_2 n)) :: (storeW s1 (tl26_2 n)) :: (pt q0 29 [Value.int .u8 1, iv n, iv 0, iv 0, Value.int .u8 1, iv (n + 1), iv 0, iv 0, Value.int .u8 1, iv (n + 2), iv 0, iv 0]) :: F) (fun _ h => h) ?_
  refine Wl.q (v := Value.tuple #[iv 2, iv 0]) (q_move rfl) ?_
  refine Wl.q (v := iv 2) (q_extract (i := 0) rfl rfl) ?_
  refine Wl.q (v := iv 0) (q_extract (i := 1) rfl rfl) ?_
  refine Wl.q (v := iv 2) (q_assign rfl) ?_
  refine Wl.q (v := iv 0) (q_assign rfl) ?_
  refine Wl.done ?_
  refine Wx.go ?_
  refine Wc.seq ?_
  refine Wc.region ?_
  refine Wl.q (v := iv 2) (q_move rfl) ?_
  refine Wl.q (v := iv 2) (q_move rfl) ?_
  refine Wl.q (v := Value.bool false) (q_neq (r := true) rfl rfl (decide_eq_true (by decide))) ?_
  refine Wl.q (v := Value.bool false) (q_move rfl) ?_
  refine Wl.q (v := iv 0) (q_move rfl) ?_
  refine Wl.q (v := iv 0) (q_move rfl) ?_
  refine Wl.q (v := Value.bool false) (q_neq (r := true) rfl rfl (decide_eq_true (by decide))) ?_
  refine Wl.q (v := Value.bool false) (q_pick (t := false) rfl rfl) ?_
  refine Wl.done ?_
  refine Wx.go ?_
  refine Wc.no rfl ?_
  refine Wc.skip ?_
  refine Wx.blockEnd ?_
  refine Wx.go ?_
  refine Wc.region ?_
  refine Wl.q (v := iv 1) (q_move rfl) ?_
  refine Wl.q (v := iv 2) (q_add (c := 2) rfl rfl (by decide)) ?_
  refine Wl.q (v := iv 2) (q_assign rfl) ?_
  refine Wl.done ?_
  refine Wx.again ?_
  refine Wn.round ?_
  refine Wc.seq ?_
  refine Wc.seq ?_
  refine Wc.region ?_
  refine Wl.q (v := iv 2) (q_move rfl) ?_
  refine Wl.q (v := Value.slice (some ⟨q0, 0, none⟩) 3 3) (q_move rfl) ?_
  refine Wl.q (v := iv 3) (q_len_slice Tryd.underlying30 rfl) ?_
  refine Wl.q (v := Value.bool true) (q_lss (r := true) rfl rfl (decide_eq_true (by decide))) ?_
  refine Wl.done ?_
  refine Wx.go ?_
  refine Wc.yes rfl ?_
  refine Wc.skip ?_
  refine Wx.go ?_
  refine Wc.seq ?_
  refine Wc.block ?_
  refine Wc.seq ?_
  refine Wc.region ?_
  refine Wl.q (v := pv s1) (q_move rfl) ?_
  refine Wl.q (v := Value.slice (some ⟨q0, 0, none⟩) 3 3) (q_move rfl) ?_
  refine Wl.q (v := iv 2) (q_move rfl) ?_
  refine Wl.q (v := Value.pointer (some ⟨q0, 8, none⟩)) (q_idx (m := 8) se_30 rfl rfl (by omega) (by omega) rfl) ?_
  refine Wl.q (v := Value.agg #[Value.int .u8 1, iv (n + 2), iv 0, iv 0]) (q_loadAgg (vs := [Value.int .u8 1, iv (n + 2), iv 0, iv 0]) ag_29 rfl (Has.of_pt (i := 2) rfl rfl)) ?_
  refine Wl.imp (L' := (storeW s1 (tl26_2 n)) :: (refW s2 (tl26_2 n)) :: (pt q0 29 [Value.int .u8 1, iv n, iv 0, iv 0, Value.int .u8 1, iv (n + 1), iv 0, iv 0, Value.int .u8 1, iv (n + 2), iv 0, iv 0]) :: F) (fun _ h => st_pull [1] h) ?_
  refine Wl.e (e_call (F := (refW s2 (tl26_2 n)) :: (pt q0 29 [Value.int .u8 1, iv n, iv 0, iv 0, Value.int .u8 1, iv (n + 1), iv 0, iv 0, Value.int .u8 1, iv (n + 2), iv 0, iv 0]) :: F) (args := [pv s1, Value.agg #[Value.int .u8 1, iv (n + 2), iv 0, iv 0]]) Tryd.call12 rfl (make_w W0 s1 (tl26_2 n) (tl27_3 n) ⟨1, (n + 2), 0, 0⟩ 3 3 0 (by unfold okT; simp only; omega) (mk_new (decide_eq_true (.inl ⟨rfl, by show (n + 2) ≥ (0 : Int); omega, rfl, rfl⟩)) (by unfold tl26_2; simp only [List.mem_cons, List.not_mem_nil, or_false, TermR.mk.injEq, not_or]; omega) (by show 2 < 1048576; decide)) rfl)) (fun _ _ => ?_)
  refine Wl.imp (L' := (storeW s1 (tl27_3 n)) :: (refW s2 (tl26_2 n)) :: (pt q0 29 [Value.int .u8 1, iv n, iv 0, iv 0, Value.int .u8 1, iv (n + 1), iv 0, iv 0, Value.int .u8 1, iv (n + 2), iv 0, iv 0]) :: F) (fun _ h => h) ?_
  refine Wl.q (v := Value.tuple #[iv 3, iv 0]) (q_move rfl) ?_
  refine Wl.q (v := iv 3) (q_extract (i := 0) rfl rfl) ?_
  refine Wl.q (v := iv 0) (q_extract (i := 1) rfl rfl) ?_
  refine Wl.q (v := iv 3) (q_assign rfl) ?_
  refine Wl.q (v := iv 0) (q_assign rfl) ?_
  refine Wl.done ?_
  refine Wx.go ?_
  refine Wc.seq ?_
  refine Wc.region ?_
  refine Wl.q (v := pv s2) (q_move rfl) ?_
  refine Wl.q (v := Value.slice (some ⟨q0, 0, none⟩) 3 3) (q_move rfl) ?_
  refine Wl.q (v := iv 2) (q_move rfl) ?_
  refine Wl.q (v := Value.pointer (some ⟨q0, 8, none⟩)) (q_idx (m := 8) se_30 rfl rfl (by omega) (by omega) rfl) ?_
  refine Wl.q (v := Value.agg #[Value.int .u8 1, iv (n + 2), iv 0, iv 0]) (q_loadAgg (vs := [Value.int .u8 1, iv (n + 2), iv 0, iv 0]) ag_29 rfl (Has.of_pt (i := 2) rfl rfl)) ?_
  refine Wl.imp (L' := (refW s2 (tl26_2 n)) :: (storeW s1 (tl27_3 n)) :: (pt q0 29 [Value.int .u8 1, iv n, iv 0, iv 0, Value.int .u8 1, iv (n + 1), iv 0, iv 0, Value.int .u8 1, iv (n + 2), iv 0, iv 0]) :: F) (fun _ h => st_pull [1] h) ?_
  refine Wl.e (e_call (F := (storeW s1 (tl27_3 n)) :: (pt q0 29 [Value.int .u8 1, iv n, iv 0, iv 0, Value.int .u8 1, iv (n + 1), iv 0, iv 0, Value.int .u8 1, iv (n + 2), iv 0, iv 0]) :: F) (args := [pv s2, Value.agg #[Value.int .u8 1, iv (n + 2), iv 0, iv 0]]) Tryd.call13 rfl (rmake_w W0 s2 (tl26_2 n) (tl27_3 n) ⟨1, (n + 2), 0, 0⟩ 3 3 0 (by unfold okT; simp only; omega) (mk_new (decide_eq_true (.inl ⟨rfl, by show (n + 2) ≥ (0 : Int); omega, rfl, rfl⟩)) (by unfold tl26_2; simp only [List.mem_cons, List.not_mem_nil, or_false, TermR.mk.injEq, not_or]; omega) (by show 2 < 1048576; decide)) rfl)) (fun _ _ => ?_)
  refine Wl.imp (L' := (refW s2 (tl27_3 n)) :: (storeW s1 (tl27_3 n)) :: (pt q0 29 [Value.int .u8 1, iv n, iv 0, iv 0, Value.int .u8 1, iv (n + 1), iv 0, iv 0, Value.int .u8 1, iv (n + 2), iv 0, iv 0]) :: F) (fun _ h => h) ?_
  refine Wl.q (v := Value.tuple #[iv 3, iv 0]) (q_move rfl) ?_
  refine Wl.q (v := iv 3) (q_extract (i := 0) rfl rfl) ?_
  refine Wl.q (v := iv 0) (q_extract (i := 1) rfl rfl) ?_
  refine Wl.q (v := iv 3) (q_assign rfl) ?_
  refine Wl.q (v := iv 0) (q_assign rfl) ?_
  refine Wl.done ?_
  refine Wx.go ?_
  refine Wc.seq ?_
  refine Wc.region ?_
  refine Wl.q (v := iv 3) (q_move rfl) ?_
  refine Wl.q (v := iv 3) (q_move rfl) ?_
  refine Wl.q (v := Value.bool false) (q_neq (r := true) rfl rfl (decide_eq_true (by decide))) ?_
  refine Wl.q (v := Value.bool false) (q_move rfl) ?_
  refine Wl.q (v := iv 0) (q_move rfl) ?_
  refine Wl.q (v := iv 0) (q_move rfl) ?_
  refine Wl.q (v := Value.bool false) (q_neq (r := true) rfl rfl (decide_eq_true (by decide))) ?_
  refine Wl.q (v := Value.bool false) (q_pick (t := false) rfl rfl) ?_
  refine Wl.done ?_
  refine Wx.go ?_
  refine Wc.no rfl ?_
  refine Wc.skip ?_
  refine Wx.blockEnd ?_
  refine Wx.go ?_
  refine Wc.region ?_
  refine Wl.q (v := iv 2) (q_move rfl) ?_
  refine Wl.q (v := iv 3) (q_add (c := 3) rfl rfl (by decide)) ?_
  refine Wl.q (v := iv 3) (q_assign rfl) ?_
  refine Wl.done ?_
  refine Wx.again ?_
  refine Wn.round ?_
  refine Wc.seq ?_
  refine Wc.seq ?_
  refine Wc.region ?_
  refine Wl.q (v := iv 3) (q_move rfl) ?_
  refine Wl.q (v := Value.slice (some ⟨q0, 0, none⟩) 3 3) (q_move rfl) ?_
  refine Wl.q (v := iv 3) (q_len_slice Tryd.underlying30 rfl) ?_
  refine Wl.q (v := Value.bool false) (q_lss (r := false) rfl rfl (decide_eq_false (by decide))) ?_
  refine Wl.done ?_
  refine Wx.go ?_
  refine Wc.no rfl ?_
  refine Wc.exit ?_
  refine Wx.thenExit ?_
  refine Wx.thenExit ?_
  refine Wx.out ?_
  refine Wx.go ?_
  refine Wc.seq ?_
  refine Wc.region ?_
  refine Wl.q (v := pv s1) (q_move rfl) ?_
  refine Wl.q (v := pv s2) (q_move rfl) ?_
  refine Wl.q (v := pv s1) (q_move rfl) ?_
  refine Wl.q (v := Value.bool true) (q_neq_nil (r := false) rfl rfl Tryd.underlying23 rfl) ?_
  refine Wl.q (v := pv s1) (q_assign rfl) ?_
  refine Wl.q (v := pv s2) (q_assign rfl) ?_
  refine Wl.q (v := Value.bool true) (q_assign rfl) ?_
  refine Wl.done ?_
  refine Wx.go ?_
  refine Wc.ret ?_
  refine Wx.fin3 rfl (.inl rfl) (fun w hs => ?_)
  have hs : st W0 w ((pt q0 29 [Value.int .u8 1, iv n, iv 0, iv 0, Value.int .u8 1, iv (n + 1), iv 0, iv 0, Value.int .u8 1, iv (n + 2), iv 0, iv 0]) :: (storeW s1 (tl27_3 n)) :: (refW s2 (tl27_3 n)) :: F) := (st_pull [2, 1, 0] (hs))
  exact ⟨(s1, s2), trivial, rfl, hs⟩

set_option maxRecDepth 8000 in
set_option maxHeartbeats 4000000 in
theorem ap5_List (W0 : World) (n : Int) (hn : 0 ≤ n ∧ n ≤ 1152921504606846976) (q0 : Nat)  :
    Con Tryd.prog W0 29 #[pv q0, Value.slice none 0 0] [storeW q0 (tl27_3 n)] (X := Unit) (fun _ => True) (fun _ => Value.tuple #[iv 0, iv 0]) (fun _ => [storeW q0 (tl27_3 n)]) := by
  refine Con.of (args := [pv q0, Value.slice none 0 0]) Tryd.func29 rfl Tryd.ntmps29 rfl (fun F => ?_)
  show Wc _ W0 _ _ _ _ _ ((storeW q0 (tl27_3 n)) :: F)
  refine Wc.seq ?_
  refine Wc.region ?_
  refine Wl.q (v := iv 0) (q_assign rfl) ?_
  refine Wl.q (v := iv 0) (q_assign rfl) ?_
  refine Wl.done ?_
  refine Wx.go ?_
  refine Wc.seq ?_
  refine Wc.seq ?_
  refine Wc.region ?_
  refine Wl.q (v := pv q0) (q_move rfl) ?_
  refine Wl.e (e_call (F := F) (args := [pv q0]) Tryd.call26 rfl (made_w W0 q0 (tl27_3 n))) (fun _ _ => ?_)
  refine Wl.imp (L' := (storeW q0 (tl27_3 n)) :: F) (fun _ h => h) ?_
  refine Wl.q (v := Value.bool false) (q_not rfl rfl) ?_
  refine Wl.done ?_
  refine Wx.go ?_
  refine Wc.no rfl ?_
  refine Wc.skip ?_
  refine Wx.go ?_
  refine Wc.seq ?_
  refine Wc.seq ?_
  refine Wc.region ?_
  refine Wl.q (v := Value.slice none 0 0) (q_move rfl) ?_
  refine Wl.q (v := iv 0) (q_len_slice Tryd.underlying31 rfl) ?_
  refine Wl.q (v := iv 0) (q_move rfl) ?_
  refine Wl.done ?_
  refine Wx.go ?_
  refine Wc.block ?_
  refine Wc.rounds 64 ?_
  refine Wn.round ?_
  refine Wc.seq ?_
  refine Wc.region ?_
  refine Wl.q (v := Value.bool false) (q_lss (r := false) rfl rfl (decide_eq_false (by decide))) ?_
  refine Wl.done ?_
  refine Wx.go ?_
  refine Wc.seq ?_
  refine Wc.no rfl ?_
  refine Wc.exit ?_
  refine Wx.thenExit ?_
  refine Wx.thenExit ?_
  refine Wx.out ?_
  refine Wx.go ?_
  refine Wc.seq ?_
  refine Wc.seq ?_
  refine Wc.region ?_
  refine Wl.q (v := Value.slice none 0 0) (q_move rfl) ?_
  refine Wl.q (v := iv 0) (q_len_slice Tryd.underlying31 rfl) ?_
  refine Wl.q (v := Value.bool true) (q_eql (r := true) rfl rfl (decide_eq_true (by decide))) ?_
  refine Wl.done ?_
  refine Wx.go ?_
  refine Wc.yes rfl ?_
  refine Wc.seq ?_
  refine Wc.region ?_
  refine Wl.q (v := iv 0) (q_assign rfl) ?_
  refine Wl.q (v := iv 0) (q_assign rfl) ?_
  refine Wl.done ?_
  refine Wx.go ?_
  refine Wc.ret ?_
  refine Wx.thenRet ?_
  refine Wx.fin2 rfl (.inl rfl) (fun w hs => ?_)
  have hs : st W0 w ((storeW q0 (tl27_3 n)) :: F) := hs
  exact ⟨(), trivial, rfl, hs⟩

set_option maxRecDepth 8000 in
set_option maxHeartbeats 4000000 in
theorem ap4_alive (W0 : World) (n : Int) (hn : 0 ≤ n ∧ n ≤ 1152921504606846976) (q0 : Nat)  :
    Con Tryd.prog W0 14 #[pv q0] [storeW q0 (tl27_3 n)] (X := Unit) (fun _ => True) (fun _ => Value.bool true) (fun _ => [storeW q0 (tl27_3 n)]) := by
  refine Con.of (args := [pv q0]) Tryd.func14 rfl Tryd.ntmps14 rfl (fun F => ?_)
  show Wc _ W0 _ _ _ _ _ ((storeW q0 (tl27_3 n)) :: F)
  refine Wc.seq ?_
  refine Wc.region ?_
  refine Wl.q (v := Value.bool false) (q_assign rfl) ?_
  refine Wl.done ?_
  refine Wx.go ?_
  refine Wc.seq ?_
  refine Wc.region ?_
  refine Wl.q (v := pv q0) (q_move rfl) ?_
  refine Wl.e (e_call (F := F) (args := [pv q0, Value.slice none 0 0]) Tryd.call29 rfl (ap5_List W0 n hn q0)) (fun _ _ => ?_)
  refine Wl.imp (L' := (storeW q0 (tl27_3 n)) :: F) (fun _ h => h) ?_
  refine Wl.q (v := Value.tuple #[iv 0, iv 0]) (q_move rfl) ?_
  refine Wl.q (v := iv 0) (q_extract (i := 0) rfl rfl) ?_
  refine Wl.q (v := iv 0) (q_extract (i := 1) rfl rfl) ?_
  refine Wl.q (v := iv 0) (q_assign rfl) ?_
  refine Wl.q (v := iv 0) (q_assign rfl) ?_
  refine Wl.done ?_
  refine Wx.go ?_
  refine Wc.seq ?_
  refine Wc.region ?_
  refine Wl.q (v := iv 0) (q_move rfl) ?_
  refine Wl.q (v := Value.bool true) (q_neq (r := false) rfl rfl (decide_eq_false (by decide))) ?_
  refine Wl.q (v := Value.bool true) (q_assign rfl) ?_
  refine Wl.done ?_
  refine Wx.go ?_
  refine Wc.ret ?_
  refine Wx.fin1 rfl (.inl rfl) (fun w hs => ?_)
  have hs : st W0 w ((storeW q0 (tl27_3 n)) :: F) := hs
  exact ⟨(), trivial, rfl, hs⟩

set_option maxRecDepth 8000 in
set_option maxHeartbeats 4000000 in
theorem ap6_there (W0 : World) (n : Int) (hn : 0 ≤ n ∧ n ≤ 1152921504606846976) (q0 : Nat)  :
    Con Tryd.prog W0 15 #[pv q0, iv 1] [storeW q0 (tl27_3 n)] (X := Unit) (fun _ => True) (fun _ => Value.bool true) (fun _ => [storeW q0 (tl27_3 n)]) := by
  refine Con.of (args := [pv q0, iv 1]) Tryd.func15 rfl Tryd.ntmps15 rfl (fun F => ?_)
  show Wc _ W0 _ _ _ _ _ ((storeW q0 (tl27_3 n)) :: F)
  refine Wc.seq ?_
  refine Wc.region ?_
  refine Wl.q (v := Value.bool false) (q_assign rfl) ?_
  refine Wl.done ?_
  refine Wx.go ?_
  refine Wc.seq ?_
  refine Wc.region ?_
  refine Wl.q (v := pv q0) (q_move rfl) ?_
  refine Wl.q (v := iv 1) (q_move rfl) ?_
  refine Wl.e (e_call (F := F) (args := [pv q0, iv 1]) Tryd.call30 rfl (get_w W0 q0 (tl27_3 n) 1 ⟨1, n, 0, 0⟩ (by decide) rfl)) (fun _ _ => ?_)
  refine Wl.imp (L' := (storeW q0 (tl27_3 n)) :: F) (fun _ h => h) ?_
  refine Wl.q (v := Value.tuple #[Value.agg #[Value.int .u8 1, iv n, iv 0, iv 0], Value.bool true]) (q_move rfl) ?_
  refine Wl.q (v := Value.agg #[Value.int .u8 1, iv n, iv 0, iv 0]) (q_extract (i := 0) rfl rfl) ?_
  refine Wl.q (v := Value.bool true) (q_extract (i := 1) rfl rfl) ?_
  refine Wl.e (e_alloc (vs := [Value.int .u8 0, iv 0, iv 0, iv 0]) zo_29 rfl) (fun b1 _ => ?_)
  refine Wl.e (e_storeAgg (i := 0) (vs := [Value.int .u8 1, iv n, iv 0, iv 0]) (c' := [Value.int .u8 1, iv n, iv 0, iv 0]) sz_29 rfl rfl rfl rfl (by simp) rfl) (fun _ _ => ?_)
  refine Wl.imp (L' := (pt b1 29 [Value.int .u8 1, iv n, iv 0, iv 0]) :: (storeW q0 (tl27_3 n)) :: F) (fun _ h => h) ?_
  refine Wl.q (v := Value.bool true) (q_assign rfl) ?_
  refine Wl.done ?_
  refine Wx.go ?_
  refine Wc.seq ?_
  refine Wc.region ?_
  refine Wl.q (v := Value.bool true) (q_move rfl) ?_
  refine Wl.q (v := Value.bool true) (q_assign rfl) ?_
  refine Wl.done ?_
  refine Wx.go ?_
  refine Wc.ret ?_
  refine Wx.fin1 rfl (.inl rfl) (fun w hs => ?_)
  have hs : st W0 w ((storeW q0 (tl27_3 n)) :: F) := (st_drop (st_pull [0] hs))
  exact ⟨(), trivial, rfl, hs⟩

set_option maxRecDepth 8000 in
set_option maxHeartbeats 4000000 in
theorem ap7_there (W0 : World) (n : Int) (hn : 0 ≤ n ∧ n ≤ 1152921504606846976) (q0 : Nat)  :
    Con Tryd.prog W0 15 #[pv q0, iv 2] [storeW q0 (tl27_3 n)] (X := Unit) (fun _ => True) (fun _ => Value.bool true) (fun _ => [storeW q0 (tl27_3 n)]) := by
  refine Con.of (args := [pv q0, iv 2]) Tryd.func15 rfl Tryd.ntmps15 rfl (fun F => ?_)
  show Wc _ W0 _ _ _ _ _ ((storeW q0 (tl27_3 n)) :: F)
  refine Wc.seq ?_
  refine Wc.region ?_
  refine Wl.q (v := Value.bool false) (q_assign rfl) ?_
  refine Wl.done ?_
  refine Wx.go ?_
  refine Wc.seq ?_
  refine Wc.region ?_
  refine Wl.q (v := pv q0) (q_move rfl) ?_
  refine Wl.q (v := iv 2) (q_move rfl) ?_
  refine Wl.e (e_call (F := F) (args := [pv q0, iv 2]) Tryd.call30 rfl (get_w W0 q0 (tl27_3 n) 2 ⟨1, (n + 1), 0, 0⟩ (by decide) rfl)) (fun _ _ => ?_)
  refine Wl.imp (L' := (storeW q0 (tl27_3 n)) :: F) (fun _ h => h) ?_
  refine Wl.q (v := Value.tuple #[Value.agg #[Value.int .u8 1, iv (n + 1), iv 0, iv 0], Value.bool true]) (q_move rfl) ?_
  refine Wl.q (v := Value.agg #[Value.int .u8 1, iv (n + 1), iv 0, iv 0]) (q_extract (i := 0) rfl rfl) ?_
  refine Wl.q (v := Value.bool true) (q_extract (i := 1) rfl rfl) ?_
  refine Wl.e (e_alloc (vs := [Value.int .u8 0, iv 0, iv 0, iv 0]) zo_29 rfl) (fun b1 _ => ?_)
  refine Wl.e (e_storeAgg (i := 0) (vs := [Value.int .u8 1, iv (n + 1), iv 0, iv 0]) (c' := [Value.int .u8 1, iv (n + 1), iv 0, iv 0]) sz_29 rfl rfl rfl rfl (by simp) rfl) (fun _ _ => ?_)
  refine Wl.imp (L' := (pt b1 29 [Value.int .u8 1, iv (n + 1), iv 0, iv 0]) :: (storeW q0 (tl27_3 n)) :: F) (fun _ h => h) ?_
  refine Wl.q (v := Value.bool true) (q_assign rfl) ?_
  refine Wl.done ?_
  refine Wx.go ?_
  refine Wc.seq ?_
  refine Wc.region ?_
  refine Wl.q (v := Value.bool true) (q_move rfl) ?_
  refine Wl.q (v := Value.bool true) (q_assign rfl) ?_
  refine Wl.done ?_
  refine Wx.go ?_
  refine Wc.ret ?_
  refine Wx.fin1 rfl (.inl rfl) (fun w hs => ?_)
  have hs : st W0 w ((storeW q0 (tl27_3 n)) :: F) := (st_drop (st_pull [0] hs))
  exact ⟨(), trivial, rfl, hs⟩

set_option maxRecDepth 8000 in
set_option maxHeartbeats 4000000 in
theorem ap8_there (W0 : World) (n : Int) (hn : 0 ≤ n ∧ n ≤ 1152921504606846976) (q0 : Nat)  :
    Con Tryd.prog W0 15 #[pv q0, iv 3] [storeW q0 (tl27_3 n)] (X := Unit) (fun _ => True) (fun _ => Value.bool true) (fun _ => [storeW q0 (tl27_3 n)]) := by
  refine Con.of (args := [pv q0, iv 3]) Tryd.func15 rfl Tryd.ntmps15 rfl (fun F => ?_)
  show Wc _ W0 _ _ _ _ _ ((storeW q0 (tl27_3 n)) :: F)
  refine Wc.seq ?_
  refine Wc.region ?_
  refine Wl.q (v := Value.bool false) (q_assign rfl) ?_
  refine Wl.done ?_
  refine Wx.go ?_
  refine Wc.seq ?_
  refine Wc.region ?_
  refine Wl.q (v := pv q0) (q_move rfl) ?_
  refine Wl.q (v := iv 3) (q_move rfl) ?_
  refine Wl.e (e_call (F := F) (args := [pv q0, iv 3]) Tryd.call30 rfl (get_w W0 q0 (tl27_3 n) 3 ⟨1, (n + 2), 0, 0⟩ (by decide) rfl)) (fun _ _ => ?_)
  refine Wl.imp (L' := (storeW q0 (tl27_3 n)) :: F) (fun _ h => h) ?_
  refine Wl.q (v := Value.tuple #[Value.agg #[Value.int .u8 1, iv (n + 2), iv 0, iv 0], Value.bool true]) (q_move rfl) ?_
  refine Wl.q (v := Value.agg #[Value.int .u8 1, iv (n + 2), iv 0, iv 0]) (q_extract (i := 0) rfl rfl) ?_
  refine Wl.q (v := Value.bool true) (q_extract (i := 1) rfl rfl) ?_
  refine Wl.e (e_alloc (vs := [Value.int .u8 0, iv 0, iv 0, iv 0]) zo_29 rfl) (fun b1 _ => ?_)
  refine Wl.e (e_storeAgg (i := 0) (vs := [Value.int .u8 1, iv (n + 2), iv 0, iv 0]) (c' := [Value.int .u8 1, iv (n + 2), iv 0, iv 0]) sz_29 rfl rfl rfl rfl (by simp) rfl) (fun _ _ => ?_)
  refine Wl.imp (L' := (pt b1 29 [Value.int .u8 1, iv (n + 2), iv 0, iv 0]) :: (storeW q0 (tl27_3 n)) :: F) (fun _ h => h) ?_
  refine Wl.q (v := Value.bool true) (q_assign rfl) ?_
  refine Wl.done ?_
  refine Wx.go ?_
  refine Wc.seq ?_
  refine Wc.region ?_
  refine Wl.q (v := Value.bool true) (q_move rfl) ?_
  refine Wl.q (v := Value.bool true) (q_assign rfl) ?_
  refine Wl.done ?_
  refine Wx.go ?_
  refine Wc.ret ?_
  refine Wx.fin1 rfl (.inl rfl) (fun w hs => ?_)
  have hs : st W0 w ((storeW q0 (tl27_3 n)) :: F) := (st_drop (st_pull [0] hs))
  exact ⟨(), trivial, rfl, hs⟩

def tl28_4 (n : Int) : List TermR := [⟨1, n, 0, 0⟩, ⟨1, (n + 1), 0, 0⟩, ⟨1, (n + 2), 0, 0⟩, ⟨3, 0, 1, 2⟩]

set_option maxRecDepth 8000 in
set_option maxHeartbeats 4000000 in
theorem ap9_make (W0 : World) (n : Int) (hn : 0 ≤ n ∧ n ≤ 1152921504606846976) (q0 : Nat) (q1 : Nat)  :
    Con Tryd.prog W0 17 #[pv q0, Value.agg #[Value.int .u8 3, iv 0, iv 1, iv 2]] [pt q0 52 [pv q1, iv 0], storeW q1 (tl27_3 n)] (X := Unit) (fun _ => True) (fun _ => iv 4) (fun _ => [pt q0 52 [pv q1, iv 0], storeW q1 (tl28_4 n)]) := by
  refine Con.of (args := [pv q0, Value.agg #[Value.int .u8 3, iv 0, iv 1, iv 2]]) Tryd.func17 rfl Tryd.ntmps17 rfl (fun F => ?_)
  show Wc _ W0 _ _ _ _ _ ((pt q0 52 [pv q1, iv 0]) :: (storeW q1 (tl27_3 n)) :: F)
  refine Wc.seq ?_
  refine Wc.region ?_
  refine Wl.e (e_box (x := .tmp 1) (vs := [Value.int .u8 3, iv 0, iv 1, iv 2]) rfl) (fun b1 _ => ?_)
  refine Wl.q (v := iv 0) (q_assign rfl) ?_
  refine Wl.done ?_
  refine Wx.go ?_
  refine Wc.seq ?_
  refine Wc.seq ?_
  refine Wc.region ?_
  refine Wl.q (v := pv q0) (q_move rfl) ?_
  refine Wl.q (v := pv q0) (q_nil_ptr rfl) ?_
  refine Wl.q (v := Value.pointer (some ⟨q0, 1, none⟩)) (q_field (m := 1) fo_52_1 rfl rfl) ?_
  refine Wl.q (v := iv 0) (q_load sc_34 rfl (.cel (i := 1) rfl rfl)) ?_
  refine Wl.q (v := Value.bool false) (q_neq (r := true) rfl rfl (decide_eq_true (by decide))) ?_
  refine Wl.done ?_
  refine Wx.go ?_
  refine Wc.no rfl ?_
  refine Wc.skip ?_
  refine Wx.go ?_
  refine Wc.seq ?_
  refine Wc.drawsS [5] ((pt b1 29 [Value.int .u8 3, iv 0, iv 1, iv 2]) :: (pt q0 52 [pv q1, iv 0]) :: (storeW q1 (tl27_3 n)) :: []) (by kernel_rfl) ?_
  refine Wr.pure (v := pv q0) 0 rfl (by kernel_rfl) (.inr (fun _ h => st_take [0, 0, 0] h)) (.inl ⟨rfl, fun _ => q_move rfl⟩) ?_
  refine Wr.pure (v := pv q0) 1 rfl (by kernel_rfl) (.inr (fun _ h => st_take [0, 0, 0] h)) (.inl ⟨rfl, fun _ => q_nil_ptr rfl⟩) ?_
  refine Wr.pure (v := pv q0) 2 rfl (by kernel_rfl) (.inr (fun _ h => st_take [0, 0, 0] h)) (.inl ⟨rfl, fun _ => q_field (m := 0) fo_52_0 rfl rfl⟩) ?_
  refine Wr.take (v := pv q1) 3 rfl (by kernel_rfl) (fun _ h => st_take [0, 0, 0] h) (.inl ⟨rfl, q_load sc_23 rfl (.cel (i := 1) rfl rfl)⟩) ?_
  refine Wr.take (v := Value.agg #[Value.int .u8 3, iv 0, iv 1, iv 2]) 4 rfl (by kernel_rfl) (fun _ h => st_take [0, 0, 0] h) (.inl ⟨rfl, q_loadAgg (vs := [Value.int .u8 3, iv 0, iv 1, iv 2]) ag_29 rfl (Has.of_pt (i := 0) rfl rfl)⟩) ?_
  refine Wr.imp (L' := (storeW q1 (tl27_3 n)) :: (pt b1 29 [Value.int .u8 3, iv 0, iv 1, iv 2]) :: (pt q0 52 [pv q1, iv 0]) :: F) (fun _ h => st_pull [2] h) ?_
  refine Wr.e 5 (by kernel_rfl) rfl (e_call (F := (pt b1 29 [Value.int .u8 3, iv 0, iv 1, iv 2]) :: (pt q0 52 [pv q1, iv 0]) :: F) (args := [pv q1, Value.agg #[Value.int .u8 3, iv 0, iv 1, iv 2]]) Tryd.call12 rfl (make_w W0 q1 (tl27_3 n) (tl28_4 n) ⟨3, 0, 1, 2⟩ 4 4 0 (by unfold okT; decide) (mk_new (by kernel_rfl) (by unfold tl27_3; simp only [List.mem_cons, List.not_mem_nil, or_false, TermR.mk.injEq, not_or]; omega) (by show 3 < 1048576; decide)) rfl)) (.inl (by kernel_rfl)) (fun _ _ => ?_)
  refine Wr.imp (L' := (storeW q1 (tl28_4 n)) :: (pt b1 29 [Value.int .u8 3, iv 0, iv 1, iv 2]) :: (pt q0 52 [pv q1, iv 0]) :: F) (fun _ h => h) ?_
  refine Wr.rebaseS [] ((storeW q1 (tl28_4 n)) :: (pt b1 29 [Value.int .u8 3, iv 0, iv 1, iv 2]) :: (pt q0 52 [pv q1, iv 0]) :: []) (by kernel_rfl) ?_
  refine Wr.pure (v := Value.tuple #[iv 4, iv 0]) 6 rfl (by kernel_rfl) (.inr (fun _ h => st_take [0, 0, 0] h)) (.inl ⟨rfl, fun _ => q_move rfl⟩) ?_
  refine Wr.pure (v := iv 4) 7 rfl (by kernel_rfl) (.inr (fun _ h => st_take [0, 0, 0] h)) (.inl ⟨rfl, fun _ => q_extract (i := 0) rfl rfl⟩) ?_
  refine Wr.pure (v := iv 0) 8 rfl (by kernel_rfl) (.inr (fun _ h => st_take [0, 0, 0] h)) (.inl ⟨rfl, fun _ => q_extract (i := 1) rfl rfl⟩) ?_
  refine Wr.pure (v := iv 4) 9 rfl (by kernel_rfl) (.inr (fun _ h => st_take [0, 0, 0] h)) (.inl ⟨rfl, fun _ => q_assign rfl⟩) ?_
  refine Wr.pure (v := iv 0) 10 rfl (by kernel_rfl) (.inr (fun _ h => st_take [0, 0, 0] h)) (.inl ⟨rfl, fun _ => q_assign rfl⟩) ?_
  refine Wr.done (by kernel_rfl) ?_
  refine Wx.go ?_
  refine Wc.seq ?_
  refine Wc.region ?_
  refine Wl.q (v := pv q0) (q_move rfl) ?_
  refine Wl.q (v := iv 0) (q_move rfl) ?_
  refine Wl.q (v := pv q0) (q_nil_ptr rfl) ?_
  refine Wl.q (v := Value.pointer (some ⟨q0, 1, none⟩)) (q_field (m := 1) fo_52_1 rfl rfl) ?_
  refine Wl.e (e_store (i := 2) (v := iv 0) sz_34 rfl rfl (fun _ _ => rfl) rfl (by simp)) (fun _ _ => ?_)
  refine Wl.imp (L' := (storeW q1 (tl28_4 n)) :: (pt b1 29 [Value.int .u8 3, iv 0, iv 1, iv 2]) :: (pt q0 52 [pv q1, iv 0]) :: F) (fun _ h => h) ?_
  refine Wl.done ?_
  refine Wx.go ?_
  refine Wc.seq ?_
  refine Wc.region ?_
  refine Wl.q (v := iv 4) (q_move rfl) ?_
  refine Wl.q (v := iv 4) (q_assign rfl) ?_
  refine Wl.done ?_
  refine Wx.go ?_
  refine Wc.ret ?_
  refine Wx.fin1 rfl (.inl rfl) (fun w hs => ?_)
  have hs : st W0 w ((pt q0 52 [pv q1, iv 0]) :: (storeW q1 (tl28_4 n)) :: F) := (st_pull [1, 0] (st_drop (st_pull [1] hs)))
  exact ⟨(), trivial, rfl, hs⟩

def tl29_5 (n : Int) : List TermR := [⟨1, n, 0, 0⟩, ⟨1, (n + 1), 0, 0⟩, ⟨1, (n + 2), 0, 0⟩, ⟨3, 0, 1, 2⟩, ⟨4, 3, 4, 0⟩]

set_option maxRecDepth 8000 in
set_option maxHeartbeats 4000000 in
theorem ap11_make (W0 : World) (n : Int) (hn : 0 ≤ n ∧ n ≤ 1152921504606846976) (q0 : Nat) (q1 : Nat)  :
    Con Tryd.prog W0 17 #[pv q0, Value.agg #[Value.int .u8 4, iv 3, iv 4, iv 0]] [pt q0 52 [pv q1, iv 0], storeW q1 (tl28_4 n)] (X := Unit) (fun _ => True) (fun _ => iv 5) (fun _ => [pt q0 52 [pv q1, iv 0], storeW q1 (tl29_5 n)]) := by
  refine Con.of (args := [pv q0, Value.agg #[Value.int .u8 4, iv 3, iv 4, iv 0]]) Tryd.func17 rfl Tryd.ntmps17 rfl (fun F => ?_)
  show Wc _ W0 _ _ _ _ _ ((pt q0 52 [pv q1, iv 0]) :: (storeW q1 (tl28_4 n)) :: F)
  refine Wc.seq ?_
  refine Wc.region ?_
  refine Wl.e (e_box (x := .tmp 1) (vs := [Value.int .u8 4, iv 3, iv 4, iv 0]) rfl) (fun b1 _ => ?_)
  refine Wl.q (v := iv 0) (q_assign rfl) ?_
  refine Wl.done ?_
  refine Wx.go ?_
  refine Wc.seq ?_
  refine Wc.seq ?_
  refine Wc.region ?_
  refine Wl.q (v := pv q0) (q_move rfl) ?_
  refine Wl.q (v := pv q0) (q_nil_ptr rfl) ?_
  refine Wl.q (v := Value.pointer (some ⟨q0, 1, none⟩)) (q_field (m := 1) fo_52_1 rfl rfl) ?_
  refine Wl.q (v := iv 0) (q_load sc_34 rfl (.cel (i := 1) rfl rfl)) ?_
  refine Wl.q (v := Value.bool false) (q_neq (r := true) rfl rfl (decide_eq_true (by decide))) ?_
  refine Wl.done ?_
  refine Wx.go ?_
  refine Wc.no rfl ?_
  refine Wc.skip ?_
  refine Wx.go ?_
  refine Wc.seq ?_
  refine Wc.drawsS [5] ((pt b1 29 [Value.int .u8 4, iv 3, iv 4, iv 0]) :: (pt q0 52 [pv q1, iv 0]) :: (storeW q1 (tl28_4 n)) :: []) (by kernel_rfl) ?_
  refine Wr.pure (v := pv q0) 0 rfl (by kernel_rfl) (.inr (fun _ h => st_take [0, 0, 0] h)) (.inl ⟨rfl, fun _ => q_move rfl⟩) ?_
  refine Wr.pure (v := pv q0) 1 rfl (by kernel_rfl) (.inr (fun _ h => st_take [0, 0, 0] h)) (.inl ⟨rfl, fun _ => q_nil_ptr rfl⟩) ?_
  refine Wr.pure (v := pv q0) 2 rfl (by kernel_rfl) (.inr (fun _ h => st_take [0, 0, 0] h)) (.inl ⟨rfl, fun _ => q_field (m := 0) fo_52_0 rfl rfl⟩) ?_
  refine Wr.take (v := pv q1) 3 rfl (by kernel_rfl) (fun _ h => st_take [0, 0, 0] h) (.inl ⟨rfl, q_load sc_23 rfl (.cel (i := 1) rfl rfl)⟩) ?_
  refine Wr.take (v := Value.agg #[Value.int .u8 4, iv 3, iv 4, iv 0]) 4 rfl (by kernel_rfl) (fun _ h => st_take [0, 0, 0] h) (.inl ⟨rfl, q_loadAgg (vs := [Value.int .u8 4, iv 3, iv 4, iv 0]) ag_29 rfl (Has.of_pt (i := 0) rfl rfl)⟩) ?_
  refine Wr.imp (L' := (storeW q1 (tl28_4 n)) :: (pt b1 29 [Value.int .u8 4, iv 3, iv 4, iv 0]) :: (pt q0 52 [pv q1, iv 0]) :: F) (fun _ h => st_pull [2] h) ?_
  refine Wr.e 5 (by kernel_rfl) rfl (e_call (F := (pt b1 29 [Value.int .u8 4, iv 3, iv 4, iv 0]) :: (pt q0 52 [pv q1, iv 0]) :: F) (args := [pv q1, Value.agg #[Value.int .u8 4, iv 3, iv 4, iv 0]]) Tryd.call12 rfl (make_w W0 q1 (tl28_4 n) (tl29_5 n) ⟨4, 3, 4, 0⟩ 5 5 0 (by unfold okT; decide) (mk_new (by kernel_rfl) (by unfold tl28_4; simp only [List.mem_cons, List.not_mem_nil, or_false, TermR.mk.injEq, not_or]; omega) (by show 4 < 1048576; decide)) rfl)) (.inl (by kernel_rfl)) (fun _ _ => ?_)
  refine Wr.imp (L' := (storeW q1 (tl29_5 n)) :: (pt b1 29 [Value.int .u8 4, iv 3, iv 4, iv 0]) :: (pt q0 52 [pv q1, iv 0]) :: F) (fun _ h => h) ?_
  refine Wr.rebaseS [] ((storeW q1 (tl29_5 n)) :: (pt b1 29 [Value.int .u8 4, iv 3, iv 4, iv 0]) :: (pt q0 52 [pv q1, iv 0]) :: []) (by kernel_rfl) ?_
  refine Wr.pure (v := Value.tuple #[iv 5, iv 0]) 6 rfl (by kernel_rfl) (.inr (fun _ h => st_take [0, 0, 0] h)) (.inl ⟨rfl, fun _ => q_move rfl⟩) ?_
  refine Wr.pure (v := iv 5) 7 rfl (by kernel_rfl) (.inr (fun _ h => st_take [0, 0, 0] h)) (.inl ⟨rfl, fun _ => q_extract (i := 0) rfl rfl⟩) ?_
  refine Wr.pure (v := iv 0) 8 rfl (by kernel_rfl) (.inr (fun _ h => st_take [0, 0, 0] h)) (.inl ⟨rfl, fun _ => q_extract (i := 1) rfl rfl⟩) ?_
  refine Wr.pure (v := iv 5) 9 rfl (by kernel_rfl) (.inr (fun _ h => st_take [0, 0, 0] h)) (.inl ⟨rfl, fun _ => q_assign rfl⟩) ?_
  refine Wr.pure (v := iv 0) 10 rfl (by kernel_rfl) (.inr (fun _ h => st_take [0, 0, 0] h)) (.inl ⟨rfl, fun _ => q_assign rfl⟩) ?_
  refine Wr.done (by kernel_rfl) ?_
  refine Wx.go ?_
  refine Wc.seq ?_
  refine Wc.region ?_
  refine Wl.q (v := pv q0) (q_move rfl) ?_
  refine Wl.q (v := iv 0) (q_move rfl) ?_
  refine Wl.q (v := pv q0) (q_nil_ptr rfl) ?_
  refine Wl.q (v := Value.pointer (some ⟨q0, 1, none⟩)) (q_field (m := 1) fo_52_1 rfl rfl) ?_
  refine Wl.e (e_store (i := 2) (v := iv 0) sz_34 rfl rfl (fun _ _ => rfl) rfl (by simp)) (fun _ _ => ?_)
  refine Wl.imp (L' := (storeW q1 (tl29_5 n)) :: (pt b1 29 [Value.int .u8 4, iv 3, iv 4, iv 0]) :: (pt q0 52 [pv q1, iv 0]) :: F) (fun _ h => h) ?_
  refine Wl.done ?_
  refine Wx.go ?_
  refine Wc.seq ?_
  refine Wc.region ?_
  refine Wl.q (v := iv 5) (q_move rfl) ?_
  refine Wl.q (v := iv 5) (q_assign rfl) ?_
  refine Wl.done ?_
  refine Wx.go ?_
  refine Wc.ret ?_
  refine Wx.fin1 rfl (.inl rfl) (fun w hs => ?_)
  have hs : st W0 w ((pt q0 52 [pv q1, iv 0]) :: (storeW q1 (tl29_5 n)) :: F) := (st_pull [1, 0] (st_drop (st_pull [1] hs)))
  exact ⟨(), trivial, rfl, hs⟩

set_option maxRecDepth 8000 in
set_option maxHeartbeats 4000000 in
theorem ap10_kdf (W0 : World) (n : Int) (hn : 0 ≤ n ∧ n ≤ 1152921504606846976) (q0 : Nat) (q1 : Nat)  :
    Con Tryd.prog W0 16 #[pv q0, iv 3, iv 4, iv 0] [pt q0 52 [pv q1, iv 0], storeW q1 (tl28_4 n)] (X := Unit) (fun _ => True) (fun _ => iv 5) (fun _ => [pt q0 52 [pv q1, iv 0], storeW q1 (tl29_5 n)]) := by
  refine Con.of (args := [pv q0, iv 3, iv 4, iv 0]) Tryd.func16 rfl Tryd.ntmps16 rfl (fun F => ?_)
  show Wc _ W0 _ _ _ _ _ ((pt q0 52 [pv q1, iv 0]) :: (storeW q1 (tl28_4 n)) :: F)
  refine Wc.seq ?_
  refine Wc.region ?_
  refine Wl.q (v := iv 0) (q_assign rfl) ?_
  refine Wl.done ?_
  refine Wx.go ?_
  refine Wc.seq ?_
  refine Wc.region ?_
  refine Wl.q (v := pv q0) (q_move rfl) ?_
  refine Wl.q (v := iv 3) (q_move rfl) ?_
  refine Wl.q (v := iv 4) (q_move rfl) ?_
  refine Wl.q (v := iv 0) (q_move rfl) ?_
  refine Wl.q (v := Value.agg #[Value.int .u8 4, iv 3, iv 4, iv 0]) (q_build (pl := [(0, 1), (1, 1), (2, 1), (3, 1)]) Tryd.underlying29 zo_29 (by kernel_rfl) (by kernel_rfl)) ?_
  refine Wl.e (e_call (F := F) (args := [pv q0, Value.agg #[Value.int .u8 4, iv 3, iv 4, iv 0]]) Tryd.call17 rfl (ap11_make W0 n hn q0 q1)) (fun _ _ => ?_)
  refine Wl.imp (L' := (pt q0 52 [pv q1, iv 0]) :: (storeW q1 (tl29_5 n)) :: F) (fun _ h => h) ?_
  refine Wl.q (v := iv 5) (q_assign rfl) ?_
  refine Wl.done ?_
  refine Wx.go ?_
  refine Wc.ret ?_
  refine Wx.fin1 rfl (.inl rfl) (fun w hs => ?_)
  have hs : st W0 w ((pt q0 52 [pv q1, iv 0]) :: (storeW q1 (tl29_5 n)) :: F) := hs
  exact ⟨(), trivial, rfl, hs⟩

set_option maxRecDepth 8000 in
set_option maxHeartbeats 4000000 in
theorem ap14_List (W0 : World) (n : Int) (hn : 0 ≤ n ∧ n ≤ 1152921504606846976) (q0 : Nat)  :
    Con Tryd.prog W0 29 #[pv q0, Value.slice none 0 0] [storeW q0 (tl29_5 n)] (X := Unit) (fun _ => True) (fun _ => Value.tuple #[iv 0, iv 0]) (fun _ => [storeW q0 (tl29_5 n)]) := by
  refine Con.of (args := [pv q0, Value.slice none 0 0]) Tryd.func29 rfl Tryd.ntmps29 rfl (fun F => ?_)
  show Wc _ W0 _ _ _ _ _ ((storeW q0 (tl29_5 n)) :: F)
  refine Wc.seq ?_
  refine Wc.region ?_
  refine Wl.q (v := iv 0) (q_assign rfl) ?_
  refine Wl.q (v := iv 0) (q_assign rfl) ?_
  refine Wl.done ?_
  refine Wx.go ?_
  refine Wc.seq ?_
  refine Wc.seq ?_
  refine Wc.region ?_
  refine Wl.q (v := pv q0) (q_move rfl) ?_
  refine Wl.e (e_call (F := F) (args := [pv q0]) Tryd.call26 rfl (made_w W0 q0 (tl29_5 n))) (fun _ _ => ?_)
  refine Wl.imp (L' := (storeW q0 (tl29_5 n)) :: F) (fun _ h => h) ?_
  refine Wl.q (v := Value.bool false) (q_not rfl rfl) ?_
  refine Wl.done ?_
  refine Wx.go ?_
  refine Wc.no rfl ?_
  refine Wc.skip ?_
  refine Wx.go ?_
  refine Wc.seq ?_
  refine Wc.seq ?_
  refine Wc.region ?_
  refine Wl.q (v := Value.slice none 0 0) (q_move rfl) ?_
  refine Wl.q (v := iv 0) (q_len_slice Tryd.underlying31 rfl) ?_
  refine Wl.q (v := iv 0) (q_move rfl) ?_
  refine Wl.done ?_
  refine Wx.go ?_
  refine Wc.block ?_
  refine Wc.rounds 64 ?_
  refine Wn.round ?_
  refine Wc.seq ?_
  refine Wc.region ?_
  refine Wl.q (v := Value.bool false) (q_lss (r := false) rfl rfl (decide_eq_false (by decide))) ?_
  refine Wl.done ?_
  refine Wx.go ?_
  refine Wc.seq ?_
  refine Wc.no rfl ?_
  refine Wc.exit ?_
  refine Wx.thenExit ?_
  refine Wx.thenExit ?_
  refine Wx.out ?_
  refine Wx.go ?_
  refine Wc.seq ?_
  refine Wc.seq ?_
  refine Wc.region ?_
  refine Wl.q (v := Value.slice none 0 0) (q_move rfl) ?_
  refine Wl.q (v := iv 0) (q_len_slice Tryd.underlying31 rfl) ?_
  refine Wl.q (v := Value.bool true) (q_eql (r := true) rfl rfl (decide_eq_true (by decide))) ?_
  refine Wl.done ?_
  refine Wx.go ?_
  refine Wc.yes rfl ?_
  refine Wc.seq ?_
  refine Wc.region ?_
  refine Wl.q (v := iv 0) (q_assign rfl) ?_
  refine Wl.q (v := iv 0) (q_assign rfl) ?_
  refine Wl.done ?_
  refine Wx.go ?_
  refine Wc.ret ?_
  refine Wx.thenRet ?_
  refine Wx.fin2 rfl (.inl rfl) (fun w hs => ?_)
  have hs : st W0 w ((storeW q0 (tl29_5 n)) :: F) := hs
  exact ⟨(), trivial, rfl, hs⟩

set_option maxRecDepth 8000 in
set_option maxHeartbeats 4000000 in
theorem ap13_alive (W0 : World) (n : Int) (hn : 0 ≤ n ∧ n ≤ 1152921504606846976) (q0 : Nat)  :
    Con Tryd.prog W0 14 #[pv q0] [storeW q0 (tl29_5 n)] (X := Unit) (fun _ => True) (fun _ => Value.bool true) (fun _ => [storeW q0 (tl29_5 n)]) := by
  refine Con.of (args := [pv q0]) Tryd.func14 rfl Tryd.ntmps14 rfl (fun F => ?_)
  show Wc _ W0 _ _ _ _ _ ((storeW q0 (tl29_5 n)) :: F)
  refine Wc.seq ?_
  refine Wc.region ?_
  refine Wl.q (v := Value.bool false) (q_assign rfl) ?_
  refine Wl.done ?_
  refine Wx.go ?_
  refine Wc.seq ?_
  refine Wc.region ?_
  refine Wl.q (v := pv q0) (q_move rfl) ?_
  refine Wl.e (e_call (F := F) (args := [pv q0, Value.slice none 0 0]) Tryd.call29 rfl (ap14_List W0 n hn q0)) (fun _ _ => ?_)
  refine Wl.imp (L' := (storeW q0 (tl29_5 n)) :: F) (fun _ h => h) ?_
  refine Wl.q (v := Value.tuple #[iv 0, iv 0]) (q_move rfl) ?_
  refine Wl.q (v := iv 0) (q_extract (i := 0) rfl rfl) ?_
  refine Wl.q (v := iv 0) (q_extract (i := 1) rfl rfl) ?_
  refine Wl.q (v := iv 0) (q_assign rfl) ?_
  refine Wl.q (v := iv 0) (q_assign rfl) ?_
  refine Wl.done ?_
  refine Wx.go ?_
  refine Wc.seq ?_
  refine Wc.region ?_
  refine Wl.q (v := iv 0) (q_move rfl) ?_
  refine Wl.q (v := Value.bool true) (q_neq (r := false) rfl rfl (decide_eq_false (by decide))) ?_
  refine Wl.q (v := Value.bool true) (q_assign rfl) ?_
  refine Wl.done ?_
  refine Wx.go ?_
  refine Wc.ret ?_
  refine Wx.fin1 rfl (.inl rfl) (fun w hs => ?_)
  have hs : st W0 w ((storeW q0 (tl29_5 n)) :: F) := hs
  exact ⟨(), trivial, rfl, hs⟩

set_option maxRecDepth 8000 in
set_option maxHeartbeats 4000000 in
theorem ap15_there (W0 : World) (n : Int) (hn : 0 ≤ n ∧ n ≤ 1152921504606846976) (q0 : Nat)  :
    Con Tryd.prog W0 15 #[pv q0, iv 5] [storeW q0 (tl29_5 n)] (X := Unit) (fun _ => True) (fun _ => Value.bool true) (fun _ => [storeW q0 (tl29_5 n)]) := by
  refine Con.of (args := [pv q0, iv 5]) Tryd.func15 rfl Tryd.ntmps15 rfl (fun F => ?_)
  show Wc _ W0 _ _ _ _ _ ((storeW q0 (tl29_5 n)) :: F)
  refine Wc.seq ?_
  refine Wc.region ?_
  refine Wl.q (v := Value.bool false) (q_assign rfl) ?_
  refine Wl.done ?_
  refine Wx.go ?_
  refine Wc.seq ?_
  refine Wc.region ?_
  refine Wl.q (v := pv q0) (q_move rfl) ?_
  refine Wl.q (v := iv 5) (q_move rfl) ?_
  refine Wl.e (e_call (F := F) (args := [pv q0, iv 5]) Tryd.call30 rfl (get_w W0 q0 (tl29_5 n) 5 ⟨4, 3, 4, 0⟩ (by decide) rfl)) (fun _ _ => ?_)
  refine Wl.imp (L' := (storeW q0 (tl29_5 n)) :: F) (fun _ h => h) ?_
  refine Wl.q (v := Value.tuple #[Value.agg #[Value.int .u8 4, iv 3, iv 4, iv 0], Value.bool true]) (q_move rfl) ?_
  refine Wl.q (v := Value.agg #[Value.int .u8 4, iv 3, iv 4, iv 0]) (q_extract (i := 0) rfl rfl) ?_
  refine Wl.q (v := Value.bool true) (q_extract (i := 1) rfl rfl) ?_
  refine Wl.e (e_alloc (vs := [Value.int .u8 0, iv 0, iv 0, iv 0]) zo_29 rfl) (fun b1 _ => ?_)
  refine Wl.e (e_storeAgg (i := 0) (vs := [Value.int .u8 4, iv 3, iv 4, iv 0]) (c' := [Value.int .u8 4, iv 3, iv 4, iv 0]) sz_29 rfl rfl rfl rfl (by simp) rfl) (fun _ _ => ?_)
  refine Wl.imp (L' := (pt b1 29 [Value.int .u8 4, iv 3, iv 4, iv 0]) :: (storeW q0 (tl29_5 n)) :: F) (fun _ h => h) ?_
  refine Wl.q (v := Value.bool true) (q_assign rfl) ?_
  refine Wl.done ?_
  refine Wx.go ?_
  refine Wc.seq ?_
  refine Wc.region ?_
  refine Wl.q (v := Value.bool true) (q_move rfl) ?_
  refine Wl.q (v := Value.bool true) (q_assign rfl) ?_
  refine Wl.done ?_
  refine Wx.go ?_
  refine Wc.ret ?_
  refine Wx.fin1 rfl (.inl rfl) (fun w hs => ?_)
  have hs : st W0 w ((storeW q0 (tl29_5 n)) :: F) := (st_drop (st_pull [0] hs))
  exact ⟨(), trivial, rfl, hs⟩

set_option maxRecDepth 8000 in
set_option maxHeartbeats 4000000 in
theorem ap16_there (W0 : World) (n : Int) (hn : 0 ≤ n ∧ n ≤ 1152921504606846976) (q0 : Nat)  :
    Con Tryd.prog W0 15 #[pv q0, iv 3] [storeW q0 (tl29_5 n)] (X := Unit) (fun _ => True) (fun _ => Value.bool true) (fun _ => [storeW q0 (tl29_5 n)]) := by
  refine Con.of (args := [pv q0, iv 3]) Tryd.func15 rfl Tryd.ntmps15 rfl (fun F => ?_)
  show Wc _ W0 _ _ _ _ _ ((storeW q0 (tl29_5 n)) :: F)
  refine Wc.seq ?_
  refine Wc.region ?_
  refine Wl.q (v := Value.bool false) (q_assign rfl) ?_
  refine Wl.done ?_
  refine Wx.go ?_
  refine Wc.seq ?_
  refine Wc.region ?_
  refine Wl.q (v := pv q0) (q_move rfl) ?_
  refine Wl.q (v := iv 3) (q_move rfl) ?_
  refine Wl.e (e_call (F := F) (args := [pv q0, iv 3]) Tryd.call30 rfl (get_w W0 q0 (tl29_5 n) 3 ⟨1, (n + 2), 0, 0⟩ (by decide) rfl)) (fun _ _ => ?_)
  refine Wl.imp (L' := (storeW q0 (tl29_5 n)) :: F) (fun _ h => h) ?_
  refine Wl.q (v := Value.tuple #[Value.agg #[Value.int .u8 1, iv (n + 2), iv 0, iv 0], Value.bool true]) (q_move rfl) ?_
  refine Wl.q (v := Value.agg #[Value.int .u8 1, iv (n + 2), iv 0, iv 0]) (q_extract (i := 0) rfl rfl) ?_
  refine Wl.q (v := Value.bool true) (q_extract (i := 1) rfl rfl) ?_
  refine Wl.e (e_alloc (vs := [Value.int .u8 0, iv 0, iv 0, iv 0]) zo_29 rfl) (fun b1 _ => ?_)
  refine Wl.e (e_storeAgg (i := 0) (vs := [Value.int .u8 1, iv (n + 2), iv 0, iv 0]) (c' := [Value.int .u8 1, iv (n + 2), iv 0, iv 0]) sz_29 rfl rfl rfl rfl (by simp) rfl) (fun _ _ => ?_)
  refine Wl.imp (L' := (pt b1 29 [Value.int .u8 1, iv (n + 2), iv 0, iv 0]) :: (storeW q0 (tl29_5 n)) :: F) (fun _ h => h) ?_
  refine Wl.q (v := Value.bool true) (q_assign rfl) ?_
  refine Wl.done ?_
  refine Wx.go ?_
  refine Wc.seq ?_
  refine Wc.region ?_
  refine Wl.q (v := Value.bool true) (q_move rfl) ?_
  refine Wl.q (v := Value.bool true) (q_assign rfl) ?_
  refine Wl.done ?_
  refine Wx.go ?_
  refine Wc.ret ?_
  refine Wx.fin1 rfl (.inl rfl) (fun w hs => ?_)
  have hs : st W0 w ((storeW q0 (tl29_5 n)) :: F) := (st_drop (st_pull [0] hs))
  exact ⟨(), trivial, rfl, hs⟩

def tl30_6 (n : Int) : List TermR := [⟨1, n, 0, 0⟩, ⟨1, (n + 1), 0, 0⟩, ⟨1, (n + 2), 0, 0⟩, ⟨3, 0, 1, 2⟩, ⟨4, 3, 4, 0⟩, ⟨4, 4, 5, 3⟩]

set_option maxRecDepth 8000 in
set_option maxHeartbeats 4000000 in
theorem ap18_make (W0 : World) (n : Int) (hn : 0 ≤ n ∧ n ≤ 1152921504606846976) (q0 : Nat) (q1 : Nat)  :
    Con Tryd.prog W0 17 #[pv q0, Value.agg #[Value.int .u8 4, iv 4, iv 5, iv 3]] [pt q0 52 [pv q1, iv 0], storeW q1 (tl29_5 n)] (X := Unit) (fun _ => True) (fun _ => iv 6) (fun _ => [pt q0 52 [pv q1, iv 0], storeW q1 (tl30_6 n)]) := by
  refine Con.of (args := [pv q0, Value.agg #[Value.int .u8 4, iv 4, iv 5, iv 3]]) Tryd.func17 rfl Tryd.ntmps17 rfl (fun F => ?_)
  show Wc _ W0 _ _ _ _ _ ((pt q0 52 [pv q1, iv 0]) :: (storeW q1 (tl29_5 n)) :: F)
  refine Wc.seq ?_
  refine Wc.region ?_
  refine Wl.e (e_box (x := .tmp 1) (vs := [Value.int .u8 4, iv 4, iv 5, iv 3]) rfl) (fun b1 _ => ?_)
  refine Wl.q (v := iv 0) (q_assign rfl) ?_
  refine Wl.done ?_
  refine Wx.go ?_
  refine Wc.seq ?_
  refine Wc.seq ?_
  refine Wc.region ?_
  refine Wl.q (v := pv q0) (q_move rfl) ?_
  refine Wl.q (v := pv q0) (q_nil_ptr rfl) ?_
  refine Wl.q (v := Value.pointer (some ⟨q0, 1, none⟩)) (q_field (m := 1) fo_52_1 rfl rfl) ?_
  refine Wl.q (v := iv 0) (q_load sc_34 rfl (.cel (i := 1) rfl rfl)) ?_
  refine Wl.q (v := Value.bool false) (q_neq (r := true) rfl rfl (decide_eq_true (by decide))) ?_
  refine Wl.done ?_
  refine Wx.go ?_
  refine Wc.no rfl ?_
  refine Wc.skip ?_
  refine Wx.go ?_
  refine Wc.seq ?_
  refine Wc.drawsS [5] ((pt b1 29 [Value.int .u8 4, iv 4, iv 5, iv 3]) :: (pt q0 52 [pv q1, iv 0]) :: (storeW q1 (tl29_5 n)) :: []) (by kernel_rfl) ?_
  refine Wr.pure (v := pv q0) 0 rfl (by kernel_rfl) (.inr (fun _ h => st_take [0, 0, 0] h)) (.inl ⟨rfl, fun _ => q_move rfl⟩) ?_
  refine Wr.pure (v := pv q0) 1 rfl (by kernel_rfl) (.inr (fun _ h => st_take [0, 0, 0] h)) (.inl ⟨rfl, fun _ => q_nil_ptr rfl⟩) ?_
  refine Wr.pure (v := pv q0) 2 rfl (by kernel_rfl) (.inr (fun _ h => st_take [0, 0, 0] h)) (.inl ⟨rfl, fun _ => q_field (m := 0) fo_52_0 rfl rfl⟩) ?_
  refine Wr.take (v := pv q1) 3 rfl (by kernel_rfl) (fun _ h => st_take [0, 0, 0] h) (.inl ⟨rfl, q_load sc_23 rfl (.cel (i := 1) rfl rfl)⟩) ?_
  refine Wr.take (v := Value.agg #[Value.int .u8 4, iv 4, iv 5, iv 3]) 4 rfl (by kernel_rfl) (fun _ h => st_take [0, 0, 0] h) (.inl ⟨rfl, q_loadAgg (vs := [Value.int .u8 4, iv 4, iv 5, iv 3]) ag_29 rfl (Has.of_pt (i := 0) rfl rfl)⟩) ?_
  refine Wr.imp (L' := (storeW q1 (tl29_5 n)) :: (pt b1 29 [Value.int .u8 4, iv 4, iv 5, iv 3]) :: (pt q0 52 [pv q1, iv 0]) :: F) (fun _ h => st_pull [2] h) ?_
  refine Wr.e 5 (by kernel_rfl) rfl (e_call (F := (pt b1 29 [Value.int .u8 4, iv 4, iv 5, iv 3]) :: (pt q0 52 [pv q1, iv 0]) :: F) (args := [pv q1, Value.agg #[Value.int .u8 4, iv 4, iv 5, iv 3]]) Tryd.call12 rfl (make_w W0 q1 (tl29_5 n) (tl30_6 n) ⟨4, 4, 5, 3⟩ 6 6 0 (by unfold okT; decide) (mk_new (by kernel_rfl) (by unfold tl29_5; simp only [List.mem_cons, List.not_mem_nil, or_false, TermR.mk.injEq, not_or]; omega) (by show 5 < 1048576; decide)) rfl)) (.inl (by kernel_rfl)) (fun _ _ => ?_)
  refine Wr.imp (L' := (storeW q1 (tl30_6 n)) :: (pt b1 29 [Value.int .u8 4, iv 4, iv 5, iv 3]) :: (pt q0 52 [pv q1, iv 0]) :: F) (fun _ h => h) ?_
  refine Wr.rebaseS [] ((storeW q1 (tl30_6 n)) :: (pt b1 29 [Value.int .u8 4, iv 4, iv 5, iv 3]) :: (pt q0 52 [pv q1, iv 0]) :: []) (by kernel_rfl) ?_
  refine Wr.pure (v := Value.tuple #[iv 6, iv 0]) 6 rfl (by kernel_rfl) (.inr (fun _ h => st_take [0, 0, 0] h)) (.inl ⟨rfl, fun _ => q_move rfl⟩) ?_
  refine Wr.pure (v := iv 6) 7 rfl (by kernel_rfl) (.inr (fun _ h => st_take [0, 0, 0] h)) (.inl ⟨rfl, fun _ => q_extract (i := 0) rfl rfl⟩) ?_
  refine Wr.pure (v := iv 0) 8 rfl (by kernel_rfl) (.inr (fun _ h => st_take [0, 0, 0] h)) (.inl ⟨rfl, fun _ => q_extract (i := 1) rfl rfl⟩) ?_
  refine Wr.pure (v := iv 6) 9 rfl (by kernel_rfl) (.inr (fun _ h => st_take [0, 0, 0] h)) (.inl ⟨rfl, fun _ => q_assign rfl⟩) ?_
  refine Wr.pure (v := iv 0) 10 rfl (by kernel_rfl) (.inr (fun _ h => st_take [0, 0, 0] h)) (.inl ⟨rfl, fun _ => q_assign rfl⟩) ?_
  refine Wr.done (by kernel_rfl) ?_
  refine Wx.go ?_
  refine Wc.seq ?_
  refine Wc.region ?_
  refine Wl.q (v := pv q0) (q_move rfl) ?_
  refine Wl.q (v := iv 0) (q_move rfl) ?_
  refine Wl.q (v := pv q0) (q_nil_ptr rfl) ?_
  refine Wl.q (v := Value.pointer (some ⟨q0, 1, none⟩)) (q_field (m := 1) fo_52_1 rfl rfl) ?_
  refine Wl.e (e_store (i := 2) (v := iv 0) sz_34 rfl rfl (fun _ _ => rfl) rfl (by simp)) (fun _ _ => ?_)
  refine Wl.imp (L' := (storeW q1 (tl30_6 n)) :: (pt b1 29 [Value.int .u8 4, iv 4, iv 5, iv 3]) :: (pt q0 52 [pv q1, iv 0]) :: F) (fun _ h => h) ?_
  refine Wl.done ?_
  refine Wx.go ?_
  refine Wc.seq ?_
  refine Wc.region ?_
  refine Wl.q (v := iv 6) (q_move rfl) ?_
  refine Wl.q (v := iv 6) (q_assign rfl) ?_
  refine Wl.done ?_
  refine Wx.go ?_
  refine Wc.ret ?_
  refine Wx.fin1 rfl (.inl rfl) (fun w hs => ?_)
  have hs : st W0 w ((pt q0 52 [pv q1, iv 0]) :: (storeW q1 (tl30_6 n)) :: F) := (st_pull [1, 0] (st_drop (st_pull [1] hs)))
  exact ⟨(), trivial, rfl, hs⟩

set_option maxRecDepth 8000 in
set_option maxHeartbeats 4000000 in
theorem ap17_kdf (W0 : World) (n : Int) (hn : 0 ≤ n ∧ n ≤ 1152921504606846976) (q0 : Nat) (q1 : Nat)  :
    Con Tryd.prog W0 16 #[pv q0, iv 4, iv 5, iv 3] [pt q0 52 [pv q1, iv 0], storeW q1 (tl29_5 n)] (X := Unit) (fun _ => True) (fun _ => iv 6) (fun _ => [pt q0 52 [pv q1, iv 0], storeW q1 (tl30_6 n)]) := by
  refine Con.of (args := [pv q0, iv 4, iv 5, iv 3]) Tryd.func16 rfl Tryd.ntmps16 rfl (fun F => ?_)
  show Wc _ W0 _ _ _ _ _ ((pt q0 52 [pv q1, iv 0]) :: (storeW q1 (tl29_5 n)) :: F)
  refine Wc.seq ?_
  refine Wc.region ?_
  refine Wl.q (v := iv 0) (q_assign rfl) ?_
  refine Wl.done ?_
  refine Wx.go ?_
  refine Wc.seq ?_
  refine Wc.region ?_
  refine Wl.q (v := pv q0) (q_move rfl) ?_
  refine Wl.q (v := iv 4) (q_move rfl) ?_
  refine Wl.q (v := iv 5) (q_move rfl) ?_
  refine Wl.q (v := iv 3) (q_move rfl) ?_
  refine Wl.q (v := Value.agg #[Value.int .u8 4, iv 4, iv 5, iv 3]) (q_build (pl := [(0, 1), (1, 1), (2, 1), (3, 1)]) Tryd.underlying29 zo_29 (by kernel_rfl) (by kernel_rfl)) ?_
  refine Wl.e (e_call (F := F) (args := [pv q0, Value.agg #[Value.int .u8 4, iv 4, iv 5, iv 3]]) Tryd.call17 rfl (ap18_make W0 n hn q0 q1)) (fun _ _ => ?_)
  refine Wl.imp (L' := (pt q0 52 [pv q1, iv 0]) :: (storeW q1 (tl30_6 n)) :: F) (fun _ h => h) ?_
  refine Wl.q (v := iv 6) (q_assign rfl) ?_
  refine Wl.done ?_
  refine Wx.go ?_
  refine Wc.ret ?_
  refine Wx.fin1 rfl (.inl rfl) (fun w hs => ?_)
  have hs : st W0 w ((pt q0 52 [pv q1, iv 0]) :: (storeW q1 (tl30_6 n)) :: F) := hs
  exact ⟨(), trivial, rfl, hs⟩

def tl31_7 (n : Int) : List TermR := [⟨1, n, 0, 0⟩, ⟨1, (n + 1), 0, 0⟩, ⟨1, (n + 2), 0, 0⟩, ⟨3, 0, 1, 2⟩, ⟨4, 3, 4, 0⟩, ⟨4, 4, 5, 3⟩, ⟨4, 5, 6, 0⟩]

set_option maxRecDepth 8000 in
set_option maxHeartbeats 4000000 in
theorem ap20_make (W0 : World) (n : Int) (hn : 0 ≤ n ∧ n ≤ 1152921504606846976) (q0 : Nat) (q1 : Nat)  :
    Con Tryd.prog W0 17 #[pv q0, Value.agg #[Value.int .u8 4, iv 5, iv 6, iv 0]] [pt q0 52 [pv q1, iv 0], storeW q1 (tl30_6 n)] (X := Unit) (fun _ => True) (fun _ => iv 7) (fun _ => [pt q0 52 [pv q1, iv 0], storeW q1 (tl31_7 n)]) := by
  refine Con.of (args := [pv q0, Value.agg #[Value.int .u8 4, iv 5, iv 6, iv 0]]) Tryd.func17 rfl Tryd.ntmps17 rfl (fun F => ?_)
  show Wc _ W0 _ _ _ _ _ ((pt q0 52 [pv q1, iv 0]) :: (storeW q1 (tl30_6 n)) :: F)
  refine Wc.seq ?_
  refine Wc.region ?_
  refine Wl.e (e_box (x := .tmp 1) (vs := [Value.int .u8 4, iv 5, iv 6, iv 0]) rfl) (fun b1 _ => ?_)
  refine Wl.q (v := iv 0) (q_assign rfl) ?_
  refine Wl.done ?_
  refine Wx.go ?_
  refine Wc.seq ?_
  refine Wc.seq ?_
  refine Wc.region ?_
  refine Wl.q (v := pv q0) (q_move rfl) ?_
  refine Wl.q (v := pv q0) (q_nil_ptr rfl) ?_
  refine Wl.q (v := Value.pointer (some ⟨q0, 1, none⟩)) (q_field (m := 1) fo_52_1 rfl rfl) ?_
  refine Wl.q (v := iv 0) (q_load sc_34 rfl (.cel (i := 1) rfl rfl)) ?_
  refine Wl.q (v := Value.bool false) (q_neq (r := true) rfl rfl (decide_eq_true (by decide))) ?_
  refine Wl.done ?_
  refine Wx.go ?_
  refine Wc.no rfl ?_
  refine Wc.skip ?_
  refine Wx.go ?_
  refine Wc.seq ?_
  refine Wc.drawsS [5] ((pt b1 29 [Value.int .u8 4, iv 5, iv 6, iv 0]) :: (pt q0 52 [pv q1, iv 0]) :: (storeW q1 (tl30_6 n)) :: []) (by kernel_rfl) ?_
  refine Wr.pure (v := pv q0) 0 rfl (by kernel_rfl) (.inr (fun _ h => st_take [0, 0, 0] h)) (.inl ⟨rfl, fun _ => q_move rfl⟩) ?_
  refine Wr.pure (v := pv q0) 1 rfl (by kernel_rfl) (.inr (fun _ h => st_take [0, 0, 0] h)) (.inl ⟨rfl, fun _ => q_nil_ptr rfl⟩) ?_
  refine Wr.pure (v := pv q0) 2 rfl (by kernel_rfl) (.inr (fun _ h => st_take [0, 0, 0] h)) (.inl ⟨rfl, fun _ => q_field (m := 0) fo_52_0 rfl rfl⟩) ?_
  refine Wr.take (v := pv q1) 3 rfl (by kernel_rfl) (fun _ h => st_take [0, 0, 0] h) (.inl ⟨rfl, q_load sc_23 rfl (.cel (i := 1) rfl rfl)⟩) ?_
  refine Wr.take (v := Value.agg #[Value.int .u8 4, iv 5, iv 6, iv 0]) 4 rfl (by kernel_rfl) (fun _ h => st_take [0, 0, 0] h) (.inl ⟨rfl, q_loadAgg (vs := [Value.int .u8 4, iv 5, iv 6, iv 0]) ag_29 rfl (Has.of_pt (i := 0) rfl rfl)⟩) ?_
  refine Wr.imp (L' := (storeW q1 (tl30_6 n)) :: (pt b1 29 [Value.int .u8 4, iv 5, iv 6, iv 0]) :: (pt q0 52 [pv q1, iv 0]) :: F) (fun _ h => st_pull [2] h) ?_
  refine Wr.e 5 (by kernel_rfl) rfl (e_call (F := (pt b1 29 [Value.int .u8 4, iv 5, iv 6, iv 0]) :: (pt q0 52 [pv q1, iv 0]) :: F) (args := [pv q1, Value.agg #[Value.int .u8 4, iv 5, iv 6, iv 0]]) Tryd.call12 rfl (make_w W0 q1 (tl30_6 n) (tl31_7 n) ⟨4, 5, 6, 0⟩ 7 7 0 (by unfold okT; decide) (mk_new (by kernel_rfl) (by unfold tl30_6; simp only [List.mem_cons, List.not_mem_nil, or_false, TermR.mk.injEq, not_or]; omega) (by show 6 < 1048576; decide)) rfl)) (.inl (by kernel_rfl)) (fun _ _ => ?_)
  refine Wr.imp (L' := (storeW q1 (tl31_7 n)) :: (pt b1 29 [Value.int .u8 4, iv 5, iv 6, iv 0]) :: (pt q0 52 [pv q1, iv 0]) :: F) (fun _ h => h) ?_
  refine Wr.rebaseS [] ((storeW q1 (tl31_7 n)) :: (pt b1 29 [Value.int .u8 4, iv 5, iv 6, iv 0]) :: (pt q0 52 [pv q1, iv 0]) :: []) (by kernel_rfl) ?_
  refine Wr.pure (v := Value.tuple #[iv 7, iv 0]) 6 rfl (by kernel_rfl) (.inr (fun _ h => st_take [0, 0, 0] h)) (.inl ⟨rfl, fun _ => q_move rfl⟩) ?_
  refine Wr.pure (v := iv 7) 7 rfl (by kernel_rfl) (.inr (fun _ h => st_take [0, 0, 0] h)) (.inl ⟨rfl, fun _ => q_extract (i := 0) rfl rfl⟩) ?_
  refine Wr.pure (v := iv 0) 8 rfl (by kernel_rfl) (.inr (fun _ h => st_take [0, 0, 0] h)) (.inl ⟨rfl, fun _ => q_extract (i := 1) rfl rfl⟩) ?_
  refine Wr.pure (v := iv 7) 9 rfl (by kernel_rfl) (.inr (fun _ h => st_take [0, 0, 0] h)) (.inl ⟨rfl, fun _ => q_assign rfl⟩) ?_
  refine Wr.pure (v := iv 0) 10 rfl (by kernel_rfl) (.inr (fun _ h => st_take [0, 0, 0] h)) (.inl ⟨rfl, fun _ => q_assign rfl⟩) ?_
  refine Wr.done (by kernel_rfl) ?_
  refine Wx.go ?_
  refine Wc.seq ?_
  refine Wc.region ?_
  refine Wl.q (v := pv q0) (q_move rfl) ?_
  refine Wl.q (v := iv 0) (q_move rfl) ?_
  refine Wl.q (v := pv q0) (q_nil_ptr rfl) ?_
  refine Wl.q (v := Value.pointer (some ⟨q0, 1, none⟩)) (q_field (m := 1) fo_52_1 rfl rfl) ?_
  refine Wl.e (e_store (i := 2) (v := iv 0) sz_34 rfl rfl (fun _ _ => rfl) rfl (by simp)) (fun _ _ => ?_)
  refine Wl.imp (L' := (storeW q1 (tl31_7 n)) :: (pt b1 29 [Value.int .u8 4, iv 5, iv 6, iv 0]) :: (pt q0 52 [pv q1, iv 0]) :: F) (fun _ h => h) ?_
  refine Wl.done ?_
  refine Wx.go ?_
  refine Wc.seq ?_
  refine Wc.region ?_
  refine Wl.q (v := iv 7) (q_move rfl) ?_
  refine Wl.q (v := iv 7) (q_assign rfl) ?_
  refine Wl.done ?_
  refine Wx.go ?_
  refine Wc.ret ?_
  refine Wx.fin1 rfl (.inl rfl) (fun w hs => ?_)
  have hs : st W0 w ((pt q0 52 [pv q1, iv 0]) :: (storeW q1 (tl31_7 n)) :: F) := (st_pull [1, 0] (st_drop (st_pull [1] hs)))
  exact ⟨(), trivial, rfl, hs⟩

set_option maxRecDepth 8000 in
set_option maxHeartbeats 4000000 in
theorem ap19_kdf (W0 : World) (n : Int) (hn : 0 ≤ n ∧ n ≤ 1152921504606846976) (q0 : Nat) (q1 : Nat)  :
    Con Tryd.prog W0 16 #[pv q0, iv 5, iv 6, iv 0] [pt q0 52 [pv q1, iv 0], storeW q1 (tl30_6 n)] (X := Unit) (fun _ => True) (fun _ => iv 7) (fun _ => [pt q0 52 [pv q1, iv 0], storeW q1 (tl31_7 n)]) := by
  refine Con.of (args := [pv q0, iv 5, iv 6, iv 0]) Tryd.func16 rfl Tryd.ntmps16 rfl (fun F => ?_)
  show Wc _ W0 _ _ _ _ _ ((pt q0 52 [pv q1, iv 0]) :: (storeW q1 (tl30_6 n)) :: F)
  refine Wc.seq ?_
  refine Wc.region ?_
  refine Wl.q (v := iv 0) (q_assign rfl) ?_
  refine Wl.done ?_
  refine Wx.go ?_
  refine Wc.seq ?_
  refine Wc.region ?_
  refine Wl.q (v := pv q0) (q_move rfl) ?_
  refine Wl.q (v := iv 5) (q_move rfl) ?_
  refine Wl.q (v := iv 6) (q_move rfl) ?_
  refine Wl.q (v := iv 0) (q_move rfl) ?_
  refine Wl.q (v := Value.agg #[Value.int .u8 4, iv 5, iv 6, iv 0]) (q_build (pl := [(0, 1), (1, 1), (2, 1), (3, 1)]) Tryd.underlying29 zo_29 (by kernel_rfl) (by kernel_rfl)) ?_
  refine Wl.e (e_call (F := F) (args := [pv q0, Value.agg #[Value.int .u8 4, iv 5, iv 6, iv 0]]) Tryd.call17 rfl (ap20_make W0 n hn q0 q1)) (fun _ _ => ?_)
  refine Wl.imp (L' := (pt q0 52 [pv q1, iv 0]) :: (storeW q1 (tl31_7 n)) :: F) (fun _ h => h) ?_
  refine Wl.q (v := iv 7) (q_assign rfl) ?_
  refine Wl.done ?_
  refine Wx.go ?_
  refine Wc.ret ?_
  refine Wx.fin1 rfl (.inl rfl) (fun w hs => ?_)
  have hs : st W0 w ((pt q0 52 [pv q1, iv 0]) :: (storeW q1 (tl31_7 n)) :: F) := hs
  exact ⟨(), trivial, rfl, hs⟩

def tl32_8 (n : Int) : List TermR := [⟨1, n, 0, 0⟩, ⟨1, (n + 1), 0, 0⟩, ⟨1, (n + 2), 0, 0⟩, ⟨3, 0, 1, 2⟩, ⟨4, 3, 4, 0⟩, ⟨4, 4, 5, 3⟩, ⟨4, 5, 6, 0⟩, ⟨4, 6, 6, 0⟩]

set_option maxRecDepth 8000 in
set_option maxHeartbeats 4000000 in
theorem ap22_make (W0 : World) (n : Int) (hn : 0 ≤ n ∧ n ≤ 1152921504606846976) (q0 : Nat) (q1 : Nat)  :
    Con Tryd.prog W0 17 #[pv q0, Value.agg #[Value.int .u8 4, iv 6, iv 6, iv 0]] [pt q0 52 [pv q1, iv 0], storeW q1 (tl31_7 n)] (X := Unit) (fun _ => True) (fun _ => iv 8) (fun _ => [pt q0 52 [pv q1, iv 0], storeW q1 (tl32_8 n)]) := by
  refine Con.of (args := [pv q0, Value.agg #[Value.int .u8 4, iv 6, iv 6, iv 0]]) Tryd.func17 rfl Tryd.ntmps17 rfl (fun F => ?_)
  show Wc _ W0 _ _ _ _ _ ((pt q0 52 [pv q1, iv 0]) :: (storeW q1 (tl31_7 n)) :: F)
  refine Wc.seq ?_
  refine Wc.region ?_
  refine Wl.e (e_box (x := .tmp 1) (vs := [Value.int .u8 4, iv 6, iv 6, iv 0]) rfl) (fun b1 _ => ?_)
  refine Wl.q (v := iv 0) (q_assign rfl) ?_
  refine Wl.done ?_
  refine Wx.go ?_
  refine Wc.seq ?_
  refine Wc.seq ?_
  refine Wc.region ?_
  refine Wl.q (v := pv q0) (q_move rfl) ?_
  refine Wl.q (v := pv q0) (q_nil_ptr rfl) ?_
  refine Wl.q (v := Value.pointer (some ⟨q0, 1, none⟩)) (q_field (m := 1) fo_52_1 rfl rfl) ?_
  refine Wl.q (v := iv 0) (q_load sc_34 rfl (.cel (i := 1) rfl rfl)) ?_
  refine Wl.q (v := Value.bool false) (q_neq (r := true) rfl rfl (decide_eq_true (by decide))) ?_
  refine Wl.done ?_
  refine Wx.go ?_
  refine Wc.no rfl ?_
  refine Wc.skip ?_
  refine Wx.go ?_
  refine Wc.seq ?_
  refine Wc.drawsS [5] ((pt b1 29 [Value.int .u8 4, iv 6, iv 6, iv 0]) :: (pt q0 52 [pv q1, iv 0]) :: (storeW q1 (tl31_7 n)) :: []) (by kernel_rfl) ?_
  refine Wr.pure (v := pv q0) 0 rfl (by kernel_rfl) (.inr (fun _ h => st_take [0, 0, 0] h)) (.inl ⟨rfl, fun _ => q_move rfl⟩) ?_
  refine Wr.pure (v := pv q0) 1 rfl (by kernel_rfl) (.inr (fun _ h => st_take [0, 0, 0] h)) (.inl ⟨rfl, fun _ => q_nil_ptr rfl⟩) ?_
  refine Wr.pure (v := pv q0) 2 rfl (by kernel_rfl) (.inr (fun _ h => st_take [0, 0, 0] h)) (.inl ⟨rfl, fun _ => q_field (m := 0) fo_52_0 rfl rfl⟩) ?_
  refine Wr.take (v := pv q1) 3 rfl (by kernel_rfl) (fun _ h => st_take [0, 0, 0] h) (.inl ⟨rfl, q_load sc_23 rfl (.cel (i := 1) rfl rfl)⟩) ?_
  refine Wr.take (v := Value.agg #[Value.int .u8 4, iv 6, iv 6, iv 0]) 4 rfl (by kernel_rfl) (fun _ h => st_take [0, 0, 0] h) (.inl ⟨rfl, q_loadAgg (vs := [Value.int .u8 4, iv 6, iv 6, iv 0]) ag_29 rfl (Has.of_pt (i := 0) rfl rfl)⟩) ?_
  refine Wr.imp (L' := (storeW q1 (tl31_7 n)) :: (pt b1 29 [Value.int .u8 4, iv 6, iv 6, iv 0]) :: (pt q0 52 [pv q1, iv 0]) :: F) (fun _ h => st_pull [2] h) ?_
  refine Wr.e 5 (by kernel_rfl) rfl (e_call (F := (pt b1 29 [Value.int .u8 4, iv 6, iv 6, iv 0]) :: (pt q0 52 [pv q1, iv 0]) :: F) (args := [pv q1, Value.agg #[Value.int .u8 4, iv 6, iv 6, iv 0]]) Tryd.call12 rfl (make_w W0 q1 (tl31_7 n) (tl32_8 n) ⟨4, 6, 6, 0⟩ 8 8 0 (by unfold okT; decide) (mk_new (by kernel_rfl) (by unfold tl31_7; simp only [List.mem_cons, List.not_mem_nil, or_false, TermR.mk.injEq, not_or]; omega) (by show 7 < 1048576; decide)) rfl)) (.inl (by kernel_rfl)) (fun _ _ => ?_)
  refine Wr.imp (L' := (storeW q1 (tl32_8 n)) :: (pt b1 29 [Value.int .u8 4, iv 6, iv 6, iv 0]) :: (pt q0 52 [pv q1, iv 0]) :: F) (fun _ h => h) ?_
  refine Wr.rebaseS [] ((storeW q1 (tl32_8 n)) :: (pt b1 29 [Value.int .u8 4, iv 6, iv 6, iv 0]) :: (pt q0 52 [pv q1, iv 0]) :: []) (by kernel_rfl) ?_
  refine Wr.pure (v := Value.tuple #[iv 8, iv 0]) 6 rfl (by kernel_rfl) (.inr (fun _ h => st_take [0, 0, 0] h)) (.inl ⟨rfl, fun _ => q_move rfl⟩) ?_
  refine Wr.pure (v := iv 8) 7 rfl (by kernel_rfl) (.inr (fun _ h => st_take [0, 0, 0] h)) (.inl ⟨rfl, fun _ => q_extract (i := 0) rfl rfl⟩) ?_
  refine Wr.pure (v := iv 0) 8 rfl (by kernel_rfl) (.inr (fun _ h => st_take [0, 0, 0] h)) (.inl ⟨rfl, fun _ => q_extract (i := 1) rfl rfl⟩) ?_
  refine Wr.pure (v := iv 8) 9 rfl (by kernel_rfl) (.inr (fun _ h => st_take [0, 0, 0] h)) (.inl ⟨rfl, fun _ => q_assign rfl⟩) ?_
  refine Wr.pure (v := iv 0) 10 rfl (by kernel_rfl) (.inr (fun _ h => st_take [0, 0, 0] h)) (.inl ⟨rfl, fun _ => q_assign rfl⟩) ?_
  refine Wr.done (by kernel_rfl) ?_
  refine Wx.go ?_
  refine Wc.seq ?_
  refine Wc.region ?_
  refine Wl.q (v := pv q0) (q_move rfl) ?_
  refine Wl.q (v := iv 0) (q_move rfl) ?_
  refine Wl.q (v := pv q0) (q_nil_ptr rfl) ?_
  refine Wl.q (v := Value.pointer (some ⟨q0, 1, none⟩)) (q_field (m := 1) fo_52_1 rfl rfl) ?_
  refine Wl.e (e_store (i := 2) (v := iv 0) sz_34 rfl rfl (fun _ _ => rfl) rfl (by simp)) (fun _ _ => ?_)
  refine Wl.imp (L' := (storeW q1 (tl32_8 n)) :: (pt b1 29 [Value.int .u8 4, iv 6, iv 6, iv 0]) :: (pt q0 52 [pv q1, iv 0]) :: F) (fun _ h => h) ?_
  refine Wl.done ?_
  refine Wx.go ?_
  refine Wc.seq ?_
  refine Wc.region ?_
  refine Wl.q (v := iv 8) (q_move rfl) ?_
  refine Wl.q (v := iv 8) (q_assign rfl) ?_
  refine Wl.done ?_
  refine Wx.go ?_
  refine Wc.ret ?_
  refine Wx.fin1 rfl (.inl rfl) (fun w hs => ?_)
  have hs : st W0 w ((pt q0 52 [pv q1, iv 0]) :: (storeW q1 (tl32_8 n)) :: F) := (st_pull [1, 0] (st_drop (st_pull [1] hs)))
  exact ⟨(), trivial, rfl, hs⟩

set_option maxRecDepth 8000 in
set_option maxHeartbeats 4000000 in
theorem ap21_kdf (W0 : World) (n : Int) (hn : 0 ≤ n ∧ n ≤ 1152921504606846976) (q0 : Nat) (q1 : Nat)  :
    Con Tryd.prog W0 16 #[pv q0, iv 6, iv 6, iv 0] [pt q0 52 [pv q1, iv 0], storeW q1 (tl31_7 n)] (X := Unit) (fun _ => True) (fun _ => iv 8) (fun _ => [pt q0 52 [pv q1, iv 0], storeW q1 (tl32_8 n)]) := by
  refine Con.of (args := [pv q0, iv 6, iv 6, iv 0]) Tryd.func16 rfl Tryd.ntmps16 rfl (fun F => ?_)
  show Wc _ W0 _ _ _ _ _ ((pt q0 52 [pv q1, iv 0]) :: (storeW q1 (tl31_7 n)) :: F)
  refine Wc.seq ?_
  refine Wc.region ?_
  refine Wl.q (v := iv 0) (q_assign rfl) ?_
  refine Wl.done ?_
  refine Wx.go ?_
  refine Wc.seq ?_
  refine Wc.region ?_
  refine Wl.q (v := pv q0) (q_move rfl) ?_
  refine Wl.q (v := iv 6) (q_move rfl) ?_
  refine Wl.q (v := iv 6) (q_move rfl) ?_
  refine Wl.q (v := iv 0) (q_move rfl) ?_
  refine Wl.q (v := Value.agg #[Value.int .u8 4, iv 6, iv 6, iv 0]) (q_build (pl := [(0, 1), (1, 1), (2, 1), (3, 1)]) Tryd.underlying29 zo_29 (by kernel_rfl) (by kernel_rfl)) ?_
  refine Wl.e (e_call (F := F) (args := [pv q0, Value.agg #[Value.int .u8 4, iv 6, iv 6, iv 0]]) Tryd.call17 rfl (ap22_make W0 n hn q0 q1)) (fun _ _ => ?_)
  refine Wl.imp (L' := (pt q0 52 [pv q1, iv 0]) :: (storeW q1 (tl32_8 n)) :: F) (fun _ h => h) ?_
  refine Wl.q (v := iv 8) (q_assign rfl) ?_
  refine Wl.done ?_
  refine Wx.go ?_
  refine Wc.ret ?_
  refine Wx.fin1 rfl (.inl rfl) (fun w hs => ?_)
  have hs : st W0 w ((pt q0 52 [pv q1, iv 0]) :: (storeW q1 (tl32_8 n)) :: F) := hs
  exact ⟨(), trivial, rfl, hs⟩

def tl33_9 (n : Int) : List TermR := [⟨1, n, 0, 0⟩, ⟨1, (n + 1), 0, 0⟩, ⟨1, (n + 2), 0, 0⟩, ⟨3, 0, 1, 2⟩, ⟨4, 3, 4, 0⟩, ⟨4, 4, 5, 3⟩, ⟨4, 5, 6, 0⟩, ⟨4, 6, 6, 0⟩, ⟨4, 7, 6, 0⟩]

set_option maxRecDepth 8000 in
set_option maxHeartbeats 4000000 in
theorem ap24_make (W0 : World) (n : Int) (hn : 0 ≤ n ∧ n ≤ 1152921504606846976) (q0 : Nat) (q1 : Nat)  :
    Con Tryd.prog W0 17 #[pv q0, Value.agg #[Value.int .u8 4, iv 7, iv 6, iv 0]] [pt q0 52 [pv q1, iv 0], storeW q1 (tl32_8 n)] (X := Unit) (fun _ => True) (fun _ => iv 9) (fun _ => [pt q0 52 [pv q1, iv 0], storeW q1 (tl33_9 n)]) := by
  refine Con.of (args := [pv q0, Value.agg #[Value.int .u8 4, iv 7, iv 6, iv 0]]) Tryd.func17 rfl Tryd.ntmps17 rfl (fun F => ?_)
  show Wc _ W0 _ _ _ _ _ ((pt q0 52 [pv q1, iv 0]) :: (storeW q1 (tl32_8 n)) :: F)
  refine Wc.seq ?_
  refine Wc.region ?_
  refine Wl.e (e_box (x := .tmp 1) (vs := [Value.int .u8 4, iv 7, iv 6, iv 0]) rfl) (fun b1 _ => ?_)
  refine Wl.q (v := iv 0) (q_assign rfl) ?_
  refine Wl.done ?_
  refine Wx.go ?_
  refine Wc.seq ?_
  refine Wc.seq ?_
  refine Wc.region ?_
  refine Wl.q (v := pv q0) (q_move rfl) ?_
  refine Wl.q (v := pv q0) (q_nil_ptr rfl) ?_
  refine Wl.q (v := Value.pointer (some ⟨q0, 1, none⟩)) (q_field (m := 1) fo_52_1 rfl rfl) ?_
  refine Wl.q (v := iv 0) (q_load sc_34 rfl (.cel (i := 1) rfl rfl)) ?_
  refine Wl.q (v := Value.bool false) (q_neq (r := true) rfl rfl (decide_eq_true (by decide))) ?_
  refine Wl.done ?_
  refine Wx.go ?_
  refine Wc.no rfl ?_
  refine Wc.skip ?_
  refine Wx.go ?_
  refine Wc.seq ?_
  refine Wc.drawsS [5] ((pt b1 29 [Value.int .u8 4, iv 7, iv 6, iv 0]) :: (pt q0 52 [pv q1, iv 0]) :: (storeW q1 (tl32_8 n)) :: []) (by kernel_rfl) ?_
  refine Wr.pure (v := pv q0) 0 rfl (by kernel_rfl) (.inr (fun _ h => st_take [0, 0, 0] h)) (.inl ⟨rfl, fun _ => q_move rfl⟩) ?_
  refine Wr.pure (v := pv q0) 1 rfl (by kernel_rfl) (.inr (fun _ h => st_take [0, 0, 0] h)) (.inl ⟨rfl, fun _ => q_nil_ptr rfl⟩) ?_
  refine Wr.pure (v := pv q0) 2 rfl (by kernel_rfl) (.inr (fun _ h => st_take [0, 0, 0] h)) (.inl ⟨rfl, fun _ => q_field (m := 0) fo_52_0 rfl rfl⟩) ?_
  refine Wr.take (v := pv q1) 3 rfl (by kernel_rfl) (fun _ h => st_take [0, 0, 0] h) (.inl ⟨rfl, q_load sc_23 rfl (.cel (i := 1) rfl rfl)⟩) ?_
  refine Wr.take (v := Value.agg #[Value.int .u8 4, iv 7, iv 6, iv 0]) 4 rfl (by kernel_rfl) (fun _ h => st_take [0, 0, 0] h) (.inl ⟨rfl, q_loadAgg (vs := [Value.int .u8 4, iv 7, iv 6, iv 0]) ag_29 rfl (Has.of_pt (i := 0) rfl rfl)⟩) ?_
  refine Wr.imp (L' := (storeW q1 (tl32_8 n)) :: (pt b1 29 [Value.int .u8 4, iv 7, iv 6, iv 0]) :: (pt q0 52 [pv q1, iv 0]) :: F) (fun _ h => st_pull [2] h) ?_
  refine Wr.e 5 (by kernel_rfl) rfl (e_call (F := (pt b1 29 [Value.int .u8 4, iv 7, iv 6, iv 0]) :: (pt q0 52 [pv q1, iv 0]) :: F) (args := [pv q1, Value.agg #[Value.int .u8 4, iv 7, iv 6, iv 0]]) Tryd.call12 rfl (make_w W0 q1 (tl32_8 n) (tl33_9 n) ⟨4, 7, 6, 0⟩ 9 9 0 (by unfold okT; decide) (mk_new (by kernel_rfl) (by unfold tl32_8; simp only [List.mem_cons, List.not_mem_nil, or_false, TermR.mk.injEq, not_or]; omega) (by show 8 < 1048576; decide)) rfl)) (.inl (by kernel_rfl)) (fun _ _ => ?_)
  refine Wr.imp (L' := (storeW q1 (tl33_9 n)) :: (pt b1 29 [Value.int .u8 4, iv 7, iv 6, iv 0]) :: (pt q0 52 [pv q1, iv 0]) :: F) (fun _ h => h) ?_
  refine Wr.rebaseS [] ((storeW q1 (tl33_9 n)) :: (pt b1 29 [Value.int .u8 4, iv 7, iv 6, iv 0]) :: (pt q0 52 [pv q1, iv 0]) :: []) (by kernel_rfl) ?_
  refine Wr.pure (v := Value.tuple #[iv 9, iv 0]) 6 rfl (by kernel_rfl) (.inr (fun _ h => st_take [0, 0, 0] h)) (.inl ⟨rfl, fun _ => q_move rfl⟩) ?_
  refine Wr.pure (v := iv 9) 7 rfl (by kernel_rfl) (.inr (fun _ h => st_take [0, 0, 0] h)) (.inl ⟨rfl, fun _ => q_extract (i := 0) rfl rfl⟩) ?_
  refine Wr.pure (v := iv 0) 8 rfl (by kernel_rfl) (.inr (fun _ h => st_take [0, 0, 0] h)) (.inl ⟨rfl, fun _ => q_extract (i := 1) rfl rfl⟩) ?_
  refine Wr.pure (v := iv 9) 9 rfl (by kernel_rfl) (.inr (fun _ h => st_take [0, 0, 0] h)) (.inl ⟨rfl, fun _ => q_assign rfl⟩) ?_
  refine Wr.pure (v := iv 0) 10 rfl (by kernel_rfl) (.inr (fun _ h => st_take [0, 0, 0] h)) (.inl ⟨rfl, fun _ => q_assign rfl⟩) ?_
  refine Wr.done (by kernel_rfl) ?_
  refine Wx.go ?_
  refine Wc.seq ?_
  refine Wc.region ?_
  refine Wl.q (v := pv q0) (q_move rfl) ?_
  refine Wl.q (v := iv 0) (q_move rfl) ?_
  refine Wl.q (v := pv q0) (q_nil_ptr rfl) ?_
  refine Wl.q (v := Value.pointer (some ⟨q0, 1, none⟩)) (q_field (m := 1) fo_52_1 rfl rfl) ?_
  refine Wl.e (e_store (i := 2) (v := iv 0) sz_34 rfl rfl (fun _ _ => rfl) rfl (by simp)) (fun _ _ => ?_)
  refine Wl.imp (L' := (storeW q1 (tl33_9 n)) :: (pt b1 29 [Value.int .u8 4, iv 7, iv 6, iv 0]) :: (pt q0 52 [pv q1, iv 0]) :: F) (fun _ h => h) ?_
  refine Wl.done ?_
  refine Wx.go ?_
  refine Wc.seq ?_
  refine Wc.region ?_
  refine Wl.q (v := iv 9) (q_move rfl) ?_
  refine Wl.q (v := iv 9) (q_assign rfl) ?_
  refine Wl.done ?_
  refine Wx.go ?_
  refine Wc.ret ?_
  refine Wx.fin1 rfl (.inl rfl) (fun w hs => ?_)
  have hs : st W0 w ((pt q0 52 [pv q1, iv 0]) :: (storeW q1 (tl33_9 n)) :: F) := (st_pull [1, 0] (st_drop (st_pull [1] hs)))
  exact ⟨(), trivial, rfl, hs⟩

set_option maxRecDepth 8000 in
set_option maxHeartbeats 4000000 in
theorem ap23_kdf (W0 : World) (n : Int) (hn : 0 ≤ n ∧ n ≤ 1152921504606846976) (q0 : Nat) (q1 : Nat)  :
    Con Tryd.prog W0 16 #[pv q0, iv 7, iv 6, iv 0] [pt q0 52 [pv q1, iv 0], storeW q1 (tl32_8 n)] (X := Unit) (fun _ => True) (fun _ => iv 9) (fun _ => [pt q0 52 [pv q1, iv 0], storeW q1 (tl33_9 n)]) := by
  refine Con.of (args := [pv q0, iv 7, iv 6, iv 0]) Tryd.func16 rfl Tryd.ntmps16 rfl (fun F => ?_)
  show Wc _ W0 _ _ _ _ _ ((pt q0 52 [pv q1, iv 0]) :: (storeW q1 (tl32_8 n)) :: F)
  refine Wc.seq ?_
  refine Wc.region ?_
  refine Wl.q (v := iv 0) (q_assign rfl) ?_
  refine Wl.done ?_
  refine Wx.go ?_
  refine Wc.seq ?_
  refine Wc.region ?_
  refine Wl.q (v := pv q0) (q_move rfl) ?_
  refine Wl.q (v := iv 7) (q_move rfl) ?_
  refine Wl.q (v := iv 6) (q_move rfl) ?_
  refine Wl.q (v := iv 0) (q_move rfl) ?_
  refine Wl.q (v := Value.agg #[Value.int .u8 4, iv 7, iv 6, iv 0]) (q_build (pl := [(0, 1), (1, 1), (2, 1), (3, 1)]) Tryd.underlying29 zo_29 (by kernel_rfl) (by kernel_rfl)) ?_
  refine Wl.e (e_call (F := F) (args := [pv q0, Value.agg #[Value.int .u8 4, iv 7, iv 6, iv 0]]) Tryd.call17 rfl (ap24_make W0 n hn q0 q1)) (fun _ _ => ?_)
  refine Wl.imp (L' := (pt q0 52 [pv q1, iv 0]) :: (storeW q1 (tl33_9 n)) :: F) (fun _ h => h) ?_
  refine Wl.q (v := iv 9) (q_assign rfl) ?_
  refine Wl.done ?_
  refine Wx.go ?_
  refine Wc.ret ?_
  refine Wx.fin1 rfl (.inl rfl) (fun w hs => ?_)
  have hs : st W0 w ((pt q0 52 [pv q1, iv 0]) :: (storeW q1 (tl33_9 n)) :: F) := hs
  exact ⟨(), trivial, rfl, hs⟩

def tl34_10 (n : Int) : List TermR := [⟨1, n, 0, 0⟩, ⟨1, (n + 1), 0, 0⟩, ⟨1, (n + 2), 0, 0⟩, ⟨3, 0, 1, 2⟩, ⟨4, 3, 4, 0⟩, ⟨4, 4, 5, 3⟩, ⟨4, 5, 6, 0⟩, ⟨4, 6, 6, 0⟩, ⟨4, 7, 6, 0⟩, ⟨4, 8, 6, 0⟩]

set_option maxRecDepth 8000 in
set_option maxHeartbeats 4000000 in
theorem ap26_make (W0 : World) (n : Int) (hn : 0 ≤ n ∧ n ≤ 1152921504606846976) (q0 : Nat) (q1 : Nat)  :
    Con Tryd.prog W0 17 #[pv q0, Value.agg #[Value.int .u8 4, iv 8, iv 6, iv 0]] [pt q0 52 [pv q1, iv 0], storeW q1 (tl33_9 n)] (X := Unit) (fun _ => True) (fun _ => iv 10) (fun _ => [pt q0 52 [pv q1, iv 0], storeW q1 (tl34_10 n)]) := by
  refine Con.of (args := [pv q0, Value.agg #[Value.int .u8 4, iv 8, iv 6, iv 0]]) Tryd.func17 rfl Tryd.ntmps17 rfl (fun F => ?_)
  show Wc _ W0 _ _ _ _ _ ((pt q0 52 [pv q1, iv 0]) :: (storeW q1 (tl33_9 n)) :: F)
  refine Wc.seq ?_
  refine Wc.region ?_
  refine Wl.e (e_box (x := .tmp 1) (vs := [Value.int .u8 4, iv 8, iv 6, iv 0]) rfl) (fun b1 _ => ?_)
  refine Wl.q (v := iv 0) (q_assign rfl) ?_
  refine Wl.done ?_
  refine Wx.go ?_
  refine Wc.seq ?_
  refine Wc.seq ?_
  refine Wc.region ?_
  refine Wl.q (v := pv q0) (q_move rfl) ?_
  refine Wl.q (v := pv q0) (q_nil_ptr rfl) ?_
  refine Wl.q (v := Value.pointer (some ⟨q0, 1, none⟩)) (q_field (m := 1) fo_52_1 rfl rfl) ?_
  refine Wl.q (v := iv 0) (q_load sc_34 rfl (.cel (i := 1) rfl rfl)) ?_
  refine Wl.q (v := Value.bool false) (q_neq (r := true) rfl rfl (decide_eq_true (by decide))) ?_
  refine Wl.done ?_
  refine Wx.go ?_
  refine Wc.no rfl ?_
  refine Wc.skip ?_
  refine Wx.go ?_
  refine Wc.seq ?_
  refine Wc.drawsS [5] ((pt b1 29 [Value.int .u8 4, iv 8, iv 6, iv 0]) :: (pt q0 52 [pv q1, iv 0]) :: (storeW q1 (tl33_9 n)) :: []) (by kernel_rfl) ?_
  refine Wr.pure (v := pv q0) 0 rfl (by kernel_rfl) (.inr (fun _ h => st_take [0, 0, 0] h)) (.inl ⟨rfl, fun _ => q_move rfl⟩) ?_
  refine Wr.pure (v := pv q0) 1 rfl (by kernel_rfl) (.inr (fun _ h => st_take [0, 0, 0] h)) (.inl ⟨rfl, fun _ => q_nil_ptr rfl⟩) ?_
  refine Wr.pure (v := pv q0) 2 rfl (by kernel_rfl) (.inr (fun _ h => st_take [0, 0, 0] h)) (.inl ⟨rfl, fun _ => q_field (m := 0) fo_52_0 rfl rfl⟩) ?_
  refine Wr.take (v := pv q1) 3 rfl (by kernel_rfl) (fun _ h => st_take [0, 0, 0] h) (.inl ⟨rfl, q_load sc_23 rfl (.cel (i := 1) rfl rfl)⟩) ?_
  refine Wr.take (v := Value.agg #[Value.int .u8 4, iv 8, iv 6, iv 0]) 4 rfl (by kernel_rfl) (fun _ h => st_take [0, 0, 0] h) (.inl ⟨rfl, q_loadAgg (vs := [Value.int .u8 4, iv 8, iv 6, iv 0]) ag_29 rfl (Has.of_pt (i := 0) rfl rfl)⟩) ?_
  refine Wr.imp (L' := (storeW q1 (tl33_9 n)) :: (pt b1 29 [Value.int .u8 4, iv 8, iv 6, iv 0]) :: (pt q0 52 [pv q1, iv 0]) :: F) (fun _ h => st_pull [2] h) ?_
  refine Wr.e 5 (by kernel_rfl) rfl (e_call (F := (pt b1 29 [Value.int .u8 4, iv 8, iv 6, iv 0]) :: (pt q0 52 [pv q1, iv 0]) :: F) (args := [pv q1, Value.agg #[Value.int .u8 4, iv 8, iv 6, iv 0]]) Tryd.call12 rfl (make_w W0 q1 (tl33_9 n) (tl34_10 n) ⟨4, 8, 6, 0⟩ 10 10 0 (by unfold okT; decide) (mk_new (by kernel_rfl) (by unfold tl33_9; simp only [List.mem_cons, List.not_mem_nil, or_false, TermR.mk.injEq, not_or]; omega) (by show 9 < 1048576; decide)) rfl)) (.inl (by kernel_rfl)) (fun _ _ => ?_)
  refine Wr.imp (L' := (storeW q1 (tl34_10 n)) :: (pt b1 29 [Value.int .u8 4, iv 8, iv 6, iv 0]) :: (pt q0 52 [pv q1, iv 0]) :: F) (fun _ h => h) ?_
  refine Wr.rebaseS [] ((storeW q1 (tl34_10 n)) :: (pt b1 29 [Value.int .u8 4, iv 8, iv 6, iv 0]) :: (pt q0 52 [pv q1, iv 0]) :: []) (by kernel_rfl) ?_
  refine Wr.pure (v := Value.tuple #[iv 10, iv 0]) 6 rfl (by kernel_rfl) (.inr (fun _ h => st_take [0, 0, 0] h)) (.inl ⟨rfl, fun _ => q_move rfl⟩) ?_
  refine Wr.pure (v := iv 10) 7 rfl (by kernel_rfl) (.inr (fun _ h => st_take [0, 0, 0] h)) (.inl ⟨rfl, fun _ => q_extract (i := 0) rfl rfl⟩) ?_
  refine Wr.pure (v := iv 0) 8 rfl (by kernel_rfl) (.inr (fun _ h => st_take [0, 0, 0] h)) (.inl ⟨rfl, fun _ => q_extract (i := 1) rfl rfl⟩) ?_
  refine Wr.pure (v := iv 10) 9 rfl (by kernel_rfl) (.inr (fun _ h => st_take [0, 0, 0] h)) (.inl ⟨rfl, fun _ => q_assign rfl⟩) ?_
  refine Wr.pure (v := iv 0) 10 rfl (by kernel_rfl) (.inr (fun _ h => st_take [0, 0, 0] h)) (.inl ⟨rfl, fun _ => q_assign rfl⟩) ?_
  refine Wr.done (by kernel_rfl) ?_
  refine Wx.go ?_
  refine Wc.seq ?_
  refine Wc.region ?_
  refine Wl.q (v := pv q0) (q_move rfl) ?_
  refine Wl.q (v := iv 0) (q_move rfl) ?_
  refine Wl.q (v := pv q0) (q_nil_ptr rfl) ?_
  refine Wl.q (v := Value.pointer (some ⟨q0, 1, none⟩)) (q_field (m := 1) fo_52_1 rfl rfl) ?_
  refine Wl.e (e_store (i := 2) (v := iv 0) sz_34 rfl rfl (fun _ _ => rfl) rfl (by simp)) (fun _ _ => ?_)
  refine Wl.imp (L' := (storeW q1 (tl34_10 n)) :: (pt b1 29 [Value.int .u8 4, iv 8, iv 6, iv 0]) :: (pt q0 52 [pv q1, iv 0]) :: F) (fun _ h => h) ?_
  refine Wl.done ?_
  refine Wx.go ?_
  refine Wc.seq ?_
  refine Wc.region ?_
  refine Wl.q (v := iv 10) (q_move rfl) ?_
  refine Wl.q (v := iv 10) (q_assign rfl) ?_
  refine Wl.done ?_
  refine Wx.go ?_
  refine Wc.ret ?_
  refine Wx.fin1 rfl (.inl rfl) (fun w hs => ?_)
  have hs : st W0 w ((pt q0 52 [pv q1, iv 0]) :: (storeW q1 (tl34_10 n)) :: F) := (st_pull [1, 0] (st_drop (st_pull [1] hs)))
  exact ⟨(), trivial, rfl, hs⟩

set_option maxRecDepth 8000 in
set_option maxHeartbeats 4000000 in
theorem ap25_kdf (W0 : World) (n : Int) (hn : 0 ≤ n ∧ n ≤ 1152921504606846976) (q0 : Nat) (q1 : Nat)  :
    Con Tryd.prog W0 16 #[pv q0, iv 8, iv 6, iv 0] [pt q0 52 [pv q1, iv 0], storeW q1 (tl33_9 n)] (X := Unit) (fun _ => True) (fun _ => iv 10) (fun _ => [pt q0 52 [pv q1, iv 0], storeW q1 (tl34_10 n)]) := by
  refine Con.of (args := [pv q0, iv 8, iv 6, iv 0]) Tryd.func16 rfl Tryd.ntmps16 rfl (fun F => ?_)
  show Wc _ W0 _ _ _ _ _ ((pt q0 52 [pv q1, iv 0]) :: (storeW q1 (tl33_9 n)) :: F)
  refine Wc.seq ?_
  refine Wc.region ?_
  refine Wl.q (v := iv 0) (q_assign rfl) ?_
  refine Wl.done ?_
  refine Wx.go ?_
  refine Wc.seq ?_
  refine Wc.region ?_
  refine Wl.q (v := pv q0) (q_move rfl) ?_
  refine Wl.q (v := iv 8) (q_move rfl) ?_
  refine Wl.q (v := iv 6) (q_move rfl) ?_
  refine Wl.q (v := iv 0) (q_move rfl) ?_
  refine Wl.q (v := Value.agg #[Value.int .u8 4, iv 8, iv 6, iv 0]) (q_build (pl := [(0, 1), (1, 1), (2, 1), (3, 1)]) Tryd.underlying29 zo_29 (by kernel_rfl) (by kernel_rfl)) ?_
  refine Wl.e (e_call (F := F) (args := [pv q0, Value.agg #[Value.int .u8 4, iv 8, iv 6, iv 0]]) Tryd.call17 rfl (ap26_make W0 n hn q0 q1)) (fun _ _ => ?_)
  refine Wl.imp (L' := (pt q0 52 [pv q1, iv 0]) :: (storeW q1 (tl34_10 n)) :: F) (fun _ h => h) ?_
  refine Wl.q (v := iv 10) (q_assign rfl) ?_
  refine Wl.done ?_
  refine Wx.go ?_
  refine Wc.ret ?_
  refine Wx.fin1 rfl (.inl rfl) (fun w hs => ?_)
  have hs : st W0 w ((pt q0 52 [pv q1, iv 0]) :: (storeW q1 (tl34_10 n)) :: F) := hs
  exact ⟨(), trivial, rfl, hs⟩

set_option maxRecDepth 8000 in
set_option maxHeartbeats 4000000 in
theorem ap12_From (W0 : World) (n : Int) (hn : 0 ≤ n ∧ n ≤ 1152921504606846976) (q0 : Nat)  :
    Con Tryd.prog W0 18 #[pv q0, iv 5, iv 3] [storeW q0 (tl29_5 n)] (X := Unit) (fun _ => True) (fun _ => Value.tuple #[Value.agg #[iv 5, iv 6, iv 7, iv 8, iv 9, iv 10], iv 0]) (fun _ => [storeW q0 (tl34_10 n)]) := by
  refine Con.of (args := [pv q0, iv 5, iv 3]) Tryd.func18 rfl Tryd.ntmps18 rfl (fun F => ?_)
  show Wc _ W0 _ _ _ _ _ ((storeW q0 (tl29_5 n)) :: F)
  refine Wc.seq ?_
  refine Wc.region ?_
  refine Wl.e (e_alloc (vs := [iv 0, iv 0, iv 0, iv 0, iv 0, iv 0]) zo_33 rfl) (fun b1 _ => ?_)
  refine Wl.q (v := iv 0) (q_assign rfl) ?_
  refine Wl.done ?_
  refine Wx.go ?_
  refine Wc.seq ?_
  refine Wc.seq ?_
  refine Wc.region ?_
  refine Wl.q (v := pv q0) (q_move rfl) ?_
  refine Wl.imp (L' := (storeW q0 (tl29_5 n)) :: (pt b1 33 [iv 0, iv 0, iv 0, iv 0, iv 0, iv 0]) :: F) (fun _ h => st_pull [1] h) ?_
  refine Wl.e (e_call (F := (pt b1 33 [iv 0, iv 0, iv 0, iv 0, iv 0, iv 0]) :: F) (args := [pv q0]) Tryd.call14 rfl (ap13_alive W0 n hn q0)) (fun _ _ => ?_)
  refine Wl.imp (L' := (storeW q0 (tl29_5 n)) :: (pt b1 33 [iv 0, iv 0, iv 0, iv 0, iv 0, iv 0]) :: F) (fun _ h => h) ?_
  refine Wl.q (v := Value.bool false) (q_not rfl rfl) ?_
  refine Wl.done ?_
  refine Wx.go ?_
  refine Wc.no rfl ?_
  refine Wc.skip ?_
  refine Wx.go ?_
  refine Wc.seq ?_
  refine Wc.seq ?_
  refine Wc.region ?_
  refine Wl.q (v := pv q0) (q_move rfl) ?_
  refine Wl.q (v := iv 5) (q_move rfl) ?_
  refine Wl.e (e_call (F := (pt b1 33 [iv 0, iv 0, iv 0, iv 0, iv 0, iv 0]) :: F) (args := [pv q0, iv 5]) Tryd.call15 rfl (ap15_there W0 n hn q0)) (fun _ _ => ?_)
  refine Wl.imp (L' := (storeW q0 (tl29_5 n)) :: (pt b1 33 [iv 0, iv 0, iv 0, iv 0, iv 0, iv 0]) :: F) (fun _ h => h) ?_
  refine Wl.q (v := Value.bool false) (q_not rfl rfl) ?_
  refine Wl.q (v := Value.bool false) (q_move rfl) ?_
  refine Wl.q (v := pv q0) (q_move rfl) ?_
  refine Wl.q (v := iv 3) (q_move rfl) ?_
  refine Wl.e (e_call (F := (pt b1 33 [iv 0, iv 0, iv 0, iv 0, iv 0, iv 0]) :: F) (args := [pv q0, iv 3]) Tryd.call15 rfl (ap16_there W0 n hn q0)) (fun _ _ => ?_)
  refine Wl.imp (L' := (storeW q0 (tl29_5 n)) :: (pt b1 33 [iv 0, iv 0, iv 0, iv 0, iv 0, iv 0]) :: F) (fun _ h => h) ?_
  refine Wl.q (v := Value.bool false) (q_not rfl rfl) ?_
  refine Wl.q (v := Value.bool false) (q_pick (t := false) rfl rfl) ?_
  refine Wl.done ?_
  refine Wx.go ?_
  refine Wc.no rfl ?_
  refine Wc.skip ?_
  refine Wx.go ?_
  refine Wc.seq ?_
  refine Wc.region ?_
  refine Wl.q (v := pv q0) (q_move rfl) ?_
  refine Wl.q (v := Value.agg #[pv q0, iv 0]) (q_build (pl := [(0, 1), (1, 1)]) Tryd.underlying52 zo_52 (by kernel_rfl) (by kernel_rfl)) ?_
  refine Wl.e (e_box (x := .tmp 29) (vs := [pv q0, iv 0]) rfl) (fun b2 _ => ?_)
  refine Wl.q (v := pv b2) (q_assign rfl) ?_
  refine Wl.done ?_
  refine Wx.go ?_
  refine Wc.seq ?_
  refine Wc.region ?_
  refine Wl.q (v := pv b2) (q_move rfl) ?_
  refine Wl.q (v := iv 5) (q_move rfl) ?_
  refine Wl.q (v := iv 3) (q_move rfl) ?_
  refine Wl.e (e_call (F := (pt b1 33 [iv 0, iv 0, iv 0, iv 0, iv 0, iv 0]) :: F) (args := [pv b2, iv 4, iv 5, iv 3]) Tryd.call16 rfl (ap17_kdf W0 n hn b2 q0)) (fun _ _ => ?_)
  refine Wl.imp (L' := (pt b2 52 [pv q0, iv 0]) :: (storeW q0 (tl30_6 n)) :: (pt b1 33 [iv 0, iv 0, iv 0, iv 0, iv 0, iv 0]) :: F) (fun _ h => h) ?_
  refine Wl.q (v := iv 6) (q_assign rfl) ?_
  refine Wl.done ?_
  refine Wx.go ?_
  refine Wc.seq ?_
  refine Wc.region ?_
  refine Wl.q (v := iv 5) (q_move rfl) ?_
  refine Wl.q (v := iv 6) (q_move rfl) ?_
  refine Wl.q (v := Value.agg #[iv 5, iv 6, iv 0, iv 0, iv 0, iv 0]) (q_build (pl := [(0, 1), (1, 1), (2, 1), (3, 1), (4, 1), (5, 1)]) Tryd.underlying33 zo_33 (by kernel_rfl) (by kernel_rfl)) ?_
  refine Wl.e (e_alloc (vs := [iv 0, iv 0, iv 0, iv 0, iv 0, iv 0]) zo_33 rfl) (fun b3 _ => ?_)
  refine Wl.e (e_storeAgg (i := 0) (vs := [iv 5, iv 6, iv 0, iv 0, iv 0, iv 0]) (c' := [iv 5, iv 6, iv 0, iv 0, iv 0, iv 0]) sz_33 rfl rfl rfl rfl (by simp) rfl) (fun _ _ => ?_)
  refine Wl.imp (L' := (pt b3 33 [iv 5, iv 6, iv 0, iv 0, iv 0, iv 0]) :: (pt b2 52 [pv q0, iv 0]) :: (storeW q0 (tl30_6 n)) :: (pt b1 33 [iv 0, iv 0, iv 0, iv 0, iv 0, iv 0]) :: F) (fun _ h => h) ?_
  refine Wl.done ?_
  refine Wx.go ?_
  refine Wc.seq ?_
  refine Wc.seq ?_
  refine Wc.region ?_
  refine Wl.q (v := Value.pointer (some ⟨b3, 2, none⟩)) (q_field (m := 2) fo_33_2 rfl rfl) ?_
  refine Wl.q (v := Value.agg #[iv 5, Value.pointer (some ⟨b3, 2, none⟩)]) (q_build (pl := [(0, 1), (1, 1)]) Tryd.underlying81 zo_81 (by kernel_rfl) (by kernel_rfl)) ?_
  refine Wl.q (v := Value.pointer (some ⟨b3, 3, none⟩)) (q_field (m := 3) fo_33_3 rfl rfl) ?_
  refine Wl.q (v := Value.agg #[iv 6, Value.pointer (some ⟨b3, 3, none⟩)]) (q_build (pl := [(0, 1), (1, 1)]) Tryd.underlying81 zo_81 (by kernel_rfl) (by kernel_rfl)) ?_
  refine Wl.q (v := Value.pointer (some ⟨b3, 4, none⟩)) (q_field (m := 4) fo_33_4 rfl rfl) ?_
  refine Wl.q (v := Value.agg #[iv 7, Value.pointer (some ⟨b3, 4, none⟩)]) (q_build (pl := [(0, 1), (1, 1)]) Tryd.underlying81 zo_81 (by kernel_rfl) (by kernel_rfl)) ?_
  refine Wl.q (v := Value.pointer (some ⟨b3, 5, none⟩)) (q_field (m := 5) fo_33_5 rfl rfl) ?_
  refine Wl.q (v := Value.agg #[iv 8, Value.pointer (some ⟨b3, 5, none⟩)]) (q_build (pl := [(0, 1), (1, 1)]) Tryd.underlying81 zo_81 (by kernel_rfl) (by kernel_rfl)) ?_
  refine Wl.e (e_buildSlice (cs := [iv 5, Value.pointer (some ⟨b3, 2, none⟩), iv 6, Value.pointer (some ⟨b3, 3, none⟩), iv 7, Value.pointer (some ⟨b3, 4, none⟩), iv 8, Value.pointer (some ⟨b3, 5, none⟩)]) se_82 zo_81 (by decide) (by decide) (by kernel_rfl)) (fun b4 _ => ?_)
  refine Wl.q (v := iv 4) (q_len_slice Tryd.underlying82 rfl) ?_
  refine Wl.q (v := iv 0) (q_move rfl) ?_
  refine Wl.done ?_
  refine Wx.go ?_
  refine Wc.block ?_
  refine Wc.rounds 64 ?_
  refine Wn.round ?_
  refine Wc.seq ?_
  refine Wc.region ?_
  refine Wl.q (v := Value.bool true) (q_lss (r := true) rfl rfl (decide_eq_true (by decide))) ?_
  refine Wl.done ?_
  refine Wx.go ?_
  refine Wc.seq ?_
  refine Wc.yes rfl ?_
  refine Wc.skip ?_
  refine Wx.go ?_
  refine Wc.seq ?_
  refine Wc.block ?_
  refine Wc.seq ?_
  refine Wc.region ?_
  refine Wl.q (v := pv b4) (q_idx (m := 0) se_82 rfl rfl (by omega) (by omega) rfl) ?_
  refine Wl.q (v := Value.agg #[iv 5, Value.pointer (some ⟨b3, 2, none⟩)]) (q_loadAgg (vs := [iv 5, Value.pointer (some ⟨b3, 2, none⟩)]) ag_81 rfl (Has.of_pt (i := 0) rfl rfl)) ?_
  refine Wl.e (e_alloc (vs := [iv 0, Value.pointer none]) zo_81 rfl) (fun b5 _ => ?_)
  refine Wl.e (e_storeAgg (i := 0) (vs := [iv 5, Value.pointer (some ⟨b3, 2, none⟩)]) (c' := [iv 5, Value.pointer (some ⟨b3, 2, none⟩)]) sz_81 rfl rfl rfl rfl (by simp) rfl) (fun _ _ => ?_)
  refine Wl.imp (L' := (pt b5 81 [iv 5, Value.pointer (some ⟨b3, 2, none⟩)]) :: (pt b4 81 [iv 5, Value.pointer (some ⟨b3, 2, none⟩), iv 6, Value.pointer (some ⟨b3, 3, none⟩), iv 7, Value.pointer (some ⟨b3, 4, none⟩), iv 8, Value.pointer (some ⟨b3, 5, none⟩)]) :: (pt b3 33 [iv 5, iv 6, iv 0, iv 0, iv 0, iv 0]) :: (pt b2 52 [pv q0, iv 0]) :: (storeW q0 (tl30_6 n)) :: (pt b1 33 [iv 0, iv 0, iv 0, iv 0, iv 0, iv 0]) :: F) (fun _ h => h) ?_
  refine Wl.done ?_
  refine Wx.go ?_
  refine Wc.drawsS [8] ((pt b5 81 [iv 5, Value.pointer (some ⟨b3, 2, none⟩)]) :: (pt b4 81 [iv 5, Value.pointer (some ⟨b3, 2, none⟩), iv 6, Value.pointer (some ⟨b3, 3, none⟩), iv 7, Value.pointer (some ⟨b3, 4, none⟩), iv 8, Value.pointer (some ⟨b3, 5, none⟩)]) :: (pt b3 33 [iv 5, iv 6, iv 0, iv 0, iv 0, iv 0]) :: (pt b1 33 [iv 0, iv 0, iv 0, iv 0, iv 0, iv 0]) :: []) (by kernel_rfl) ?_
  refine Wr.pure (v := Value.pointer (some ⟨b5, 1, none⟩)) 0 rfl (by kernel_rfl) (.inr (fun _ h => st_take [0, 0, 0, 2] h)) (.inl ⟨rfl, fun _ => q_field (m := 1) fo_81_1 rfl rfl⟩) ?_
  refine Wr.take (v := Value.pointer (some ⟨b3, 2, none⟩)) 1 rfl (by kernel_rfl) (fun _ h => st_take [0, 0, 0, 2] h) (.inl ⟨rfl, q_load sc_80 rfl (.cel (i := 0) rfl rfl)⟩) ?_
  refine Wr.pure (v := pv b2) 2 rfl (by kernel_rfl) (.inr (fun _ h => st_take [0, 0, 0, 2] h)) (.inl ⟨rfl, fun _ => q_move rfl⟩) ?_
  refine Wr.pure (v := pv b5) 3 rfl (by kernel_rfl) (.inr (fun _ h => st_take [0, 0, 0, 2] h)) (.inl ⟨rfl, fun _ => q_field (m := 0) fo_81_0 rfl rfl⟩) ?_
  refine Wr.take (v := iv 5) 4 rfl (by kernel_rfl) (fun _ h => st_take [0, 0, 0, 2] h) (.inl ⟨rfl, q_load sc_2 rfl (.cel (i := 0) rfl rfl)⟩) ?_
  refine Wr.pure (v := iv 6) 5 rfl (by kernel_rfl) (.inr (fun _ h => st_take [0, 0, 0, 2] h)) (.inl ⟨rfl, fun _ => q_move rfl⟩) ?_
  refine Wr.imp (L' := (pt b2 52 [pv q0, iv 0]) :: (storeW q0 (tl30_6 n)) :: (pt b5 81 [iv 5, Value.pointer (some ⟨b3, 2, none⟩)]) :: (pt b4 81 [iv 5, Value.pointer (some ⟨b3, 2, none⟩), iv 6, Value.pointer (some ⟨b3, 3, none⟩), iv 7, Value.pointer (some ⟨b3, 4, none⟩), iv 8, Value.pointer (some ⟨b3, 5, none⟩)]) :: (pt b3 33 [iv 5, iv 6, iv 0, iv 0, iv 0, iv 0]) :: (pt b1 33 [iv 0, iv 0, iv 0, iv 0, iv 0, iv 0]) :: F) (fun _ h => st_pull [3, 3] h) ?_
  refine Wr.e 6 (by kernel_rfl) rfl (e_call (F := (pt b5 81 [iv 5, Value.pointer (some ⟨b3, 2, none⟩)]) :: (pt b4 81 [iv 5, Value.pointer (some ⟨b3, 2, none⟩), iv 6, Value.pointer (some ⟨b3, 3, none⟩), iv 7, Value.pointer (some ⟨b3, 4, none⟩), iv 8, Value.pointer (some ⟨b3, 5, none⟩)]) :: (pt b3 33 [iv 5, iv 6, iv 0, iv 0, iv 0, iv 0]) :: (pt b1 33 [iv 0, iv 0, iv 0, iv 0, iv 0, iv 0]) :: F) (args := [pv b2, iv 5, iv 6, iv 0]) Tryd.call16 rfl (ap19_kdf W0 n hn b2 q0)) (.inr fun _ _ _ h => st_take [2, 2, 2, 2] h) (fun _ _ => ?_)
  refine Wr.imp (L' := (pt b2 52 [pv q0, iv 0]) :: (storeW q0 (tl31_7 n)) :: (pt b5 81 [iv 5, Value.pointer (some ⟨b3, 2, none⟩)]) :: (pt b4 81 [iv 5, Value.pointer (some ⟨b3, 2, none⟩), iv 6, Value.pointer (some ⟨b3, 3, none⟩), iv 7, Value.pointer (some ⟨b3, 4, none⟩), iv 8, Value.pointer (some ⟨b3, 5, none⟩)]) :: (pt b3 33 [iv 5, iv 6, iv 0, iv 0, iv 0, iv 0]) :: (pt b1 33 [iv 0, iv 0, iv 0, iv 0, iv 0, iv 0]) :: F) (fun _ h => h) ?_
  refine Wr.pure (v := Value.pointer (some ⟨b3, 2, none⟩)) 7 rfl (by kernel_rfl) (.inr (fun _ h => st_take [2, 2, 2, 2] h)) (.inl ⟨rfl, fun _ => q_nil_ptr rfl⟩) ?_
  refine Wr.e 8 (by kernel_rfl) rfl (e_store (i := 4) (v := iv 7) sz_3 rfl rfl (fun _ _ => rfl) rfl (by simp)) (.inl (by kernel_rfl)) (fun _ _ => ?_)
  refine Wr.imp (L' := (pt b2 52 [pv q0, iv 0]) :: (storeW q0 (tl31_7 n)) :: (pt b5 81 [iv 5, Value.pointer (some ⟨b3, 2, none⟩)]) :: (pt b4 81 [iv 5, Value.pointer (some ⟨b3, 2, none⟩), iv 6, Value.pointer (some ⟨b3, 3, none⟩), iv 7, Value.pointer (some ⟨b3, 4, none⟩), iv 8, Value.pointer (some ⟨b3, 5, none⟩)]) :: (pt b3 33 [iv 5, iv 6, iv 7, iv 0, iv 0, iv 0]) :: (pt b1 33 [iv 0, iv 0, iv 0, iv 0, iv 0, iv 0]) :: F) (fun _ h => h) ?_
  refine Wr.rebaseS [] ((pt b2 52 [pv q0, iv 0]) :: (storeW q0 (tl31_7 n)) :: (pt b5 81 [iv 5, Value.pointer (some ⟨b3, 2, none⟩)]) :: (pt b4 81 [iv 5, Value.pointer (some ⟨b3, 2, none⟩), iv 6, Value.pointer (some ⟨b3, 3, none⟩), iv 7, Value.pointer (some ⟨b3, 4, none⟩), iv 8, Value.pointer (some ⟨b3, 5, none⟩)]) :: (pt b3 33 [iv 5, iv 6, iv 7, iv 0, iv 0, iv 0]) :: (pt b1 33 [iv 0, iv 0, iv 0, iv 0, iv 0, iv 0]) :: []) (by kernel_rfl) ?_
  refine Wr.done (by kernel_rfl) ?_
  refine Wx.blockEnd ?_
  refine Wx.go ?_
  refine Wc.region ?_
  refine Wl.q (v := iv 1) (q_add (c := 1) rfl rfl (by decide)) ?_
  refine Wl.q (v := iv 1) (q_move rfl) ?_
  refine Wl.done ?_
  refine Wx.again ?_
  refine Wn.round ?_
  refine Wc.imp (L' := (pt b2 52 [pv q0, iv 0]) :: (storeW q0 (tl31_7 n)) :: (pt b4 81 [iv 5, Value.pointer (some ⟨b3, 2, none⟩), iv 6, Value.pointer (some ⟨b3, 3, none⟩), iv 7, Value.pointer (some ⟨b3, 4, none⟩), iv 8, Value.pointer (some ⟨b3, 5, none⟩)]) :: (pt b3 33 [iv 5, iv 6, iv 7, iv 0, iv 0, iv 0]) :: (pt b1 33 [iv 0, iv 0, iv 0, iv 0, iv 0, iv 0]) :: F) (fun w hs => (st_drop (st_pull [2] hs))) ?_
  refine Wc.seq ?_
  refine Wc.region ?_
  refine Wl.q (v := Value.bool true) (q_lss (r := true) rfl rfl (decide_eq_true (by decide))) ?_
  refine Wl.done ?_
  refine Wx.go ?_
  refine Wc.seq ?_
  refine Wc.yes rfl ?_
  refine Wc.skip ?_
  refine Wx.go ?_
  refine Wc.seq ?_
  refine Wc.block ?_
  refine Wc.seq ?_
  refine Wc.region ?_
  refine Wl.q (v := Value.pointer (some ⟨b4, 2, none⟩)) (q_idx (m := 2) se_82 rfl rfl (by omega) (by omega) rfl) ?_
  refine Wl.q (v := Value.agg #[iv 6, Value.pointer (some ⟨b3, 3, none⟩)]) (q_loadAgg (vs := [iv 6, Value.pointer (some ⟨b3, 3, none⟩)]) ag_81 rfl (Has.of_pt (i := 2) rfl rfl)) ?_
  refine Wl.e (e_alloc (vs := [iv 0, Value.pointer none]) zo_81 rfl) (fun b6 _ => ?_)
  refine Wl.e (e_storeAgg (i := 0) (vs := [iv 6, Value.pointer (some ⟨b3, 3, none⟩)]) (c' := [iv 6, Value.pointer (some ⟨b3, 3, none⟩)]) sz_81 rfl rfl rfl rfl (by simp) rfl) (fun _ _ => ?_)
  refine Wl.imp (L' := (pt b6 81 [iv 6, Value.pointer (some ⟨b3, 3, none⟩)]) :: (pt b2 52 [pv q0, iv 0]) :: (storeW q0 (tl31_7 n)) :: (pt b4 81 [iv 5, Value.pointer (some ⟨b3, 2, none⟩), iv 6, Value.pointer (some ⟨b3, 3, none⟩), iv 7, Value.pointer (some ⟨b3, 4, none⟩), iv 8, Value.pointer (some ⟨b3, 5, none⟩)]) :: (pt b3 33 [iv 5, iv 6, iv 7, iv 0, iv 0, iv 0]) :: (pt b1 33 [iv 0, iv 0, iv 0, iv 0, iv 0, iv 0]) :: F) (fun _ h => h) ?_
  refine Wl.done ?_
  refine Wx.go ?_
  refine Wc.drawsS [8] ((pt b6 81 [iv 6, Value.pointer (some ⟨b3, 3, none⟩)]) :: (pt b4 81 [iv 5, Value.pointer (some ⟨b3, 2, none⟩), iv 6, Value.pointer (some ⟨b3, 3, none⟩), iv 7, Value.pointer (some ⟨b3, 4, none⟩), iv 8, Value.pointer (some ⟨b3, 5, none⟩)]) :: (pt b3 33 [iv 5, iv 6, iv 7, iv 0, iv 0, iv 0]) :: (pt b1 33 [iv 0, iv 0, iv 0, iv 0, iv 0, iv 0]) :: []) (by kernel_rfl) ?_
  refine Wr.pure (v := Value.pointer (some ⟨b6, 1, none⟩)) 0 rfl (by kernel_rfl) (.inr (fun _ h => st_take [0, 2, 2, 2] h)) (.inl ⟨rfl, fun _ => q_field (m := 1) fo_81_1 rfl rfl⟩) ?_
  refine Wr.take (v := Value.pointer (some ⟨b3, 3, none⟩)) 1 rfl (by kernel_rfl) (fun _ h => st_take [0, 2, 2, 2] h) (.inl ⟨rfl, q_load sc_80 rfl (.cel (i := 0) rfl rfl)⟩) ?_
  refine Wr.pure (v := pv b2) 2 rfl (by kernel_rfl) (.inr (fun _ h => st_take [0, 2, 2, 2] h)) (.inl ⟨rfl, fun _ => q_move rfl⟩) ?_
  refine Wr.pure (v := pv b6) 3 rfl (by kernel_rfl) (.inr (fun _ h => st_take [0, 2, 2, 2] h)) (.inl ⟨rfl, fun _ => q_field (m := 0) fo_81_0 rfl rfl⟩) ?_
  refine Wr.take (v := iv 6) 4 rfl (by kernel_rfl) (fun _ h => st_take [0, 2, 2, 2] h) (.inl ⟨rfl, q_load sc_2 rfl (.cel (i := 0) rfl rfl)⟩) ?_
  refine Wr.pure (v := iv 6) 5 rfl (by kernel_rfl) (.inr (fun _ h => st_take [0, 2, 2, 2] h)) (.inl ⟨rfl, fun _ => q_move rfl⟩) ?_
  refine Wr.imp (L' := (pt b2 52 [pv q0, iv 0]) :: (storeW q0 (tl31_7 n)) :: (pt b6 81 [iv 6, Value.pointer (some ⟨b3, 3, none⟩)]) :: (pt b4 81 [iv 5, Value.pointer (some ⟨b3, 2, none⟩), iv 6, Value.pointer (some ⟨b3, 3, none⟩), iv 7, Value.pointer (some ⟨b3, 4, none⟩), iv 8, Value.pointer (some ⟨b3, 5, none⟩)]) :: (pt b3 33 [iv 5, iv 6, iv 7, iv 0, iv 0, iv 0]) :: (pt b1 33 [iv 0, iv 0, iv 0, iv 0, iv 0, iv 0]) :: F) (fun _ h => st_pull [1, 1] h) ?_
  refine Wr.e 6 (by kernel_rfl) rfl (e_call (F := (pt b6 81 [iv 6, Value.pointer (some ⟨b3, 3, none⟩)]) :: (pt b4 81 [iv 5, Value.pointer (some ⟨b3, 2, none⟩), iv 6, Value.pointer (some ⟨b3, 3, none⟩), iv 7, Value.pointer (some ⟨b3, 4, none⟩), iv 8, Value.pointer (some ⟨b3, 5, none⟩)]) :: (pt b3 33 [iv 5, iv 6, iv 7, iv 0, iv 0, iv 0]) :: (pt b1 33 [iv 0, iv 0, iv 0, iv 0, iv 0, iv 0]) :: F) (args := [pv b2, iv 6, iv 6, iv 0]) Tryd.call16 rfl (ap21_kdf W0 n hn b2 q0)) (.inr fun _ _ _ h => st_take [2, 2, 2, 2] h) (fun _ _ => ?_)
  refine Wr.imp (L' := (pt b2 52 [pv q0, iv 0]) :: (storeW q0 (tl32_8 n)) :: (pt b6 81 [iv 6, Value.pointer (some ⟨b3, 3, none⟩)]) :: (pt b4 81 [iv 5, Value.pointer (some ⟨b3, 2, none⟩), iv 6, Value.pointer (some ⟨b3, 3, none⟩), iv 7, Value.pointer (some ⟨b3, 4, none⟩), iv 8, Value.pointer (some ⟨b3, 5, none⟩)]) :: (pt b3 33 [iv 5, iv 6, iv 7, iv 0, iv 0, iv 0]) :: (pt b1 33 [iv 0, iv 0, iv 0, iv 0, iv 0, iv 0]) :: F) (fun _ h => h) ?_
  refine Wr.pure (v := Value.pointer (some ⟨b3, 3, none⟩)) 7 rfl (by kernel_rfl) (.inr (fun _ h => st_take [2, 2, 2, 2] h)) (.inl ⟨rfl, fun _ => q_nil_ptr rfl⟩) ?_
  refine Wr.e 8 (by kernel_rfl) rfl (e_store (i := 4) (v := iv 8) sz_3 rfl rfl (fun _ _ => rfl) rfl (by simp)) (.inl (by kernel_rfl)) (fun _ _ => ?_)
  refine Wr.imp (L' := (pt b2 52 [pv q0, iv 0]) :: (storeW q0 (tl32_8 n)) :: (pt b6 81 [iv 6, Value.pointer (some ⟨b3, 3, none⟩)]) :: (pt b4 81 [iv 5, Value.pointer (some ⟨b3, 2, none⟩), iv 6, Value.pointer (some ⟨b3, 3, none⟩), iv 7, Value.pointer (some ⟨b3, 4, none⟩), iv 8, Value.pointer (some ⟨b3, 5, none⟩)]) :: (pt b3 33 [iv 5, iv 6, iv 7, iv 8, iv 0, iv 0]) :: (pt b1 33 [iv 0, iv 0, iv 0, iv 0, iv 0, iv 0]) :: F) (fun _ h => h) ?_
  refine Wr.rebaseS [] ((pt b2 52 [pv q0, iv 0]) :: (storeW q0 (tl32_8 n)) :: (pt b6 81 [iv 6, Value.pointer (some ⟨b3, 3, none⟩)]) :: (pt b4 81 [iv 5, Value.pointer (some ⟨b3, 2, none⟩), iv 6, Value.pointer (some ⟨b3, 3, none⟩), iv 7, Value.pointer (some ⟨b3, 4, none⟩), iv 8, Value.pointer (some ⟨b3, 5, none⟩)]) :: (pt b3 33 [iv 5, iv 6, iv 7, iv 8, iv 0, iv 0]) :: (pt b1 33 [iv 0, iv 0, iv 0, iv 0, iv 0, iv 0]) :: []) (by kernel_rfl) ?_
  refine Wr.done (by kernel_rfl) ?_
  refine Wx.blockEnd ?_
  refine Wx.go ?_
  refine Wc.region ?_
  refine Wl.q (v := iv 2) (q_add (c := 2) rfl rfl (by decide)) ?_
  refine Wl.q (v := iv 2) (q_move rfl) ?_
  refine Wl.done ?_
  refine Wx.again ?_
  refine Wn.round ?_
  refine Wc.imp (L' := (pt b2 52 [pv q0, iv 0]) :: (storeW q0 (tl32_8 n)) :: (pt b4 81 [iv 5, Value.pointer (some ⟨b3, 2, none⟩), iv 6, Value.pointer (some ⟨b3, 3, none⟩), iv 7, Value.pointer (some ⟨b3, 4, none⟩), iv 8, Value.pointer (some ⟨b3, 5, none⟩)]) :: (pt b3 33 [iv 5, iv 6, iv 7, iv 8, iv 0, iv 0]) :: (pt b1 33 [iv 0, iv 0, iv 0, iv 0, iv 0, iv 0]) :: F) (fun w hs => (st_drop (st_pull [2] hs))) ?_
  refine Wc.seq ?_
  refine Wc.region ?_
  refine Wl.q (v := Value.bool true) (q_lss (r := true) rfl rfl (decide_eq_true (by decide))) ?_
  refine Wl.done ?_
  refine Wx.go ?_
  refine Wc.seq ?_
  refine Wc.yes rfl ?_
  refine Wc.skip ?_
  refine Wx.go ?_
  refine Wc.seq ?_
  refine Wc.block ?_
  refine Wc.seq ?_
  refine Wc.region ?_
  refine Wl.q (v := Value.pointer (some ⟨b4, 4, none⟩)) (q_idx (m := 4) se_82 rfl rfl (by omega) (by omega) rfl) ?_
  refine Wl.q (v := Value.agg #[iv 7, Value.pointer (some ⟨b3, 4, none⟩)]) (q_loadAgg (vs := [iv 7, Value.pointer (some ⟨b3, 4, none⟩)]) ag_81 rfl (Has.of_pt (i := 2) rfl rfl)) ?_
  refine Wl.e (e_alloc (vs := [iv 0, Value.pointer none]) zo_81 rfl) (fun b7 _ => ?_)
  refine Wl.e (e_storeAgg (i := 0) (vs := [iv 7, Value.pointer (some ⟨b3, 4, none⟩)]) (c' := [iv 7, Value.pointer (some ⟨b3, 4, none⟩)]) sz_81 rfl rfl rfl rfl (by simp) rfl) (fun _ _ => ?_)
  refine Wl.imp (L' := (pt b7 81 [iv 7, Value.pointer (some ⟨b3, 4, none⟩)]) :: (pt b2 52 [pv q0, iv 0]) :: (storeW q0 (tl32_8 n)) :: (pt b4 81 [iv 5, Value.pointer (some ⟨b3, 2, none⟩), iv 6, Value.pointer (some ⟨b3, 3, none⟩), iv 7, Value.pointer (some ⟨b3, 4, none⟩), iv 8, Value.pointer (some ⟨b3, 5, none⟩)]) :: (pt b3 33 [iv 5, iv 6, iv 7, iv 8, iv 0, iv 0]) :: (pt b1 33 [iv 0, iv 0, iv 0, iv 0, iv 0, iv 0]) :: F) (fun _ h => h) ?_
  refine Wl.done ?_
  refine Wx.go ?_
  refine Wc.drawsS [8] ((pt b7 81 [iv 7, Value.pointer (some ⟨b3, 4, none⟩)]) :: (pt b4 81 [iv 5, Value.pointer (some ⟨b3, 2, none⟩), iv 6, Value.pointer (some ⟨b3, 3, none⟩), iv 7, Value.pointer (some ⟨b3, 4, none⟩), iv 8, Value.pointer (some ⟨b3, 5, none⟩)]) :: (pt b3 33 [iv 5, iv 6, iv 7, iv 8, iv 0, iv 0]) :: (pt b1 33 [iv 0, iv 0, iv 0, iv 0, iv 0, iv 0]) :: []) (by kernel_rfl) ?_
  refine Wr.pure (v := Value.pointer (some ⟨b7, 1, none⟩)) 0 rfl (by kernel_rfl) (.inr (fun _ h => st_take [0, 2, 2, 2] h)) (.inl ⟨rfl, fun _ => q_field (m := 1) fo_81_1 rfl rfl⟩) ?_
  refine Wr.take (v := Value.pointer (some ⟨b3, 4, none⟩)) 1 rfl (by kernel_rfl) (fun _ h => st_take [0, 2, 2, 2] h) (.inl ⟨rfl, q_load sc_80 rfl (.cel (i := 0) rfl rfl)⟩) ?_
  refine Wr.pure (v := pv b2) 2 rfl (by kernel_rfl) (.inr (fun _ h => st_take [0, 2, 2, 2] h)) (.inl ⟨rfl, fun _ => q_move rfl⟩) ?_
  refine Wr.pure (v := pv b7) 3 rfl (by kernel_rfl) (.inr (fun _ h => st_take [0, 2, 2, 2] h)) (.inl ⟨rfl, fun _ => q_field (m := 0) fo_81_0 rfl rfl⟩) ?_
  refine Wr.take (v := iv 7) 4 rfl (by kernel_rfl) (fun _ h => st_take [0, 2, 2, 2] h) (.inl ⟨rfl, q_load sc_2 rfl (.cel (i := 0) rfl rfl)⟩) ?_
  refine Wr.pure (v := iv 6) 5 rfl (by kernel_rfl) (.inr (fun _ h => st_take [0, 2, 2, 2] h)) (.inl ⟨rfl, fun _ => q_move rfl⟩) ?_
  refine Wr.imp (L' := (pt b2 52 [pv q0, iv 0]) :: (storeW q0 (tl32_8 n)) :: (pt b7 81 [iv 7, Value.pointer (some ⟨b3, 4, none⟩)]) :: (pt b4 81 [iv 5, Value.pointer (some ⟨b3, 2, none⟩), iv 6, Value.pointer (some ⟨b3, 3, none⟩), iv 7, Value.pointer (some ⟨b3, 4, none⟩), iv 8, Value.pointer (some ⟨b3, 5, none⟩)]) :: (pt b3 33 [iv 5, iv 6, iv 7, iv 8, iv 0, iv 0]) :: (pt b1 33 [iv 0, iv 0, iv 0, iv 0, iv 0, iv 0]) :: F) (fun _ h => st_pull [1, 1] h) ?_
  refine Wr.e 6 (by kernel_rfl) rfl (e_call (F := (pt b7 81 [iv 7, Value.pointer (some ⟨b3, 4, none⟩)]) :: (pt b4 81 [iv 5, Value.pointer (some ⟨b3, 2, none⟩), iv 6, Value.pointer (some ⟨b3, 3, none⟩), iv 7, Value.pointer (some ⟨b3, 4, none⟩), iv 8, Value.pointer (some ⟨b3, 5, none⟩)]) :: (pt b3 33 [iv 5, iv 6, iv 7, iv 8, iv 0, iv 0]) :: (pt b1 33 [iv 0, iv 0, iv 0, iv 0, iv 0, iv 0]) :: F) (args := [pv b2, iv 7, iv 6, iv 0]) Tryd.call16 rfl (ap23_kdf W0 n hn b2 q0)) (.inr fun _ _ _ h => st_take [2, 2, 2, 2] h) (fun _ _ => ?_)
  refine Wr.imp (L' := (pt b2 52 [pv q0, iv 0]) :: (storeW q0 (tl33_9 n)) :: (pt b7 81 [iv 7, Value.pointer (some ⟨b3, 4, none⟩)]) :: (pt b4 81 [iv 5, Value.pointer (some ⟨b3, 2, none⟩), iv 6, Value.pointer (some ⟨b3, 3, none⟩), iv 7, Value.pointer (some ⟨b3, 4, none⟩), iv 8, Value.pointer (some ⟨b3, 5, none⟩)]) :: (pt b3 33 [iv 5, iv 6, iv 7, iv 8, iv 0, iv 0]) :: (pt b1 33 [iv 0, iv 0, iv 0, iv 0, iv 0, iv 0]) :: F) (fun _ h => h) ?_
  refine Wr.pure (v := Value.pointer (some ⟨b3, 4, none⟩)) 7 rfl (by kernel_rfl) (.inr (fun _ h => st_take [2, 2, 2, 2] h)) (.inl ⟨rfl, fun _ => q_nil_ptr rfl⟩) ?_
  refine Wr.e 8 (by kernel_rfl) rfl (e_store (i := 4) (v := iv 9) sz_3 rfl rfl (fun _ _ => rfl) rfl (by simp)) (.inl (by kernel_rfl)) (fun _ _ => ?_)
  refine Wr.imp (L' := (pt b2 52 [pv q0, iv 0]) :: (storeW q0 (tl33_9 n)) :: (pt b7 81 [iv 7, Value.pointer (some ⟨b3, 4, none⟩)]) :: (pt b4 81 [iv 5, Value.pointer (some ⟨b3, 2, none⟩), iv 6, Value.pointer (some ⟨b3, 3, none⟩), iv 7, Value.pointer (some ⟨b3, 4, none⟩), iv 8, Value.pointer (some ⟨b3, 5, none⟩)]) :: (pt b3 33 [iv 5, iv 6, iv 7, iv 8, iv 9, iv 0]) :: (pt b1 33 [iv 0, iv 0, iv 0, iv 0, iv 0, iv 0]) :: F) (fun _ h => h) ?_
  refine Wr.rebaseS [] ((pt b2 52 [pv q0, iv 0]) :: (storeW q0 (tl33_9 n)) :: (pt b7 81 [iv 7, Value.pointer (some ⟨b3, 4, none⟩)]) :: (pt b4 81 [iv 5, Value.pointer (some ⟨b3, 2, none⟩), iv 6, Value.pointer (some ⟨b3, 3, none⟩), iv 7, Value.pointer (some ⟨b3, 4, none⟩), iv 8, Value.pointer (some ⟨b3, 5, none⟩)]) :: (pt b3 33 [iv 5, iv 6, iv 7, iv 8, iv 9, iv 0]) :: (pt b1 33 [iv 0, iv 0, iv 0, iv 0, iv 0, iv 0]) :: []) (by kernel_rfl) ?_
  refine Wr.done (by kernel_rfl) ?_
  refine Wx.blockEnd ?_
  refine Wx.go ?_
  refine Wc.region ?_
  refine Wl.q (v := iv 3) (q_add (c := 3) rfl rfl (by decide)) ?_
  refine Wl.q (v := iv 3) (q_move rfl) ?_
  refine Wl.done ?_
  refine Wx.again ?_
  refine Wn.round ?_
  refine Wc.imp (L' := (pt b2 52 [pv q0, iv 0]) :: (storeW q0 (tl33_9 n)) :: (pt b4 81 [iv 5, Value.pointer (some ⟨b3, 2, none⟩), iv 6, Value.pointer (some ⟨b3, 3, none⟩), iv 7, Value.pointer (some ⟨b3, 4, none⟩), iv 8, Value.pointer (some ⟨b3, 5, none⟩)]) :: (pt b3 33 [iv 5, iv 6, iv 7, iv 8, iv 9, iv 0]) :: (pt b1 33 [iv 0, iv 0, iv 0, iv 0, iv 0, iv 0]) :: F) (fun w hs => (st_drop (st_pull [2] hs))) ?_
  refine Wc.seq ?_
  refine Wc.region ?_
  refine Wl.q (v := Value.bool true) (q_lss (r := true) rfl rfl (decide_eq_true (by decide))) ?_
  refine Wl.done ?_
  refine Wx.go ?_
  refine Wc.seq ?_
  refine Wc.yes rfl ?_
  refine Wc.skip ?_
  refine Wx.go ?_
  refine Wc.seq ?_
  refine Wc.block ?_
  refine Wc.seq ?_
  refine Wc.region ?_
  refine Wl.q (v := Value.pointer (some ⟨b4, 6, none⟩)) (q_idx (m := 6) se_82 rfl rfl (by omega) (by omega) rfl) ?_
  refine Wl.q (v := Value.agg #[iv 8, Value.pointer (some ⟨b3, 5, none⟩)]) (q_loadAgg (vs := [iv 8, Value.pointer (some ⟨b3, 5, none⟩)]) ag_81 rfl (Has.of_pt (i := 2) rfl rfl)) ?_
  refine Wl.e (e_alloc (vs := [iv 0, Value.pointer none]) zo_81 rfl) (fun b8 _ => ?_)
  refine Wl.e (e_storeAgg (i := 0) (vs := [iv 8, Value.pointer (some ⟨b3, 5, none⟩)]) (c' := [iv 8, Value.pointer (some ⟨b3, 5, none⟩)]) sz_81 rfl rfl rfl rfl (by simp) rfl) (fun _ _ => ?_)
  refine Wl.imp (L' := (pt b8 81 [iv 8, Value.pointer (some ⟨b3, 5, none⟩)]) :: (pt b2 52 [pv q0, iv 0]) :: (storeW q0 (tl33_9 n)) :: (pt b4 81 [iv 5, Value.pointer (some ⟨b3, 2, none⟩), iv 6, Value.pointer (some ⟨b3, 3, none⟩), iv 7, Value.pointer (some ⟨b3, 4, none⟩), iv 8, Value.pointer (some ⟨b3, 5, none⟩)]) :: (pt b3 33 [iv 5, iv 6, iv 7, iv 8, iv 9, iv 0]) :: (pt b1 33 [iv 0, iv 0, iv 0, iv 0, iv 0, iv 0]) :: F) (fun _ h => h) ?_
  refine Wl.done ?_
  refine Wx.go ?_
  refine Wc.drawsS [8] ((pt b8 81 [iv 8, Value.pointer (some ⟨b3, 5, none⟩)]) :: (pt b4 81 [iv 5, Value.pointer (some ⟨b3, 2, none⟩), iv 6, Value.pointer (some ⟨b3, 3, none⟩), iv 7, Value.pointer (some ⟨b3, 4, none⟩), iv 8, Value.pointer (some ⟨b3, 5, none⟩)]) :: (pt b3 33 [iv 5, iv 6, iv 7, iv 8, iv 9, iv 0]) :: (pt b1 33 [iv 0, iv 0, iv 0, iv 0, iv 0, iv 0]) :: []) (by kernel_rfl) ?_
  refine Wr.pure (v := Value.pointer (some ⟨b8, 1, none⟩)) 0 rfl (by kernel_rfl) (.inr (fun _ h => st_take [0, 2, 2, 2] h)) (.inl ⟨rfl, fun _ => q_field (m := 1) fo_81_1 rfl rfl⟩) ?_
  refine Wr.take (v := Value.pointer (some ⟨b3, 5, none⟩)) 1 rfl (by kernel_rfl) (fun _ h => st_take [0, 2, 2, 2] h) (.inl ⟨rfl, q_load sc_80 rfl (.cel (i := 0) rfl rfl)⟩) ?_
  refine Wr.pure (v := pv b2) 2 rfl (by kernel_rfl) (.inr (fun _ h => st_take [0, 2, 2, 2] h)) (.inl ⟨rfl, fun _ => q_move rfl⟩) ?_
  refine Wr.pure (v := pv b8) 3 rfl (by kernel_rfl) (.inr (fun _ h => st_take [0, 2, 2, 2] h)) (.inl ⟨rfl, fun _ => q_field (m := 0) fo_81_0 rfl rfl⟩) ?_
  refine Wr.take (v := iv 8) 4 rfl (by kernel_rfl) (fun _ h => st_take [0, 2, 2, 2] h) (.inl ⟨rfl, q_load sc_2 rfl (.cel (i := 0) rfl rfl)⟩) ?_
  refine Wr.pure (v := iv 6) 5 rfl (by kernel_rfl) (.inr (fun _ h => st_take [0, 2, 2, 2] h)) (.inl ⟨rfl, fun _ => q_move rfl⟩) ?_
  refine Wr.imp (L' := (pt b2 52 [pv q0, iv 0]) :: (storeW q0 (tl33_9 n)) :: (pt b8 81 [iv 8, Value.pointer (some ⟨b3, 5, none⟩)]) :: (pt b4 81 [iv 5, Value.pointer (some ⟨b3, 2, none⟩), iv 6, Value.pointer (some ⟨b3, 3, none⟩), iv 7, Value.pointer (some ⟨b3, 4, none⟩), iv 8, Value.pointer (some ⟨b3, 5, none⟩)]) :: (pt b3 33 [iv 5, iv 6, iv 7, iv 8, iv 9, iv 0]) :: (pt b1 33 [iv 0, iv 0, iv 0, iv 0, iv 0, iv 0]) :: F) (fun _ h => st_pull [1, 1] h) ?_
  refine Wr.e 6 (by kernel_rfl) rfl (e_call (F := (pt b8 81 [iv 8, Value.pointer (some ⟨b3, 5, none⟩)]) :: (pt b4 81 [iv 5, Value.pointer (some ⟨b3, 2, none⟩), iv 6, Value.pointer (some ⟨b3, 3, none⟩), iv 7, Value.pointer (some ⟨b3, 4, none⟩), iv 8, Value.pointer (some ⟨b3, 5, none⟩)]) :: (pt b3 33 [iv 5, iv 6, iv 7, iv 8, iv 9, iv 0]) :: (pt b1 33 [iv 0, iv 0, iv 0, iv 0, iv 0, iv 0]) :: F) (args := [pv b2, iv 8, iv 6, iv 0]) Tryd.call16 rfl (ap25_kdf W0 n hn b2 q0)) (.inr fun _ _ _ h => st_take [2, 2, 2, 2] h) (fun _ _ => ?_)
  refine Wr.imp (L' := (pt b2 52 [pv q0, iv 0]) :: (storeW q0 (tl34_10 n)) :: (pt b8 81 [iv 8, Value.pointer (some ⟨b3, 5, none⟩)]) :: (pt b4 81 [iv 5, Value.pointer (some ⟨b3, 2, none⟩), iv 6, Value.pointer (some ⟨b3, 3, none⟩), iv 7, Value.pointer (some ⟨b3, 4, none⟩), iv 8, Value.pointer (some ⟨b3, 5, none⟩)]) :: (pt b3 33 [iv 5, iv 6, iv 7, iv 8, iv 9, iv 0]) :: (pt b1 33 [iv 0, iv 0, iv 0, iv 0, iv 0, iv 0]) :: F) (fun _ h => h) ?_
  refine Wr.pure (v := Value.pointer (some ⟨b3, 5, none⟩)) 7 rfl (by kernel_rfl) (.inr (fun _ h => st_take [2, 2, 2, 2] h)) (.inl ⟨rfl, fun _ => q_nil_ptr rfl⟩) ?_
  refine Wr.e 8 (by kernel_rfl) rfl (e_store (i := 4) (v := iv 10) sz_3 rfl rfl (fun _ _ => rfl) rfl (by simp)) (.inl (by kernel_rfl)) (fun _ _ => ?_)
  refine Wr.imp (L' := (pt b2 52 [pv q0, iv 0]) :: (storeW q0 (tl34_10 n)) :: (pt b8 81 [iv 8, Value.pointer (some ⟨b3, 5, none⟩)]) :: (pt b4 81 [iv 5, Value.pointer (some ⟨b3, 2, none⟩), iv 6, Value.pointer (some ⟨b3, 3, none⟩), iv 7, Value.pointer (some ⟨b3, 4, none⟩), iv 8, Value.pointer (some ⟨b3, 5, none⟩)]) :: (pt b3 33 [iv 5, iv 6, iv 7, iv 8, iv 9, iv 10]) :: (pt b1 33 [iv 0, iv 0, iv 0, iv 0, iv 0, iv 0]) :: F) (fun _ h => h) ?_
  refine Wr.rebaseS [] ((pt b2 52 [pv q0, iv 0]) :: (storeW q0 (tl34_10 n)) :: (pt b8 81 [iv 8, Value.pointer (some ⟨b3, 5, none⟩)]) :: (pt b4 81 [iv 5, Value.pointer (some ⟨b3, 2, none⟩), iv 6, Value.pointer (some ⟨b3, 3, none⟩), iv 7, Value.pointer (some ⟨b3, 4, none⟩), iv 8, Value.pointer (some ⟨b3, 5, none⟩)]) :: (pt b3 33 [iv 5, iv 6, iv 7, iv 8, iv 9, iv 10]) :: (pt b1 33 [iv 0, iv 0, iv 0, iv 0, iv 0, iv 0]) :: []) (by kernel_rfl) ?_
  refine Wr.done (by kernel_rfl) ?_
  refine Wx.blockEnd ?_
  refine Wx.go ?_
  refine Wc.region ?_
  refine Wl.q (v := iv 4) (q_add (c := 4) rfl rfl (by decide)) ?_
  refine Wl.q (v := iv 4) (q_move rfl) ?_
  refine Wl.done ?_
  refine Wx.again ?_
  refine Wn.round ?_
  refine Wc.imp (L' := (pt b2 52 [pv q0, iv 0]) :: (storeW q0 (tl34_10 n)) :: (pt b4 81 [iv 5, Value.pointer (some ⟨b3, 2, none⟩), iv 6, Value.pointer (some ⟨b3, 3, none⟩), iv 7, Value.pointer (some ⟨b3, 4, none⟩), iv 8, Value.pointer (some ⟨b3, 5, none⟩)]) :: (pt b3 33 [iv 5, iv 6, iv 7, iv 8, iv 9, iv 10]) :: (pt b1 33 [iv 0, iv 0, iv 0, iv 0, iv 0, iv 0]) :: F) (fun w hs => (st_drop (st_pull [2] hs))) ?_
  refine Wc.seq ?_
  refine Wc.region ?_
  refine Wl.q (v := Value.bool false) (q_lss (r := false) rfl rfl (decide_eq_false (by decide))) ?_
  refine Wl.done ?_
  refine Wx.go ?_
  refine Wc.seq ?_
  refine Wc.no rfl ?_
  refine Wc.exit ?_
  refine Wx.thenExit ?_
  refine Wx.thenExit ?_
  refine Wx.out ?_
  refine Wx.go ?_
  refine Wc.seq ?_
  refine Wc.seq ?_
  refine Wc.region ?_
  refine Wl.q (v := pv b2) (q_move rfl) ?_
  refine Wl.q (v := pv b2) (q_nil_ptr rfl) ?_
  refine Wl.q (v := Value.pointer (some ⟨b2, 1, none⟩)) (q_field (m := 1) fo_52_1 rfl rfl) ?_
  refine Wl.q (v := iv 0) (q_load sc_34 rfl (.cel (i := 0) rfl rfl)) ?_
  refine Wl.q (v := Value.bool false) (q_neq (r := true) rfl rfl (decide_eq_true (by decide))) ?_
  refine Wl.done ?_
  refine Wx.go ?_
  refine Wc.no rfl ?_
  refine Wc.skip ?_
  refine Wx.go ?_
  refine Wc.seq ?_
  refine Wc.imp (L' := (storeW q0 (tl34_10 n)) :: (pt b3 33 [iv 5, iv 6, iv 7, iv 8, iv 9, iv 10]) :: (pt b1 33 [iv 0, iv 0, iv 0, iv 0, iv 0, iv 0]) :: F) (fun w hs => (st_drop (st_drop (st_pull [0, 1] hs)))) ?_
  refine Wc.region ?_
  refine Wl.q (v := Value.agg #[iv 5, iv 6, iv 7, iv 8, iv 9, iv 10]) (q_loadAgg (vs := [iv 5, iv 6, iv 7, iv 8, iv 9, iv 10]) ag_33 rfl (Has.of_pt (i := 1) rfl rfl)) ?_
  refine Wl.e (e_storeAgg (i := 2) (vs := [iv 5, iv 6, iv 7, iv 8, iv 9, iv 10]) (c' := [iv 5, iv 6, iv 7, iv 8, iv 9, iv 10]) sz_33 rfl rfl rfl rfl (by simp) rfl) (fun _ _ => ?_)
  refine Wl.imp (L' := (storeW q0 (tl34_10 n)) :: (pt b3 33 [iv 5, iv 6, iv 7, iv 8, iv 9, iv 10]) :: (pt b1 33 [iv 5, iv 6, iv 7, iv 8, iv 9, iv 10]) :: F) (fun _ h => h) ?_
  refine Wl.q (v := iv 0) (q_assign rfl) ?_
  refine Wl.done ?_
  refine Wx.go ?_
  refine Wc.ret ?_
  refine Wx.finA2 (vs := [iv 5, iv 6, iv 7, iv 8, iv 9, iv 10]) rfl (.inl rfl) ag_33 rfl (Has.of_pt (i := 2) rfl rfl) (fun w hs => ?_)
  have hs : st W0 w ((storeW q0 (tl34_10 n)) :: F) := (st_drop (st_drop (st_pull [1, 1] hs)))
  exact ⟨(), trivial, rfl, hs⟩

set_option maxRecDepth 8000 in
set_option maxHeartbeats 4000000 in
theorem ap3_Next (W0 : World) (n : Int) (hn : 0 ≤ n ∧ n ≤ 1152921504606846976) (q0 : Nat)  :
    Con Tryd.prog W0 6 #[pv q0, iv 1, iv 2, iv 3] [storeW q0 (tl27_3 n)] (X := Unit) (fun _ => True) (fun _ => Value.tuple #[Value.agg #[iv 5, iv 6, iv 7, iv 8, iv 9, iv 10], iv 0]) (fun _ => [storeW q0 (tl34_10 n)]) := by
  refine Con.of (args := [pv q0, iv 1, iv 2, iv 3]) Tryd.func6 rfl Tryd.ntmps6 rfl (fun F => ?_)
  show Wc _ W0 _ _ _ _ _ ((storeW q0 (tl27_3 n)) :: F)
  refine Wc.seq ?_
  refine Wc.region ?_
  refine Wl.e (e_alloc (vs := [iv 0, iv 0, iv 0, iv 0, iv 0, iv 0]) zo_33 rfl) (fun b1 _ => ?_)
  refine Wl.q (v := iv 0) (q_assign rfl) ?_
  refine Wl.done ?_
  refine Wx.go ?_
  refine Wc.seq ?_
  refine Wc.seq ?_
  refine Wc.region ?_
  refine Wl.q (v := pv q0) (q_move rfl) ?_
  refine Wl.imp (L' := (storeW q0 (tl27_3 n)) :: (pt b1 33 [iv 0, iv 0, iv 0, iv 0, iv 0, iv 0]) :: F) (fun _ h => st_pull [1] h) ?_
  refine Wl.e (e_call (F := (pt b1 33 [iv 0, iv 0, iv 0, iv 0, iv 0, iv 0]) :: F) (args := [pv q0]) Tryd.call14 rfl (ap4_alive W0 n hn q0)) (fun _ _ => ?_)
  refine Wl.imp (L' := (storeW q0 (tl27_3 n)) :: (pt b1 33 [iv 0, iv 0, iv 0, iv 0, iv 0, iv 0]) :: F) (fun _ h => h) ?_
  refine Wl.q (v := Value.bool false) (q_not rfl rfl) ?_
  refine Wl.done ?_
  refine Wx.go ?_
  refine Wc.no rfl ?_
  refine Wc.skip ?_
  refine Wx.go ?_
  refine Wc.seq ?_
  refine Wc.seq ?_
  refine Wc.region ?_
  refine Wl.q (v := pv q0) (q_move rfl) ?_
  refine Wl.q (v := iv 1) (q_move rfl) ?_
  refine Wl.e (e_call (F := (pt b1 33 [iv 0, iv 0, iv 0, iv 0, iv 0, iv 0]) :: F) (args := [pv q0, iv 1]) Tryd.call15 rfl (ap6_there W0 n hn q0)) (fun _ _ => ?_)
  refine Wl.imp (L' := (storeW q0 (tl27_3 n)) :: (pt b1 33 [iv 0, iv 0, iv 0, iv 0, iv 0, iv 0]) :: F) (fun _ h => h) ?_
  refine Wl.q (v := Value.bool false) (q_not rfl rfl) ?_
  refine Wl.q (v := Value.bool false) (q_move rfl) ?_
  refine Wl.q (v := pv q0) (q_move rfl) ?_
  refine Wl.q (v := iv 2) (q_move rfl) ?_
  refine Wl.e (e_call (F := (pt b1 33 [iv 0, iv 0, iv 0, iv 0, iv 0, iv 0]) :: F) (args := [pv q0, iv 2]) Tryd.call15 rfl (ap7_there W0 n hn q0)) (fun _ _ => ?_)
  refine Wl.imp (L' := (storeW q0 (tl27_3 n)) :: (pt b1 33 [iv 0, iv 0, iv 0, iv 0, iv 0, iv 0]) :: F) (fun _ h => h) ?_
  refine Wl.q (v := Value.bool false) (q_not rfl rfl) ?_
  refine Wl.q (v := Value.bool false) (q_pick (t := false) rfl rfl) ?_
  refine Wl.q (v := Value.bool false) (q_move rfl) ?_
  refine Wl.q (v := pv q0) (q_move rfl) ?_
  refine Wl.q (v := iv 3) (q_move rfl) ?_
  refine Wl.e (e_call (F := (pt b1 33 [iv 0, iv 0, iv 0, iv 0, iv 0, iv 0]) :: F) (args := [pv q0, iv 3]) Tryd.call15 rfl (ap8_there W0 n hn q0)) (fun _ _ => ?_)
  refine Wl.imp (L' := (storeW q0 (tl27_3 n)) :: (pt b1 33 [iv 0, iv 0, iv 0, iv 0, iv 0, iv 0]) :: F) (fun _ h => h) ?_
  refine Wl.q (v := Value.bool false) (q_not rfl rfl) ?_
  refine Wl.q (v := Value.bool false) (q_pick (t := false) rfl rfl) ?_
  refine Wl.done ?_
  refine Wx.go ?_
  refine Wc.no rfl ?_
  refine Wc.skip ?_
  refine Wx.go ?_
  refine Wc.seq ?_
  refine Wc.region ?_
  refine Wl.q (v := pv q0) (q_move rfl) ?_
  refine Wl.q (v := Value.agg #[pv q0, iv 0]) (q_build (pl := [(0, 1), (1, 1)]) Tryd.underlying52 zo_52 (by kernel_rfl) (by kernel_rfl)) ?_
  refine Wl.e (e_box (x := .tmp 34) (vs := [pv q0, iv 0]) rfl) (fun b2 _ => ?_)
  refine Wl.q (v := pv b2) (q_assign rfl) ?_
  refine Wl.done ?_
  refine Wx.go ?_
  refine Wc.seq ?_
  refine Wc.region ?_
  refine Wl.q (v := pv b2) (q_move rfl) ?_
  refine Wl.q (v := pv b2) (q_move rfl) ?_
  refine Wl.q (v := iv 1) (q_move rfl) ?_
  refine Wl.q (v := iv 2) (q_move rfl) ?_
  refine Wl.q (v := Value.agg #[Value.int .u8 3, iv 0, iv 1, iv 2]) (q_build (pl := [(0, 1), (1, 1), (2, 1), (3, 1)]) Tryd.underlying29 zo_29 (by kernel_rfl) (by kernel_rfl)) ?_
  refine Wl.e (e_call (F := (pt b1 33 [iv 0, iv 0, iv 0, iv 0, iv 0, iv 0]) :: F) (args := [pv b2, Value.agg #[Value.int .u8 3, iv 0, iv 1, iv 2]]) Tryd.call17 rfl (ap9_make W0 n hn b2 q0)) (fun _ _ => ?_)
  refine Wl.imp (L' := (pt b2 52 [pv q0, iv 0]) :: (storeW q0 (tl28_4 n)) :: (pt b1 33 [iv 0, iv 0, iv 0, iv 0, iv 0, iv 0]) :: F) (fun _ h => h) ?_
  refine Wl.e (e_call (F := (pt b1 33 [iv 0, iv 0, iv 0, iv 0, iv 0, iv 0]) :: F) (args := [pv b2, iv 3, iv 4, iv 0]) Tryd.call16 rfl (ap10_kdf W0 n hn b2 q0)) (fun _ _ => ?_)
  refine Wl.imp (L' := (pt b2 52 [pv q0, iv 0]) :: (storeW q0 (tl29_5 n)) :: (pt b1 33 [iv 0, iv 0, iv 0, iv 0, iv 0, iv 0]) :: F) (fun _ h => h) ?_
  refine Wl.q (v := iv 5) (q_assign rfl) ?_
  refine Wl.done ?_
  refine Wx.go ?_
  refine Wc.seq ?_
  refine Wc.seq ?_
  refine Wc.region ?_
  refine Wl.q (v := pv b2) (q_move rfl) ?_
  refine Wl.q (v := pv b2) (q_nil_ptr rfl) ?_
  refine Wl.q (v := Value.pointer (some ⟨b2, 1, none⟩)) (q_field (m := 1) fo_52_1 rfl rfl) ?_
  refine Wl.q (v := iv 0) (q_load sc_34 rfl (.cel (i := 0) rfl rfl)) ?_
  refine Wl.q (v := Value.bool false) (q_neq (r := true) rfl rfl (decide_eq_true (by decide))) ?_
  refine Wl.done ?_
  refine Wx.go ?_
  refine Wc.no rfl ?_
  refine Wc.skip ?_
  refine Wx.go ?_
  refine Wc.seq ?_
  refine Wc.region ?_
  refine Wl.q (v := pv q0) (q_move rfl) ?_
  refine Wl.q (v := iv 5) (q_move rfl) ?_
  refine Wl.q (v := iv 3) (q_move rfl) ?_
  refine Wl.imp (L' := (storeW q0 (tl29_5 n)) :: (pt b2 52 [pv q0, iv 0]) :: (pt b1 33 [iv 0, iv 0, iv 0, iv 0, iv 0, iv 0]) :: F) (fun _ h => st_pull [1] h) ?_
  refine Wl.e (e_call (F := (pt b2 52 [pv q0, iv 0]) :: (pt b1 33 [iv 0, iv 0, iv 0, iv 0, iv 0, iv 0]) :: F) (args := [pv q0, iv 5, iv 3]) Tryd.call18 rfl (ap12_From W0 n hn q0)) (fun _ _ => ?_)
  refine Wl.imp (L' := (storeW q0 (tl34_10 n)) :: (pt b2 52 [pv q0, iv 0]) :: (pt b1 33 [iv 0, iv 0, iv 0, iv 0, iv 0, iv 0]) :: F) (fun _ h => h) ?_
  refine Wl.q (v := Value.agg #[iv 5, iv 6, iv 7, iv 8, iv 9, iv 10]) (q_extract (i := 0) rfl rfl) ?_
  refine Wl.q (v := iv 0) (q_extract (i := 1) rfl rfl) ?_
  refine Wl.e (e_storeAgg (i := 2) (vs := [iv 5, iv 6, iv 7, iv 8, iv 9, iv 10]) (c' := [iv 5, iv 6, iv 7, iv 8, iv 9, iv 10]) sz_33 rfl rfl rfl rfl (by simp) rfl) (fun _ _ => ?_)
  refine Wl.imp (L' := (storeW q0 (tl34_10 n)) :: (pt b2 52 [pv q0, iv 0]) :: (pt b1 33 [iv 5, iv 6, iv 7, iv 8, iv 9, iv 10]) :: F) (fun _ h => h) ?_
  refine Wl.q (v := iv 0) (q_assign rfl) ?_
  refine Wl.done ?_
  refine Wx.go ?_
  refine Wc.ret ?_
  refine Wx.finA2 (vs := [iv 5, iv 6, iv 7, iv 8, iv 9, iv 10]) rfl (.inl rfl) ag_33 rfl (Has.of_pt (i := 2) rfl rfl) (fun w hs => ?_)
  have hs : st W0 w ((storeW q0 (tl34_10 n)) :: F) := (st_drop (st_drop (st_pull [1, 1] hs)))
  exact ⟨(), trivial, rfl, hs⟩

set_option maxRecDepth 8000 in
set_option maxHeartbeats 4000000 in
theorem ap1_SchedApart (W0 : World) (n : Int) (hn : 0 ≤ n ∧ n ≤ 1152921504606846976)  :
    Con Tryd.prog W0 4 #[iv n, iv 0] [] (X := Unit) (fun _ => True) (fun _ => Value.bool true) (fun _ => []) := by
  refine Con.of (args := [iv n, iv 0]) Tryd.func4 rfl Tryd.ntmps4 rfl (fun F => ?_)
  show Wc _ W0 _ _ _ _ _ (F)
  refine Wc.seq ?_
  refine Wc.region ?_
  refine Wl.q (v := Value.bool false) (q_assign rfl) ?_
  refine Wl.done ?_
  refine Wx.go ?_
  refine Wc.seq ?_
  refine Wc.seq ?_
  refine Wc.region ?_
  refine Wl.q (v := iv n) (q_move rfl) ?_
  refine Wl.q (v := Value.bool false) (q_lss (r := false) rfl rfl (decide_eq_false (by omega))) ?_
  refine Wl.q (v := Value.bool false) (q_move rfl) ?_
  refine Wl.q (v := iv n) (q_move rfl) ?_
  refine Wl.q (v := Value.bool false) (q_gtr (r := false) rfl rfl (decide_eq_false (by omega))) ?_
  refine Wl.q (v := Value.bool false) (q_pick (t := false) rfl rfl) ?_
  refine Wl.q (v := Value.bool false) (q_move rfl) ?_
  refine Wl.q (v := iv 0) (q_move rfl) ?_
  refine Wl.q (v := Value.bool false) (q_lss (r := false) rfl rfl (decide_eq_false (by decide))) ?_
  refine Wl.q (v := Value.bool false) (q_pick (t := false) rfl rfl) ?_
  refine Wl.q (v := Value.bool false) (q_move rfl) ?_
  refine Wl.q (v := iv 0) (q_move rfl) ?_
  refine Wl.q (v := Value.bool false) (q_gtr (r := false) rfl rfl (decide_eq_false (by decide))) ?_
  refine Wl.q (v := Value.bool false) (q_pick (t := false) rfl rfl) ?_
  refine Wl.done ?_
  refine Wx.go ?_
  refine Wc.no rfl ?_
  refine Wc.skip ?_
  refine Wx.go ?_
  refine Wc.seq ?_
  refine Wc.region ?_
  refine Wl.q (v := iv n) (q_move rfl) ?_
  refine Wl.q (v := Value.agg #[Value.int .u8 1, iv n, iv 0, iv 0]) (q_build (pl := [(0, 1), (1, 1), (2, 1), (3, 1)]) Tryd.underlying29 zo_29 (by kernel_rfl) (by kernel_rfl)) ?_
  refine Wl.q (v := iv n) (q_move rfl) ?_
  refine Wl.q (v := iv (n + 1)) (q_add (c := (n + 1)) rfl rfl (wrap_i64 (by omega) (by omega))) ?_
  refine Wl.q (v := Value.agg #[Value.int .u8 1, iv (n + 1), iv 0, iv 0]) (q_build (pl := [(0, 1), (1, 1), (2, 1), (3, 1)]) Tryd.underlying29 zo_29 (by kernel_rfl) (by kernel_rfl)) ?_
  refine Wl.q (v := iv n) (q_move rfl) ?_
  refine Wl.q (v := iv (n + 2)) (q_add (c := (n + 2)) rfl rfl (wrap_i64 (by omega) (by omega))) ?_
  refine Wl.q (v := Value.agg #[Value.int .u8 1, iv (n + 2), iv 0, iv 0]) (q_build (pl := [(0, 1), (1, 1), (2, 1), (3, 1)]) Tryd.underlying29 zo_29 (by kernel_rfl) (by kernel_rfl)) ?_
  refine Wl.e (e_buildSlice (cs := [Value.int .u8 1, iv n, iv 0, iv 0, Value.int .u8 1, iv (n + 1), iv 0, iv 0, Value.int .u8 1, iv (n + 2), iv 0, iv 0]) se_30 zo_29 (by decide) (by decide) (by kernel_rfl)) (fun b1 _ => ?_)
  refine Wl.e (e_call (F := F) (args := [Value.slice (some ⟨b1, 0, none⟩) 3 3]) Tryd.call5 rfl (ap2_Build W0 n hn b1)) (fun ⟨b2, b3⟩ _ => ?_)
  refine Wl.imp (L' := (pt b1 29 [Value.int .u8 1, iv n, iv 0, iv 0, Value.int .u8 1, iv (n + 1), iv 0, iv 0, Value.int .u8 1, iv (n + 2), iv 0, iv 0]) :: (storeW b2 (tl27_3 n)) :: (refW b3 (tl27_3 n)) :: F) (fun _ h => h) ?_
  refine Wl.q (v := Value.tuple #[pv b2, pv b3, Value.bool true]) (q_move rfl) ?_
  refine Wl.q (v := pv b2) (q_extract (i := 0) rfl rfl) ?_
  refine Wl.q (v := pv b3) (q_extract (i := 1) rfl rfl) ?_
  refine Wl.q (v := Value.bool true) (q_extract (i := 2) rfl rfl) ?_
  refine Wl.q (v := pv b2) (q_assign rfl) ?_
  refine Wl.q (v := pv b3) (q_assign rfl) ?_
  refine Wl.q (v := Value.bool true) (q_assign rfl) ?_
  refine Wl.done ?_
  refine Wx.go ?_
  refine Wc.seq ?_
  refine Wc.imp (L' := (storeW b2 (tl27_3 n)) :: F) (fun w hs => (st_drop (st_drop (st_pull [0, 1] hs)))) ?_
  refine Wc.region ?_
  refine Wl.q (v := pv b2) (q_move rfl) ?_
  refine Wl.e (e_call (F := F) (args := [pv b2, iv 1, iv 2, iv 3]) Tryd.call6 rfl (ap3_Next W0 n hn b2)) (fun _ _ => ?_)
  refine Wl.imp (L' := (storeW b2 (tl34_10 n)) :: F) (fun _ h => h) ?_
  refine Wl.q (v := Value.tuple #[Value.agg #[iv 5, iv 6, iv 7, iv 8, iv 9, iv 10], iv 0]) (q_move rfl) ?_
  refine Wl.q (v := Value.agg #[iv 5, iv 6, iv 7, iv 8, iv 9, iv 10]) (q_extract (i := 0) rfl rfl) ?_
  refine Wl.q (v := iv 0) (q_extract (i := 1) rfl rfl) ?_
  refine Wl.e (e_alloc (vs := [iv 0, iv 0, iv 0, iv 0, iv 0, iv 0]) zo_33 rfl) (fun b4 _ => ?_)
  refine Wl.e (e_storeAgg (i := 0) (vs := [iv 5, iv 6, iv 7, iv 8, iv 9, iv 10]) (c' := [iv 5, iv 6, iv 7, iv 8, iv 9, iv 10]) sz_33 rfl rfl rfl rfl (by simp) rfl) (fun _ _ => ?_)
  refine Wl.imp (L' := (pt b4 33 [iv 5, iv 6, iv 7, iv 8, iv 9, iv 10]) :: (storeW b2 (tl34_10 n)) :: F) (fun _ h => h) ?_
  refine Wl.q (v := iv 0) (q_assign rfl) ?_
  refine Wl.done ?_
  refine Wx.go ?_
  refine Wc.seq ?_
  refine Wc.seq ?_
  refine Wc.region ?_
  refine Wl.q (v := Value.bool true) (q_move rfl) ?_
  refine Wl.q (v := Value.bool false) (q_not rfl rfl) ?_
  refine Wl.q (v := Value.bool false) (q_move rfl) ?_
  refine Wl.q (v := iv 0) (q_move rfl) ?_
  refine Wl.q (v := Value.bool false) (q_neq (r := true) rfl rfl (decide_eq_true (by decide))) ?_
  refine Wl.q (v := Value.bool false) (q_pick (t := false) rfl rfl) ?_
  refine Wl.done ?_
  refine Wx.go ?_
  refine Wc.no rfl ?_
  refine Wc.skip ?_
  refine Wx.go ?_
  refine Wc.seq ?_
  refine Wc.region ?_
  refine Wl.q (v := Value.pointer (some ⟨b4, 2, none⟩)) (q_field (m := 2) fo_33_2 rfl rfl) ?_
  refine Wl.q (v := iv 7) (q_load sc_3 rfl (.cel (i := 0) rfl rfl)) ?_
  refine Wl.q (v := Value.pointer (some ⟨b4, 3, none⟩)) (q_field (m := 3) fo_33_3 rfl rfl) ?_
  refine Wl.q (v := iv 8) (q_load sc_3 rfl (.cel (i := 0) rfl rfl)) ?_
  refine Wl.q (v := Value.pointer (some ⟨b4, 4, none⟩)) (q_field (m := 4) fo_33_4 rfl rfl) ?_
  refine Wl.q (v := iv 9) (q_load sc_3 rfl (.cel (i := 0) rfl rfl)) ?_
  refine Wl.q (v := Value.pointer (some ⟨b4, 5, none⟩)) (q_field (m := 5) fo_33_5 rfl rfl) ?_
  refine Wl.q (v := iv 10) (q_load sc_3 rfl (.cel (i := 0) rfl rfl)) ?_
  refine Wl.e (e_buildSlice (cs := [iv 7, iv 8, iv 9, iv 10]) se_31 zo_3 (by decide) (by decide) (by kernel_rfl)) (fun b5 _ => ?_)
  refine Wl.q (v := Value.slice (some ⟨b5, 0, none⟩) 4 4) (q_assign rfl) ?_
  refine Wl.done ?_
  refine Wx.go ?_
  refine Wc.seq ?_
  refine Wc.region ?_
  refine Wl.q (v := pv b2) (q_move rfl) ?_
  refine Wl.q (v := Value.slice (some ⟨b5, 0, none⟩) 4 4) (q_move rfl) ?_
  refine Wl.q (v := iv 0) (q_move rfl) ?_
  refine Wl.q (v := pv b5) (q_idx (m := 0) se_31 rfl rfl (by omega) (by omega) rfl) ?_
  refine Wl.q (v := iv 7) (q_load sc_3 rfl (.cel (i := 0) rfl rfl)) ?_
  refine Wl.e (e_buildSlice (cs := [iv 7, iv 3]) se_31 zo_3 (by decide) (by decide) (by kernel_rfl)) (fun b6 _ => ?_)
  refine Wl.imp (L' := (storeW b2 (tl34_10 n)) :: (pt b6 3 [iv 7, iv 3]) :: (pt b5 3 [iv 7, iv 8, iv 9, iv 10]) :: (pt b4 33 [iv 5, iv 6, iv 7, iv 8, iv 9, iv 10]) :: F) (fun _ h => st_pull [3, 0] h) ?_
  refine Wl.e (e_call (F := (pt b5 3 [iv 7, iv 8, iv 9, iv 10]) :: (pt b4 33 [iv 5, iv 6, iv 7, iv 8, iv 9, iv 10]) :: F) (args := [pv b2, Value.slice (some ⟨b6, 0, none⟩) 2 2]) Tryd.call8 rfl (dnew_w W0 b2 (tl34_10 n) b6 2 [7, 3] 2 [iv 7, iv 3] rfl rfl (by kernel_rfl))) (fun k7 _ => ?_)
  refine Wl.imp (L' := (knowK k7 b2 (tl34_10 n) (KL [7, 3])) :: (storeW b2 (tl34_10 n)) :: (pt b6 3 [iv 7, iv 3]) :: (pt b5 3 [iv 7, iv 8, iv 9, iv 10]) :: (pt b4 33 [iv 5, iv 6, iv 7, iv 8, iv 9, iv 10]) :: F) (fun _ h => h) ?_
  refine Wl.q (v := Value.tuple #[pv k7, iv 0]) (q_move rfl) ?_
  refine Wl.q (v := pv k7) (q_extract (i := 0) rfl rfl) ?_
  refine Wl.q (v := iv 0) (q_extract (i := 1) rfl rfl) ?_
  refine Wl.q (v := pv k7) (q_assign rfl) ?_
  refine Wl.q (v := iv 0) (q_assign rfl) ?_
  refine Wl.done ?_
  refine Wx.go ?_
  refine Wc.seq ?_
  refine Wc.region ?_
  refine Wl.q (v := pv b2) (q_move rfl) ?_
  refine Wl.q (v := Value.pointer (some ⟨b4, 1, none⟩)) (q_field (m := 1) fo_33_1 rfl rfl) ?_
  refine Wl.q (v := iv 6) (q_load sc_3 rfl (.cel (i := 4) rfl rfl)) ?_
  refine Wl.e (e_buildSlice (cs := [iv 6, iv 3]) se_31 zo_3 (by decide) (by decide) (by kernel_rfl)) (fun b8 _ => ?_)
  refine Wl.imp (L' := (storeW b2 (tl34_10 n)) :: (pt b8 3 [iv 6, iv 3]) :: (knowK k7 b2 (tl34_10 n) (KL [7, 3])) :: (pt b6 3 [iv 7, iv 3]) :: (pt b5 3 [iv 7, iv 8, iv 9, iv 10]) :: (pt b4 33 [iv 5, iv 6, iv 7, iv 8, iv 9, iv 10]) :: F) (fun _ h => st_pull [2, 0] h) ?_
  refine Wl.e (e_call (F := (knowK k7 b2 (tl34_10 n) (KL [7, 3])) :: (pt b6 3 [iv 7, iv 3]) :: (pt b5 3 [iv 7, iv 8, iv 9, iv 10]) :: (pt b4 33 [iv 5, iv 6, iv 7, iv 8, iv 9, iv 10]) :: F) (args := [pv b2, Value.slice (some ⟨b8, 0, none⟩) 2 2]) Tryd.call8 rfl (dnew_w W0 b2 (tl34_10 n) b8 2 [6, 3] 2 [iv 6, iv 3] rfl rfl (by kernel_rfl))) (fun k9 _ => ?_)
  refine Wl.imp (L' := (knowK k9 b2 (tl34_10 n) (KL [6, 3])) :: (storeW b2 (tl34_10 n)) :: (pt b8 3 [iv 6, iv 3]) :: (knowK k7 b2 (tl34_10 n) (KL [7, 3])) :: (pt b6 3 [iv 7, iv 3]) :: (pt b5 3 [iv 7, iv 8, iv 9, iv 10]) :: (pt b4 33 [iv 5, iv 6, iv 7, iv 8, iv 9, iv 10]) :: F) (fun _ h => h) ?_
  refine Wl.q (v := Value.tuple #[pv k9, iv 0]) (q_move rfl) ?_
  refine Wl.q (v := pv k9) (q_extract (i := 0) rfl rfl) ?_
  refine Wl.q (v := iv 0) (q_extract (i := 1) rfl rfl) ?_
  refine Wl.q (v := pv k9) (q_assign rfl) ?_
  refine Wl.q (v := iv 0) (q_assign rfl) ?_
  refine Wl.done ?_
  refine Wx.go ?_
  refine Wc.seq ?_
  refine Wc.imp (L' := (knowK k9 b2 (tl34_10 n) (KL [6, 3])) :: (storeW b2 (tl34_10 n)) :: (knowK k7 b2 (tl34_10 n) (KL [7, 3])) :: (pt b5 3 [iv 7, iv 8, iv 9, iv 10]) :: (pt b4 33 [iv 5, iv 6, iv 7, iv 8, iv 9, iv 10]) :: F) (fun w hs => (st_drop (st_drop (st_pull [2, 3] hs)))) ?_
  refine Wc.region ?_
  refine Wl.q (v := pv b2) (q_move rfl) ?_
  refine Wl.e (e_buildSlice (cs := [iv 1, iv 3]) se_31 zo_3 (by decide) (by decide) (by kernel_rfl)) (fun b10 _ => ?_)
  refine Wl.imp (L' := (storeW b2 (tl34_10 n)) :: (pt b10 3 [iv 1, iv 3]) :: (knowK k9 b2 (tl34_10 n) (KL [6, 3])) :: (knowK k7 b2 (tl34_10 n) (KL [7, 3])) :: (pt b5 3 [iv 7, iv 8, iv 9, iv 10]) :: (pt b4 33 [iv 5, iv 6, iv 7, iv 8, iv 9, iv 10]) :: F) (fun _ h => st_pull [2, 0] h) ?_
  refine Wl.e (e_call (F := (knowK k9 b2 (tl34_10 n) (KL [6, 3])) :: (knowK k7 b2 (tl34_10 n) (KL [7, 3])) :: (pt b5 3 [iv 7, iv 8, iv 9, iv 10]) :: (pt b4 33 [iv 5, iv 6, iv 7, iv 8, iv 9, iv 10]) :: F) (args := [pv b2, Value.slice (some ⟨b10, 0, none⟩) 2 2]) Tryd.call8 rfl (dnew_w W0 b2 (tl34_10 n) b10 2 [1, 3] 2 [iv 1, iv 3] rfl rfl (by kernel_rfl))) (fun k11 _ => ?_)
  refine Wl.imp (L' := (knowK k11 b2 (tl34_10 n) (KL [1, 3])) :: (storeW b2 (tl34_10 n)) :: (pt b10 3 [iv 1, iv 3]) :: (knowK k9 b2 (tl34_10 n) (KL [6, 3])) :: (knowK k7 b2 (tl34_10 n) (KL [7, 3])) :: (pt b5 3 [iv 7, iv 8, iv 9, iv 10]) :: (pt b4 33 [iv 5, iv 6, iv 7, iv 8, iv 9, iv 10]) :: F) (fun _ h => h) ?_
  refine Wl.q (v := Value.tuple #[pv k11, iv 0]) (q_move rfl) ?_
  refine Wl.q (v := pv k11) (q_extract (i := 0) rfl rfl) ?_
  refine Wl.q (v := iv 0) (q_extract (i := 1) rfl rfl) ?_
  refine Wl.q (v := pv k11) (q_assign rfl) ?_
  refine Wl.q (v := iv 0) (q_assign rfl) ?_
  refine Wl.done ?_
  refine Wx.go ?_
  refine Wc.seq ?_
  refine Wc.seq ?_
  refine Wc.region ?_
  refine Wl.q (v := iv 0) (q_move rfl) ?_
  refine Wl.q (v := Value.bool false) (q_neq (r := true) rfl rfl (decide_eq_true (by decide))) ?_
  refine Wl.q (v := Value.bool false) (q_move rfl) ?_
  refine Wl.q (v := iv 0) (q_move rfl) ?_
  refine Wl.q (v := Value.bool false) (q_neq (r := true) rfl rfl (decide_eq_true (by decide))) ?_
  refine Wl.q (v := Value.bool false) (q_pick (t := false) rfl rfl) ?_
  refine Wl.q (v := Value.bool false) (q_move rfl) ?_
  refine Wl.q (v := iv 0) (q_move rfl) ?_
  refine Wl.q (v := Value.bool false) (q_neq (r := true) rfl rfl (decide_eq_true (by decide))) ?_
  refine Wl.q (v := Value.bool false) (q_pick (t := false) rfl rfl) ?_
  refine Wl.q (v := Value.bool false) (q_move rfl) ?_
  refine Wl.q (v := pv k7) (q_move rfl) ?_
  refine Wl.q (v := Value.pointer (some ⟨b4, 1, none⟩)) (q_field (m := 1) fo_33_1 rfl rfl) ?_
  refine Wl.q (v := iv 6) (q_load sc_3 rfl (.cel (i := 6) rfl rfl)) ?_
  refine Wl.imp (L' := (storeW b2 (tl34_10 n)) :: (knowK k7 b2 (tl34_10 n) (KL [7, 3])) :: (knowK k11 b2 (tl34_10 n) (KL [1, 3])) :: (pt b10 3 [iv 1, iv 3]) :: (knowK k9 b2 (tl34_10 n) (KL [6, 3])) :: (pt b5 3 [iv 7, iv 8, iv 9, iv 10]) :: (pt b4 33 [iv 5, iv 6, iv 7, iv 8, iv 9, iv 10]) :: F) (fun _ h => st_pull [1, 3] h) ?_
  refine Wl.e (e_call (F := (knowK k11 b2 (tl34_10 n) (KL [1, 3])) :: (pt b10 3 [iv 1, iv 3]) :: (knowK k9 b2 (tl34_10 n) (KL [6, 3])) :: (pt b5 3 [iv 7, iv 8, iv 9, iv 10]) :: (pt b4 33 [iv 5, iv 6, iv 7, iv 8, iv 9, iv 10]) :: F) (args := [pv k7, iv 6]) Tryd.call9 rfl (khas_w W0 k7 b2 (tl34_10 n) (KL [7, 3]) 6 (der_no [0, 7, 3] (by kernel_rfl)))) (fun _ _ => ?_)
  refine Wl.imp (L' := (storeW b2 (tl34_10 n)) :: (knowK k7 b2 (tl34_10 n) (KL [7, 3])) :: (knowK k11 b2 (tl34_10 n) (KL [1, 3])) :: (pt b10 3 [iv 1, iv 3]) :: (knowK k9 b2 (tl34_10 n) (KL [6, 3])) :: (pt b5 3 [iv 7, iv 8, iv 9, iv 10]) :: (pt b4 33 [iv 5, iv 6, iv 7, iv 8, iv 9, iv 10]) :: F) (fun _ h => h) ?_
  refine Wl.q (v := Value.bool false) (q_pick (t := false) rfl rfl) ?_
  refine Wl.q (v := Value.bool false) (q_move rfl) ?_
  refine Wl.q (v := pv k7) (q_move rfl) ?_
  refine Wl.q (v := pv b4) (q_field (m := 0) fo_33_0 rfl rfl) ?_
  refine Wl.q (v := iv 5) (q_load sc_3 rfl (.cel (i := 6) rfl rfl)) ?_
  refine Wl.e (e_call (F := (knowK k11 b2 (tl34_10 n) (KL [1, 3])) :: (pt b10 3 [iv 1, iv 3]) :: (knowK k9 b2 (tl34_10 n) (KL [6, 3])) :: (pt b5 3 [iv 7, iv 8, iv 9, iv 10]) :: (pt b4 33 [iv 5, iv 6, iv 7, iv 8, iv 9, iv 10]) :: F) (args := [pv k7, iv 5]) Tryd.call9 rfl (khas_w W0 k7 b2 (tl34_10 n) (KL [7, 3]) 5 (der_no [0, 7, 3] (by kernel_rfl)))) (fun _ _ => ?_)
  refine Wl.imp (L' := (storeW b2 (tl34_10 n)) :: (knowK k7 b2 (tl34_10 n) (KL [7, 3])) :: (knowK k11 b2 (tl34_10 n) (KL [1, 3])) :: (pt b10 3 [iv 1, iv 3]) :: (knowK k9 b2 (tl34_10 n) (KL [6, 3])) :: (pt b5 3 [iv 7, iv 8, iv 9, iv 10]) :: (pt b4 33 [iv 5, iv 6, iv 7, iv 8, iv 9, iv 10]) :: F) (fun _ h => h) ?_
  refine Wl.q (v := Value.bool false) (q_pick (t := false) rfl rfl) ?_
  refine Wl.q (v := Value.bool false) (q_move rfl) ?_
  refine Wl.q (v := pv k9) (q_move rfl) ?_
  refine Wl.q (v := pv b4) (q_field (m := 0) fo_33_0 rfl rfl) ?_
  refine Wl.q (v := iv 5) (q_load sc_3 rfl (.cel (i := 6) rfl rfl)) ?_
  refine Wl.imp (L' := (storeW b2 (tl34_10 n)) :: (knowK k9 b2 (tl34_10 n) (KL [6, 3])) :: (knowK k7 b2 (tl34_10 n) (KL [7, 3])) :: (knowK k11 b2 (tl34_10 n) (KL [1, 3])) :: (pt b10 3 [iv 1, iv 3]) :: (pt b5 3 [iv 7, iv 8, iv 9, iv 10]) :: (pt b4 33 [iv 5, iv 6, iv 7, iv 8, iv 9, iv 10]) :: F) (fun _ h => st_pull [0, 3] h) ?_
  refine Wl.e (e_call (F := (knowK k7 b2 (tl34_10 n) (KL [7, 3])) :: (knowK k11 b2 (tl34_10 n) (KL [1, 3])) :: (pt b10 3 [iv 1, iv 3]) :: (pt b5 3 [iv 7, iv 8, iv 9, iv 10]) :: (pt b4 33 [iv 5, iv 6, iv 7, iv 8, iv 9, iv 10]) :: F) (args := [pv k9, iv 5]) Tryd.call9 rfl (khas_w W0 k9 b2 (tl34_10 n) (KL [6, 3]) 5 (der_no [0, 6, 3, 7, 8, 9, 10] (by kernel_rfl)))) (fun _ _ => ?_)
  refine Wl.imp (L' := (storeW b2 (tl34_10 n)) :: (knowK k9 b2 (tl34_10 n) (KL [6, 3])) :: (knowK k7 b2 (tl34_10 n) (KL [7, 3])) :: (knowK k11 b2 (tl34_10 n) (KL [1, 3])) :: (pt b10 3 [iv 1, iv 3]) :: (pt b5 3 [iv 7, iv 8, iv 9, iv 10]) :: (pt b4 33 [iv 5, iv 6, iv 7, iv 8, iv 9, iv 10]) :: F) (fun _ h => h) ?_
  refine Wl.q (v := Value.bool false) (q_pick (t := false) rfl rfl) ?_
  refine Wl.q (v := Value.bool false) (q_move rfl) ?_
  refine Wl.q (v := pv k11) (q_move rfl) ?_
  refine Wl.q (v := pv b4) (q_field (m := 0) fo_33_0 rfl rfl) ?_
  refine Wl.q (v := iv 5) (q_load sc_3 rfl (.cel (i := 6) rfl rfl)) ?_
  refine Wl.imp (L' := (storeW b2 (tl34_10 n)) :: (knowK k11 b2 (tl34_10 n) (KL [1, 3])) :: (knowK k9 b2 (tl34_10 n) (KL [6, 3])) :: (knowK k7 b2 (tl34_10 n) (KL [7, 3])) :: (pt b10 3 [iv 1, iv 3]) :: (pt b5 3 [iv 7, iv 8, iv 9, iv 10]) :: (pt b4 33 [iv 5, iv 6, iv 7, iv 8, iv 9, iv 10]) :: F) (fun _ h => st_pull [0, 2] h) ?_
  refine Wl.e (e_call (F := (knowK k9 b2 (tl34_10 n) (KL [6, 3])) :: (knowK k7 b2 (tl34_10 n) (KL [7, 3])) :: (pt b10 3 [iv 1, iv 3]) :: (pt b5 3 [iv 7, iv 8, iv 9, iv 10]) :: (pt b4 33 [iv 5, iv 6, iv 7, iv 8, iv 9, iv 10]) :: F) (args := [pv k11, iv 5]) Tryd.call9 rfl (khas_w W0 k11 b2 (tl34_10 n) (KL [1, 3]) 5 (der_no [0, 1, 3] (by kernel_rfl)))) (fun _ _ => ?_)
  refine Wl.imp (L' := (storeW b2 (tl34_10 n)) :: (knowK k11 b2 (tl34_10 n) (KL [1, 3])) :: (knowK k9 b2 (tl34_10 n) (KL [6, 3])) :: (knowK k7 b2 (tl34_10 n) (KL [7, 3])) :: (pt b10 3 [iv 1, iv 3]) :: (pt b5 3 [iv 7, iv 8, iv 9, iv 10]) :: (pt b4 33 [iv 5, iv 6, iv 7, iv 8, iv 9, iv 10]) :: F) (fun _ h => h) ?_
  refine Wl.q (v := Value.bool false) (q_pick (t := false) rfl rfl) ?_
  refine Wl.q (v := Value.bool false) (q_move rfl) ?_
  refine Wl.q (v := pv k11) (q_move rfl) ?_
  refine Wl.q (v := Value.pointer (some ⟨b4, 1, none⟩)) (q_field (m := 1) fo_33_1 rfl rfl) ?_
  refine Wl.q (v := iv 6) (q_load sc_3 rfl (.cel (i := 6) rfl rfl)) ?_
  refine Wl.e (e_call (F := (knowK k9 b2 (tl34_10 n) (KL [6, 3])) :: (knowK k7 b2 (tl34_10 n) (KL [7, 3])) :: (pt b10 3 [iv 1, iv 3]) :: (pt b5 3 [iv 7, iv 8, iv 9, iv 10]) :: (pt b4 33 [iv 5, iv 6, iv 7, iv 8, iv 9, iv 10]) :: F) (args := [pv k11, iv 6]) Tryd.call9 rfl (khas_w W0 k11 b2 (tl34_10 n) (KL [1, 3]) 6 (der_no [0, 1, 3] (by kernel_rfl)))) (fun _ _ => ?_)
  refine Wl.imp (L' := (storeW b2 (tl34_10 n)) :: (knowK k11 b2 (tl34_10 n) (KL [1, 3])) :: (knowK k9 b2 (tl34_10 n) (KL [6, 3])) :: (knowK k7 b2 (tl34_10 n) (KL [7, 3])) :: (pt b10 3 [iv 1, iv 3]) :: (pt b5 3 [iv 7, iv 8, iv 9, iv 10]) :: (pt b4 33 [iv 5, iv 6, iv 7, iv 8, iv 9, iv 10]) :: F) (fun _ h => h) ?_
  refine Wl.q (v := Value.bool false) (q_pick (t := false) rfl rfl) ?_
  refine Wl.done ?_
  refine Wx.go ?_
  refine Wc.no rfl ?_
  refine Wc.skip ?_
  refine Wx.go ?_
  refine Wc.seq ?_
  refine Wc.seq ?_
  refine Wc.imp (L' := (storeW b2 (tl34_10 n)) :: (knowK k11 b2 (tl34_10 n) (KL [1, 3])) :: (knowK k9 b2 (tl34_10 n) (KL [6, 3])) :: (knowK k7 b2 (tl34_10 n) (KL [7, 3])) :: (pt b5 3 [iv 7, iv 8, iv 9, iv 10]) :: F) (fun w hs => (st_drop (st_drop (st_pull [4, 5] hs)))) ?_
  refine Wc.region ?_
  refine Wl.q (v := iv 0) (q_assign rfl) ?_
  refine Wl.done ?_
  refine Wx.go ?_
  refine Wc.block ?_
  refine Wc.rounds 64 ?_
  refine Wn.round ?_
  refine Wc.seq ?_
  refine Wc.seq ?_
  refine Wc.region ?_
  refine Wl.q (v := iv 0) (q_move rfl) ?_
  refine Wl.q (v := Value.bool true) (q_lss (r := true) rfl rfl (decide_eq_true (by decide))) ?_
  refine Wl.done ?_
  refine Wx.go ?_
  refine Wc.yes rfl ?_
  refine Wc.skip ?_
  refine Wx.go ?_
  refine Wc.seq ?_
  refine Wc.block ?_
  refine Wc.seq ?_
  refine Wc.region ?_
  refine Wl.q (v := pv k7) (q_move rfl) ?_
  refine Wl.q (v := Value.slice (some ⟨b5, 0, none⟩) 4 4) (q_move rfl) ?_
  refine Wl.q (v := iv 0) (q_move rfl) ?_
  refine Wl.q (v := pv b5) (q_idx (m := 0) se_31 rfl rfl (by omega) (by omega) rfl) ?_
  refine Wl.q (v := iv 7) (q_load sc_3 rfl (.cel (i := 4) rfl rfl)) ?_
  refine Wl.imp (L' := (storeW b2 (tl34_10 n)) :: (knowK k7 b2 (tl34_10 n) (KL [7, 3])) :: (knowK k11 b2 (tl34_10 n) (KL [1, 3])) :: (knowK k9 b2 (tl34_10 n) (KL [6, 3])) :: (pt b5 3 [iv 7, iv 8, iv 9, iv 10]) :: F) (fun _ h => st_pull [0, 2] h) ?_
  refine Wl.e (e_call (F := (knowK k11 b2 (tl34_10 n) (KL [1, 3])) :: (knowK k9 b2 (tl34_10 n) (KL [6, 3])) :: (pt b5 3 [iv 7, iv 8, iv 9, iv 10]) :: F) (args := [pv k7, iv 7]) Tryd.call9 rfl (khas_w W0 k7 b2 (tl34_10 n) (KL [7, 3]) 7 (der_yes [7, 3] (by kernel_rfl)))) (fun _ _ => ?_)
  refine Wl.imp (L' := (storeW b2 (tl34_10 n)) :: (knowK k7 b2 (tl34_10 n) (KL [7, 3])) :: (knowK k11 b2 (tl34_10 n) (KL [1, 3])) :: (knowK k9 b2 (tl34_10 n) (KL [6, 3])) :: (pt b5 3 [iv 7, iv 8, iv 9, iv 10]) :: F) (fun _ h => h) ?_
  refine Wl.q (v := iv 0) (q_move rfl) ?_
  refine Wl.q (v := iv 0) (q_move rfl) ?_
  refine Wl.q (v := Value.bool true) (q_eql (r := true) rfl rfl (decide_eq_true (by decide))) ?_
  refine Wl.q (v := Value.bool false) (q_neq_bool (r := true) rfl rfl Tryd.underlying4 rfl) ?_
  refine Wl.q (v := Value.bool false) (q_move rfl) ?_
  refine Wl.q (v := pv k9) (q_move rfl) ?_
  refine Wl.q (v := Value.slice (some ⟨b5, 0, none⟩) 4 4) (q_move rfl) ?_
  refine Wl.q (v := iv 0) (q_move rfl) ?_
  refine Wl.q (v := pv b5) (q_idx (m := 0) se_31 rfl rfl (by omega) (by omega) rfl) ?_
  refine Wl.q (v := iv 7) (q_load sc_3 rfl (.cel (i := 4) rfl rfl)) ?_
  refine Wl.imp (L' := (storeW b2 (tl34_10 n)) :: (knowK k9 b2 (tl34_10 n) (KL [6, 3])) :: (knowK k7 b2 (tl34_10 n) (KL [7, 3])) :: (knowK k11 b2 (tl34_10 n) (KL [1, 3])) :: (pt b5 3 [iv 7, iv 8, iv 9, iv 10]) :: F) (fun _ h => st_pull [0, 2] h) ?_
  refine Wl.e (e_call (F := (knowK k7 b2 (tl34_10 n) (KL [7, 3])) :: (knowK k11 b2 (tl34_10 n) (KL [1, 3])) :: (pt b5 3 [iv 7, iv 8, iv 9, iv 10]) :: F) (args := [pv k9, iv 7]) Tryd.call9 rfl (khas_w W0 k9 b2 (tl34_10 n) (KL [6, 3]) 7 (der_yes [6, 3, 7, 8, 9, 10] (by kernel_rfl)))) (fun _ _ => ?_)
  refine Wl.imp (L' := (storeW b2 (tl34_10 n)) :: (knowK k9 b2 (tl34_10 n) (KL [6, 3])) :: (knowK k7 b2 (tl34_10 n) (KL [7, 3])) :: (knowK k11 b2 (tl34_10 n) (KL [1, 3])) :: (pt b5 3 [iv 7, iv 8, iv 9, iv 10]) :: F) (fun _ h => h) ?_
  refine Wl.q (v := Value.bool false) (q_not rfl rfl) ?_
  refine Wl.q (v := Value.bool false) (q_pick (t := false) rfl rfl) ?_
  refine Wl.q (v := Value.bool false) (q_move rfl) ?_
  refine Wl.q (v := pv k11) (q_move rfl) ?_
  refine Wl.q (v := Value.slice (some ⟨b5, 0, none⟩) 4 4) (q_move rfl) ?_
  refine Wl.q (v := iv 0) (q_move rfl) ?_
  refine Wl.q (v := pv b5) (q_idx (m := 0) se_31 rfl rfl (by omega) (by omega) rfl) ?_
  refine Wl.q (v := iv 7) (q_load sc_3 rfl (.cel (i := 4) rfl rfl)) ?_
  refine Wl.imp (L' := (storeW b2 (tl34_10 n)) :: (knowK k11 b2 (tl34_10 n) (KL [1, 3])) :: (knowK k9 b2 (tl34_10 n) (KL [6, 3])) :: (knowK k7 b2 (tl34_10 n) (KL [7, 3])) :: (pt b5 3 [iv 7, iv 8, iv 9, iv 10]) :: F) (fun _ h => st_pull [0, 2] h) ?_
  refine Wl.e (e_call (F := (knowK k9 b2 (tl34_10 n) (KL [6, 3])) :: (knowK k7 b2 (tl34_10 n) (KL [7, 3])) :: (pt b5 3 [iv 7, iv 8, iv 9, iv 10]) :: F) (args := [pv k11, iv 7]) Tryd.call9 rfl (khas_w W0 k11 b2 (tl34_10 n) (KL [1, 3]) 7 (der_no [0, 1, 3] (by kernel_rfl)))) (fun _ _ => ?_)
  refine Wl.imp (L' := (storeW b2 (tl34_10 n)) :: (knowK k11 b2 (tl34_10 n) (KL [1, 3])) :: (knowK k9 b2 (tl34_10 n) (KL [6, 3])) :: (knowK k7 b2 (tl34_10 n) (KL [7, 3])) :: (pt b5 3 [iv 7, iv 8, iv 9, iv 10]) :: F) (fun _ h => h) ?_
  refine Wl.q (v := Value.bool false) (q_pick (t := false) rfl rfl) ?_
  refine Wl.done ?_
  refine Wx.go ?_
  refine Wc.no rfl ?_
  refine Wc.skip ?_
  refine Wx.blockEnd ?_
  refine Wx.go ?_
  refine Wc.region ?_
  refine Wl.q (v := iv 0) (q_move rfl) ?_
  refine Wl.q (v := iv 1) (q_add (c := 1) rfl rfl (by decide)) ?_
  refine Wl.q (v := iv 1) (q_assign rfl) ?_
  refine Wl.done ?_
  refine Wx.again ?_
  refine Wn.round ?_
  refine Wc.seq ?_
  refine Wc.seq ?_
  refine Wc.region ?_
  refine Wl.q (v := iv 1) (q_move rfl) ?_
  refine Wl.q (v := Value.bool true) (q_lss (r := true) rfl rfl (decide_eq_true (by decide))) ?_
  refine Wl.done ?_
  refine Wx.go ?_
  refine Wc.yes rfl ?_
  refine Wc.skip ?_
  refine Wx.go ?_
  refine Wc.seq ?_
  refine Wc.block ?_
  refine Wc.seq ?_
  refine Wc.region ?_
  refine Wl.q (v := pv k7) (q_move rfl) ?_
  refine Wl.q (v := Value.slice (some ⟨b5, 0, none⟩) 4 4) (q_move rfl) ?_
  refine Wl.q (v := iv 1) (q_move rfl) ?_
  refine Wl.q (v := Value.pointer (some ⟨b5, 1, none⟩)) (q_idx (m := 1) se_31 rfl rfl (by omega) (by omega) rfl) ?_
  refine Wl.q (v := iv 8) (q_load sc_3 rfl (.cel (i := 4) rfl rfl)) ?_
  refine Wl.imp (L' := (storeW b2 (tl34_10 n)) :: (knowK k7 b2 (tl34_10 n) (KL [7, 3])) :: (knowK k11 b2 (tl34_10 n) (KL [1, 3])) :: (knowK k9 b2 (tl34_10 n) (KL [6, 3])) :: (pt b5 3 [iv 7, iv 8, iv 9, iv 10]) :: F) (fun _ h => st_pull [0, 2] h) ?_
  refine Wl.e (e_call (F := (knowK k11 b2 (tl34_10 n) (KL [1, 3])) :: (knowK k9 b2 (tl34_10 n) (KL [6, 3])) :: (pt b5 3 [iv 7, iv 8, iv 9, iv 10]) :: F) (args := [pv k7, iv 8]) Tryd.call9 rfl (khas_w W0 k7 b2 (tl34_10 n) (KL [7, 3]) 8 (der_no [0, 7, 3] (by kernel_rfl)))) (fun _ _ => ?_)
  refine Wl.imp (L' := (storeW b2 (tl34_10 n)) :: (knowK k7 b2 (tl34_10 n) (KL [7, 3])) :: (knowK k11 b2 (tl34_10 n) (KL [1, 3])) :: (knowK k9 b2 (tl34_10 n) (KL [6, 3])) :: (pt b5 3 [iv 7, iv 8, iv 9, iv 10]) :: F) (fun _ h => h) ?_
  refine Wl.q (v := iv 1) (q_move rfl) ?_
  refine Wl.q (v := iv 0) (q_move rfl) ?_
  refine Wl.q (v := Value.bool false) (q_eql (r := false) rfl rfl (decide_eq_false (by decide))) ?_
  refine Wl.q (v := Value.bool false) (q_neq_bool (r := true) rfl rfl Tryd.underlying4 rfl) ?_
  refine Wl.q (v := Value.bool false) (q_move rfl) ?_
  refine Wl.q (v := pv k9) (q_move rfl) ?_
  refine Wl.q (v := Value.slice (some ⟨b5, 0, none⟩) 4 4) (q_move rfl) ?_
  refine Wl.q (v := iv 1) (q_move rfl) ?_
  refine Wl.q (v := Value.pointer (some ⟨b5, 1, none⟩)) (q_idx (m := 1) se_31 rfl rfl (by omega) (by omega) rfl) ?_
  refine Wl.q (v := iv 8) (q_load sc_3 rfl (.cel (i := 4) rfl rfl)) ?_
  refine Wl.imp (L' := (storeW b2 (tl34_10 n)) :: (knowK k9 b2 (tl34_10 n) (KL [6, 3])) :: (knowK k7 b2 (tl34_10 n) (KL [7, 3])) :: (knowK k11 b2 (tl34_10 n) (KL [1, 3])) :: (pt b5 3 [iv 7, iv 8, iv 9, iv 10]) :: F) (fun _ h => st_pull [0, 2] h) ?_
  refine Wl.e (e_call (F := (knowK k7 b2 (tl34_10 n) (KL [7, 3])) :: (knowK k11 b2 (tl34_10 n) (KL [1, 3])) :: (pt b5 3 [iv 7, iv 8, iv 9, iv 10]) :: F) (args := [pv k9, iv 8]) Tryd.call9 rfl (khas_w W0 k9 b2 (tl34_10 n) (KL [6, 3]) 8 (der_yes [6, 3, 7, 8, 9, 10] (by kernel_rfl)))) (fun _ _ => ?_)
  refine Wl.imp (L' := (storeW b2 (tl34_10 n)) :: (knowK k9 b2 (tl34_10 n) (KL [6, 3])) :: (knowK k7 b2 (tl34_10 n) (KL [7, 3])) :: (knowK k11 b2 (tl34_10 n) (KL [1, 3])) :: (pt b5 3 [iv 7, iv 8, iv 9, iv 10]) :: F) (fun _ h => h) ?_
  refine Wl.q (v := Value.bool false) (q_not rfl rfl) ?_
  refine Wl.q (v := Value.bool false) (q_pick (t := false) rfl rfl) ?_
  refine Wl.q (v := Value.bool false) (q_move rfl) ?_
  refine Wl.q (v := pv k11) (q_move rfl) ?_
  refine Wl.q (v := Value.slice (some ⟨b5, 0, none⟩) 4 4) (q_move rfl) ?_
  refine Wl.q (v := iv 1) (q_move rfl) ?_
  refine Wl.q (v := Value.pointer (some ⟨b5, 1, none⟩)) (q_idx (m := 1) se_31 rfl rfl (by omega) (by omega) rfl) ?_
  refine Wl.q (v := iv 8) (q_load sc_3 rfl (.cel (i := 4) rfl rfl)) ?_
  refine Wl.imp (L' := (storeW b2 (tl34_10 n)) :: (knowK k11 b2 (tl34_10 n) (KL [1, 3])) :: (knowK k9 b2 (tl34_10 n) (KL [6, 3])) :: (knowK k7 b2 (tl34_10 n) (KL [7, 3])) :: (pt b5 3 [iv 7, iv 8, iv 9, iv 10]) :: F) (fun _ h => st_pull [0, 2] h) ?_
  refine Wl.e (e_call (F := (knowK k9 b2 (tl34_10 n) (KL [6, 3])) :: (knowK k7 b2 (tl34_10 n) (KL [7, 3])) :: (pt b5 3 [iv 7, iv 8, iv 9, iv 10]) :: F) (args := [pv k11, iv 8]) Tryd.call9 rfl (khas_w W0 k11 b2 (tl34_10 n) (KL [1, 3]) 8 (der_no [0, 1, 3] (by kernel_rfl)))) (fun _ _ => ?_)
  refine Wl.imp (L' := (storeW b2 (tl34_10 n)) :: (knowK k11 b2 (tl34_10 n) (KL [1, 3])) :: (knowK k9 b2 (tl34_10 n) (KL [6, 3])) :: (knowK k7 b2 (tl34_10 n) (KL [7, 3])) :: (pt b5 3 [iv 7, iv 8, iv 9, iv 10]) :: F) (fun _ h => h) ?_
  refine Wl.q (v := Value.bool false) (q_pick (t := false) rfl rfl) ?_
  refine Wl.done ?_
  refine Wx.go ?_
  refine Wc.no rfl ?_
  refine Wc.skip ?_
  refine Wx.blockEnd ?_
  refine Wx.go ?_
  refine Wc.region ?_
  refine Wl.q (v := iv 1) (q_move rfl) ?_
  refine Wl.q (v := iv 2) (q_add (c := 2) rfl rfl (by decide)) ?_
  refine Wl.q (v := iv 2) (q_assign rfl) ?_
  refine Wl.done ?_
  refine Wx.again ?_
  refine Wn.round ?_
  refine Wc.seq ?_
  refine Wc.seq ?_
  refine Wc.region ?_
  refine Wl.q (v := iv 2) (q_move rfl) ?_
  refine Wl.q (v := Value.bool true) (q_lss (r := true) rfl rfl (decide_eq_true (by decide))) ?_
  refine Wl.done ?_
  refine Wx.go ?_
  refine Wc.yes rfl ?_
  refine Wc.skip ?_
  refine Wx.go ?_
  refine Wc.seq ?_
  refine Wc.block ?_
  refine Wc.seq ?_
  refine Wc.region ?_
  refine Wl.q (v := pv k7) (q_move rfl) ?_
  refine Wl.q (v := Value.slice (some ⟨b5, 0, none⟩) 4 4) (q_move rfl) ?_
  refine Wl.q (v := iv 2) (q_move rfl) ?_
  refine Wl.q (v := Value.pointer (some ⟨b5, 2, none⟩)) (q_idx (m := 2) se_31 rfl rfl (by omega) (by omega) rfl) ?_
  refine Wl.q (v := iv 9) (q_load sc_3 rfl (.cel (i := 4) rfl rfl)) ?_
  refine Wl.imp (L' := (storeW b2 (tl34_10 n)) :: (knowK k7 b2 (tl34_10 n) (KL [7, 3])) :: (knowK k11 b2 (tl34_10 n) (KL [1, 3])) :: (knowK k9 b2 (tl34_10 n) (KL [6, 3])) :: (pt b5 3 [iv 7, iv 8, iv 9, iv 10]) :: F) (fun _ h => st_pull [0, 2] h) ?_
  refine Wl.e (e_call (F := (knowK k11 b2 (tl34_10 n) (KL [1, 3])) :: (knowK k9 b2 (tl34_10 n) (KL [6, 3])) :: (pt b5 3 [iv 7, iv 8, iv 9, iv 10]) :: F) (args := [pv k7, iv 9]) Tryd.call9 rfl (khas_w W0 k7 b2 (tl34_10 n) (KL [7, 3]) 9 (der_no [0, 7, 3] (by kernel_rfl)))) (fun _ _ => ?_)
  refine Wl.imp (L' := (storeW b2 (tl34_10 n)) :: (knowK k7 b2 (tl34_10 n) (KL [7, 3])) :: (knowK k11 b2 (tl34_10 n) (KL [1, 3])) :: (knowK k9 b2 (tl34_10 n) (KL [6, 3])) :: (pt b5 3 [iv 7, iv 8, iv 9, iv 10]) :: F) (fun _ h => h) ?_
  refine Wl.q (v := iv 2) (q_move rfl) ?_
  refine Wl.q (v := iv 0) (q_move rfl) ?_
  refine Wl.q (v := Value.bool false) (q_eql (r := false) rfl rfl (decide_eq_false (by decide))) ?_
  refine Wl.q (v := Value.bool false) (q_neq_bool (r := true) rfl rfl Tryd.underlying4 rfl) ?_
  refine Wl.q (v := Value.bool false) (q_move rfl) ?_
  refine Wl.q (v := pv k9) (q_move rfl) ?_
  refine Wl.q (v := Value.slice (some ⟨b5, 0, none⟩) 4 4) (q_move rfl) ?_
  refine Wl.q (v := iv 2) (q_move rfl) ?_
  refine Wl.q (v := Value.pointer (some ⟨b5, 2, none⟩)) (q_idx (m := 2) se_31 rfl rfl (by omega) (by omega) rfl) ?_
  refine Wl.q (v := iv 9) (q_load sc_3 rfl (.cel (i := 4) rfl rfl)) ?_
  refine Wl.imp (L' := (storeW b2 (tl34_10 n)) :: (knowK k9 b2 (tl34_10 n) (KL [6, 3])) :: (knowK k7 b2 (tl34_10 n) (KL [7, 3])) :: (knowK k11 b2 (tl34_10 n) (KL [1, 3])) :: (pt b5 3 [iv 7, iv 8, iv 9, iv 10]) :: F) (fun _ h => st_pull [0, 2] h) ?_
  refine Wl.e (e_call (F := (knowK k7 b2 (tl34_10 n) (KL [7, 3])) :: (knowK k11 b2 (tl34_10 n) (KL [1, 3])) :: (pt b5 3 [iv 7, iv 8, iv 9, iv 10]) :: F) (args := [pv k9, iv 9]) Tryd.call9 rfl (khas_w W0 k9 b2 (tl34_10 n) (KL [6, 3]) 9 (der_yes [6, 3, 7, 8, 9, 10] (by kernel_rfl)))) (fun _ _ => ?_)
  refine Wl.imp (L' := (storeW b2 (tl34_10 n)) :: (knowK k9 b2 (tl34_10 n) (KL [6, 3])) :: (knowK k7 b2 (tl34_10 n) (KL [7, 3])) :: (knowK k11 b2 (tl34_10 n) (KL [1, 3])) :: (pt b5 3 [iv 7, iv 8, iv 9, iv 10]) :: F) (fun _ h => h) ?_
  refine Wl.q (v := Value.bool false) (q_not rfl rfl) ?_
  refine Wl.q (v := Value.bool false) (q_pick (t := false) rfl rfl) ?_
  refine Wl.q (v := Value.bool false) (q_move rfl) ?_
  refine Wl.q (v := pv k11) (q_move rfl) ?_
  refine Wl.q (v := Value.slice (some ⟨b5, 0, none⟩) 4 4) (q_move rfl) ?_
  refine Wl.q (v := iv 2) (q_move rfl) ?_
  refine Wl.q (v := Value.pointer (some ⟨b5, 2, none⟩)) (q_idx (m := 2) se_31 rfl rfl (by omega) (by omega) rfl) ?_
  refine Wl.q (v := iv 9) (q_load sc_3 rfl (.cel (i := 4) rfl rfl)) ?_
  refine Wl.imp (L' := (storeW b2 (tl34_10 n)) :: (knowK k11 b2 (tl34_10 n) (KL [1, 3])) :: (knowK k9 b2 (tl34_10 n) (KL [6, 3])) :: (knowK k7 b2 (tl34_10 n) (KL [7, 3])) :: (pt b5 3 [iv 7, iv 8, iv 9, iv 10]) :: F) (fun _ h => st_pull [0, 2] h) ?_
  refine Wl.e (e_call (F := (knowK k9 b2 (tl34_10 n) (KL [6, 3])) :: (knowK k7 b2 (tl34_10 n) (KL [7, 3])) :: (pt b5 3 [iv 7, iv 8, iv 9, iv 10]) :: F) (args := [pv k11, iv 9]) Tryd.call9 rfl (khas_w W0 k11 b2 (tl34_10 n) (KL [1, 3]) 9 (der_no [0, 1, 3] (by kernel_rfl)))) (fun _ _ => ?_)
  refine Wl.imp (L' := (storeW b2 (tl34_10 n)) :: (knowK k11 b2 (tl34_10 n) (KL [1, 3])) :: (knowK k9 b2 (tl34_10 n) (KL [6, 3])) :: (knowK k7 b2 (tl34_10 n) (KL [7, 3])) :: (pt b5 3 [iv 7, iv 8, iv 9, iv 10]) :: F) (fun _ h => h) ?_
  refine Wl.q (v := Value.bool false) (q_pick (t := false) rfl rfl) ?_
  refine Wl.done ?_
  refine Wx.go ?_
  refine Wc.no rfl ?_
  refine Wc.skip ?_
  refine Wx.blockEnd ?_
  refine Wx.go ?_
  refine Wc.region ?_
  refine Wl.q (v := iv 2) (q_move rfl) ?_
  refine Wl.q (v := iv 3) (q_add (c := 3) rfl rfl (by decide)) ?_
  refine Wl.q (v := iv 3) (q_assign rfl) ?_
  refine Wl.done ?_
  refine Wx.again ?_
  refine Wn.round ?_
  refine Wc.seq ?_
  refine Wc.seq ?_
  refine Wc.region ?_
  refine Wl.q (v := iv 3) (q_move rfl) ?_
  refine Wl.q (v := Value.bool true) (q_lss (r := true) rfl rfl (decide_eq_true (by decide))) ?_
  refine Wl.done ?_
  refine Wx.go ?_
  refine Wc.yes rfl ?_
  refine Wc.skip ?_
  refine Wx.go ?_
  refine Wc.seq ?_
  refine Wc.block ?_
  refine Wc.seq ?_
  refine Wc.region ?_
  refine Wl.q (v := pv k7) (q_move rfl) ?_
  refine Wl.q (v := Value.slice (some ⟨b5, 0, none⟩) 4 4) (q_move rfl) ?_
  refine Wl.q (v := iv 3) (q_move rfl) ?_
  refine Wl.q (v := Value.pointer (some ⟨b5, 3, none⟩)) (q_idx (m := 3) se_31 rfl rfl (by omega) (by omega) rfl) ?_
  refine Wl.q (v := iv 10) (q_load sc_3 rfl (.cel (i := 4) rfl rfl)) ?_
  refine Wl.imp (L' := (storeW b2 (tl34_10 n)) :: (knowK k7 b2 (tl34_10 n) (KL [7, 3])) :: (knowK k11 b2 (tl34_10 n) (KL [1, 3])) :: (knowK k9 b2 (tl34_10 n) (KL [6, 3])) :: (pt b5 3 [iv 7, iv 8, iv 9, iv 10]) :: F) (fun _ h => st_pull [0, 2] h) ?_
  refine Wl.e (e_call (F := (knowK k11 b2 (tl34_10 n) (KL [1, 3])) :: (knowK k9 b2 (tl34_10 n) (KL [6, 3])) :: (pt b5 3 [iv 7, iv 8, iv 9, iv 10]) :: F) (args := [pv k7, iv 10]) Tryd.call9 rfl (khas_w W0 k7 b2 (tl34_10 n) (KL [7, 3]) 10 (der_no [0, 7, 3] (by kernel_rfl)))) (fun _ _ => ?_)
  refine Wl.imp (L' := (storeW b2 (tl34_10 n)) :: (knowK k7 b2 (tl34_10 n) (KL [7, 3])) :: (knowK k11 b2 (tl34_10 n) (KL [1, 3])) :: (knowK k9 b2 (tl34_10 n) (KL [6, 3])) :: (pt b5 3 [iv 7, iv 8, iv 9, iv 10]) :: F) (fun _ h => h) ?_
  refine Wl.q (v := iv 3) (q_move rfl) ?_
  refine Wl.q (v := iv 0) (q_move rfl) ?_
  refine Wl.q (v := Value.bool false) (q_eql (r := false) rfl rfl (decide_eq_false (by decide))) ?_
  refine Wl.q (v := Value.bool false) (q_neq_bool (r := true) rfl rfl Tryd.underlying4 rfl) ?_
  refine Wl.q (v := Value.bool false) (q_move rfl) ?_
  refine Wl.q (v := pv k9) (q_move rfl) ?_
  refine Wl.q (v := Value.slice (some ⟨b5, 0, none⟩) 4 4) (q_move rfl) ?_
  refine Wl.q (v := iv 3) (q_move rfl) ?_
  refine Wl.q (v := Value.pointer (some ⟨b5, 3, none⟩)) (q_idx (m := 3) se_31 rfl rfl (by omega) (by omega) rfl) ?_
  refine Wl.q (v := iv 10) (q_load sc_3 rfl (.cel (i := 4) rfl rfl)) ?_
  refine Wl.imp (L' := (storeW b2 (tl34_10 n)) :: (knowK k9 b2 (tl34_10 n) (KL [6, 3])) :: (knowK k7 b2 (tl34_10 n) (KL [7, 3])) :: (knowK k11 b2 (tl34_10 n) (KL [1, 3])) :: (pt b5 3 [iv 7, iv 8, iv 9, iv 10]) :: F) (fun _ h => st_pull [0, 2] h) ?_
  refine Wl.e (e_call (F := (knowK k7 b2 (tl34_10 n) (KL [7, 3])) :: (knowK k11 b2 (tl34_10 n) (KL [1, 3])) :: (pt b5 3 [iv 7, iv 8, iv 9, iv 10]) :: F) (args := [pv k9, iv 10]) Tryd.call9 rfl (khas_w W0 k9 b2 (tl34_10 n) (KL [6, 3]) 10 (der_yes [6, 3, 7, 8, 9, 10] (by kernel_rfl)))) (fun _ _ => ?_)
  refine Wl.imp (L' := (storeW b2 (tl34_10 n)) :: (knowK k9 b2 (tl34_10 n) (KL [6, 3])) :: (knowK k7 b2 (tl34_10 n) (KL [7, 3])) :: (knowK k11 b2 (tl34_10 n) (KL [1, 3])) :: (pt b5 3 [iv 7, iv 8, iv 9, iv 10]) :: F) (fun _ h => h) ?_
  refine Wl.q (v := Value.bool false) (q_not rfl rfl) ?_
  refine Wl.q (v := Value.bool false) (q_pick (t := false) rfl rfl) ?_
  refine Wl.q (v := Value.bool false) (q_move rfl) ?_
  refine Wl.q (v := pv k11) (q_move rfl) ?_
  refine Wl.q (v := Value.slice (some ⟨b5, 0, none⟩) 4 4) (q_move rfl) ?_
  refine Wl.q (v := iv 3) (q_move rfl) ?_
  refine Wl.q (v := Value.pointer (some ⟨b5, 3, none⟩)) (q_idx (m := 3) se_31 rfl rfl (by omega) (by omega) rfl) ?_
  refine Wl.q (v := iv 10) (q_load sc_3 rfl (.cel (i := 4) rfl rfl)) ?_
  refine Wl.imp (L' := (storeW b2 (tl34_10 n)) :: (knowK k11 b2 (tl34_10 n) (KL [1, 3])) :: (knowK k9 b2 (tl34_10 n) (KL [6, 3])) :: (knowK k7 b2 (tl34_10 n) (KL [7, 3])) :: (pt b5 3 [iv 7, iv 8, iv 9, iv 10]) :: F) (fun _ h => st_pull [0, 2] h) ?_
  refine Wl.e (e_call (F := (knowK k9 b2 (tl34_10 n) (KL [6, 3])) :: (knowK k7 b2 (tl34_10 n) (KL [7, 3])) :: (pt b5 3 [iv 7, iv 8, iv 9, iv 10]) :: F) (args := [pv k11, iv 10]) Tryd.call9 rfl (khas_w W0 k11 b2 (tl34_10 n) (KL [1, 3]) 10 (der_no [0, 1, 3] (by kernel_rfl)))) (fun _ _ => ?_)
  refine Wl.imp (L' := (storeW b2 (tl34_10 n)) :: (knowK k11 b2 (tl34_10 n) (KL [1, 3])) :: (knowK k9 b2 (tl34_10 n) (KL [6, 3])) :: (knowK k7 b2 (tl34_10 n) (KL [7, 3])) :: (pt b5 3 [iv 7, iv 8, iv 9, iv 10]) :: F) (fun _ h => h) ?_
  refine Wl.q (v := Value.bool false) (q_pick (t := false) rfl rfl) ?_
  refine Wl.done ?_
  refine Wx.go ?_
  refine Wc.no rfl ?_
  refine Wc.skip ?_
  refine Wx.blockEnd ?_
  refine Wx.go ?_
  refine Wc.region ?_
  refine Wl.q (v := iv 3) (q_move rfl) ?_
  refine Wl.q (v := iv 4) (q_add (c := 4) rfl rfl (by decide)) ?_
  refine Wl.q (v := iv 4) (q_assign rfl) ?_
  refine Wl.done ?_
  refine Wx.again ?_
  refine Wn.round ?_
  refine Wc.seq ?_
  refine Wc.seq ?_
  refine Wc.region ?_
  refine Wl.q (v := iv 4) (q_move rfl) ?_
  refine Wl.q (v := Value.bool false) (q_lss (r := false) rfl rfl (decide_eq_false (by decide))) ?_
  refine Wl.done ?_
  refine Wx.go ?_
  refine Wc.no rfl ?_
  refine Wc.exit ?_
  refine Wx.thenExit ?_
  refine Wx.thenExit ?_
  refine Wx.out ?_
  refine Wx.go ?_
  refine Wc.seq ?_
  refine Wc.imp (L' := F) (fun w hs => (st_drop (st_drop (st_drop (st_drop (st_drop (st_pull [0, 0, 0, 0, 0] hs))))))) ?_
  refine Wc.region ?_
  refine Wl.e (e_call (F := F) (args := []) Tryd.call7 rfl (au1_lives W0)) (fun _ _ => ?_)
  refine Wl.imp (L' := F) (fun _ h => h) ?_
  refine Wl.q (v := Value.bool true) (q_assign rfl) ?_
  refine Wl.done ?_
  refine Wx.go ?_
  refine Wc.ret ?_
  refine Wx.fin1 rfl (.inl rfl) (fun w hs => ?_)
  have hs : st W0 w (F) := hs
  exact ⟨(), trivial, rfl, hs⟩

set_option maxRecDepth 8000 in
set_option maxHeartbeats 4000000 in
theorem ap27_SchedApart (W0 : World) (n : Int) (hn : 0 ≤ n ∧ n ≤ 1152921504606846976)  :
    Con Tryd.prog W0 4 #[iv n, iv 1] [] (X := Unit) (fun _ => True) (fun _ => Value.bool true) (fun _ => []) := by
  refine Con.of (args := [iv n, iv 1]) Tryd.func4 rfl Tryd.ntmps4 rfl (fun F => ?_)
  show Wc _ W0 _ _ _ _ _ (F)
  refine Wc.seq ?_
  refine Wc.region ?_
  refine Wl.q (v := Value.bool false) (q_assign rfl) ?_
  refine Wl.done ?_
  refine Wx.go ?_
  refine Wc.seq ?_
  refine Wc.seq ?_
  refine Wc.region ?_
  refine Wl.q (v := iv n) (q_move rfl) ?_
  refine Wl.q (v := Value.bool false) (q_lss (r := false) rfl rfl (decide_eq_false (by omega))) ?_
  refine Wl.q (v := Value.bool false) (q_move rfl) ?_
  refine Wl.q (v := iv n) (q_move rfl) ?_
  refine Wl.q (v := Value.bool false) (q_gtr (r := false) rfl rfl (decide_eq_false (by omega))) ?_
  refine Wl.q (v := Value.bool false) (q_pick (t := false) rfl rfl) ?_
  refine Wl.q (v := Value.bool false) (q_move rfl) ?_
  refine Wl.q (v := iv 1) (q_move rfl) ?_
  refine Wl.q (v := Value.bool false) (q_lss (r := false) rfl rfl (decide_eq_false (by decide))) ?_
  refine Wl.q (v := Value.bool false) (q_pick (t := false) rfl rfl) ?_
  refine Wl.q (v := Value.bool false) (q_move rfl) ?_
  refine Wl.q (v := iv 1) (q_move rfl) ?_
  refine Wl.q (v := Value.bool false) (q_gtr (r := false) rfl rfl (decide_eq_false (by decide))) ?_
  refine Wl.q (v := Value.bool false) (q_pick (t := false) rfl rfl) ?_
  refine Wl.done ?_
  refine Wx.go ?_
  refine Wc.no rfl ?_
  refine Wc.skip ?_
  refine Wx.go ?_
  refine Wc.seq ?_
  refine Wc.region ?_
  refine Wl.q (v := iv n) (q_move rfl) ?_
  refine Wl.q (v := Value.agg #[Value.int .u8 1, iv n, iv 0, iv 0]) (q_build (pl := [(0, 1), (1, 1), (2, 1), (3, 1)]) Tryd.underlying29 zo_29 (by kernel_rfl) (by kernel_rfl)) ?_
  refine Wl.q (v := iv n) (q_move rfl) ?_
  refine Wl.q (v := iv (n + 1)) (q_add (c := (n + 1)) rfl rfl (wrap_i64 (by omega) (by omega))) ?_
  refine Wl.q (v := Value.agg #[Value.int .u8 1, iv (n + 1), iv 0, iv 0]) (q_build (pl := [(0, 1), (1, 1), (2, 1), (3, 1)]) Tryd.underlying29 zo_29 (by kernel_rfl) (by kernel_rfl)) ?_
  refine Wl.q (v := iv n) (q_move rfl) ?_
  refine Wl.q (v := iv (n + 2)) (q_add (c := (n + 2)) rfl rfl (wrap_i64 (by omega) (by omega))) ?_
  refine Wl.q (v := Value.agg #[Value.int .u8 1, iv (n + 2), iv 0, iv 0]) (q_build (pl := [(0, 1), (1, 1), (2, 1), (3, 1)]) Tryd.underlying29 zo_29 (by kernel_rfl) (by kernel_rfl)) ?_
  refine Wl.e (e_buildSlice (cs := [Value.int .u8 1, iv n, iv 0, iv 0, Value.int .u8 1, iv (n + 1), iv 0, iv 0, Value.int .u8 1, iv (n + 2), iv 0, iv 0]) se_30 zo_29 (by decide) (by decide) (by kernel_rfl)) (fun b1 _ => ?_)
  refine Wl.e (e_call (F := F) (args := [Value.slice (some ⟨b1, 0, none⟩) 3 3]) Tryd.call5 rfl (ap2_Build W0 n hn b1)) (fun ⟨b2, b3⟩ _ => ?_)
  refine Wl.imp (L' := (pt b1 29 [Value.int .u8 1, iv n, iv 0, iv 0, Value.int .u8 1, iv (n + 1), iv 0, iv 0, Value.int .u8 1, iv (n + 2), iv 0, iv 0]) :: (storeW b2 (tl27_3 n)) :: (refW b3 (tl27_3 n)) :: F) (fun _ h => h) ?_
  refine Wl.q (v := Value.tuple #[pv b2, pv b3, Value.bool true]) (q_move rfl) ?_
  refine Wl.q (v := pv b2) (q_extract (i := 0) rfl rfl) ?_
  refine Wl.q (v := pv b3) (q_extract (i := 1) rfl rfl) ?_
  refine Wl.q (v := Value.bool true) (q_extract (i := 2) rfl rfl) ?_
  refine Wl.q (v := pv b2) (q_assign rfl) ?_
  refine Wl.q (v := pv b3) (q_assign rfl) ?_
  refine Wl.q (v := Value.bool true) (q_assign rfl) ?_
  refine Wl.done ?_
  refine Wx.go ?_
  refine Wc.seq ?_
  refine Wc.imp (L' := (storeW b2 (tl27_3 n)) :: F) (fun w hs => (st_drop (st_drop (st_pull [0, 1] hs)))) ?_
  refine Wc.region ?_
  refine Wl.q (v := pv b2) (q_move rfl) ?_
  refine Wl.e (e_call (F := F) (args := [pv b2, iv 1, iv 2, iv 3]) Tryd.call6 rfl (ap3_Next W0 n hn b2)) (fun _ _ => ?_)
  refine Wl.imp (L' := (storeW b2 (tl34_10 n)) :: F) (fun _ h => h) ?_
  refine Wl.q (v := Value.tuple #[Value.agg #[iv 5, iv 6, iv 7, iv 8, iv 9, iv 10], iv 0]) (q_move rfl) ?_
  refine Wl.q (v := Value.agg #[iv 5, iv 6, iv 7, iv 8, iv 9, iv 10]) (q_extract (i := 0) rfl rfl) ?_
  refine Wl.q (v := iv 0) (q_extract (i := 1) rfl rfl) ?_
  refine Wl.e (e_alloc (vs := [iv 0, iv 0, iv 0, iv 0, iv 0, iv 0]) zo_33 rfl) (fun b4 _ => ?_)
  refine Wl.e (e_storeAgg (i := 0) (vs := [iv 5, iv 6, iv 7, iv 8, iv 9, iv 10]) (c' := [iv 5, iv 6, iv 7, iv 8, iv 9, iv 10]) sz_33 rfl rfl rfl rfl (by simp) rfl) (fun _ _ => ?_)
  refine Wl.imp (L' := (pt b4 33 [iv 5, iv 6, iv 7, iv 8, iv 9, iv 10]) :: (storeW b2 (tl34_10 n)) :: F) (fun _ h => h) ?_
  refine Wl.q (v := iv 0) (q_assign rfl) ?_
  refine Wl.done ?_
  refine Wx.go ?_
  refine Wc.seq ?_
  refine Wc.seq ?_
  refine Wc.region ?_
  refine Wl.q (v := Value.bool true) (q_move rfl) ?_
  refine Wl.q (v := Value.bool false) (q_not rfl rfl) ?_
  refine Wl.q (v := Value.bool false) (q_move rfl) ?_
  refine Wl.q (v := iv 0) (q_move rfl) ?_
  refine Wl.q (v := Value.bool false) (q_neq (r := true) rfl rfl (decide_eq_true (by decide))) ?_
  refine Wl.q (v := Value.bool false) (q_pick (t := false) rfl rfl) ?_
  refine Wl.done ?_
  refine Wx.go ?_
  refine Wc.no rfl ?_
  refine Wc.skip ?_
  refine Wx.go ?_
  refine Wc.seq ?_
  refine Wc.region ?_
  refine Wl.q (v := Value.pointer (some ⟨b4, 2, none⟩)) (q_field (m := 2) fo_33_2 rfl rfl) ?_
  refine Wl.q (v := iv 7) (q_load sc_3 rfl (.cel (i := 0) rfl rfl)) ?_
  refine Wl.q (v := Value.pointer (some ⟨b4, 3, none⟩)) (q_field (m := 3) fo_33_3 rfl rfl) ?_
  refine Wl.q (v := iv 8) (q_load sc_3 rfl (.cel (i := 0) rfl rfl)) ?_
  refine Wl.q (v := Value.pointer (some ⟨b4, 4, none⟩)) (q_field (m := 4) fo_33_4 rfl rfl) ?_
  refine Wl.q (v := iv 9) (q_load sc_3 rfl (.cel (i := 0) rfl rfl)) ?_
  refine Wl.q (v := Value.pointer (some ⟨b4, 5, none⟩)) (q_field (m := 5) fo_33_5 rfl rfl) ?_
  refine Wl.q (v := iv 10) (q_load sc_3 rfl (.cel (i := 0) rfl rfl)) ?_
  refine Wl.e (e_buildSlice (cs := [iv 7, iv 8, iv 9, iv 10]) se_31 zo_3 (by decide) (by decide) (by kernel_rfl)) (fun b5 _ => ?_)
  refine Wl.q (v := Value.slice (some ⟨b5, 0, none⟩) 4 4) (q_assign rfl) ?_
  refine Wl.done ?_
  refine Wx.go ?_
  refine Wc.seq ?_
  refine Wc.region ?_
  refine Wl.q (v := pv b2) (q_move rfl) ?_
  refine Wl.q (v := Value.slice (some ⟨b5, 0, none⟩) 4 4) (q_move rfl) ?_
  refine Wl.q (v := iv 1) (q_move rfl) ?_
  refine Wl.q (v := Value.pointer (some ⟨b5, 1, none⟩)) (q_idx (m := 1) se_31 rfl rfl (by omega) (by omega) rfl) ?_
  refine Wl.q (v := iv 8) (q_load sc_3 rfl (.cel (i := 0) rfl rfl)) ?_
  refine Wl.e (e_buildSlice (cs := [iv 8, iv 3]) se_31 zo_3 (by decide) (by decide) (by kernel_rfl)) (fun b6 _ => ?_)
  refine Wl.imp (L' := (storeW b2 (tl34_10 n)) :: (pt b6 3 [iv 8, iv 3]) :: (pt b5 3 [iv 7, iv 8, iv 9, iv 10]) :: (pt b4 33 [iv 5, iv 6, iv 7, iv 8, iv 9, iv 10]) :: F) (fun _ h => st_pull [3, 0] h) ?_
  refine Wl.e (e_call (F := (pt b5 3 [iv 7, iv 8, iv 9, iv 10]) :: (pt b4 33 [iv 5, iv 6, iv 7, iv 8, iv 9, iv 10]) :: F) (args := [pv b2, Value.slice (some ⟨b6, 0, none⟩) 2 2]) Tryd.call8 rfl (dnew_w W0 b2 (tl34_10 n) b6 2 [8, 3] 2 [iv 8, iv 3] rfl rfl (by kernel_rfl))) (fun k7 _ => ?_)
  refine Wl.imp (L' := (knowK k7 b2 (tl34_10 n) (KL [8, 3])) :: (storeW b2 (tl34_10 n)) :: (pt b6 3 [iv 8, iv 3]) :: (pt b5 3 [iv 7, iv 8, iv 9, iv 10]) :: (pt b4 33 [iv 5, iv 6, iv 7, iv 8, iv 9, iv 10]) :: F) (fun _ h => h) ?_
  refine Wl.q (v := Value.tuple #[pv k7, iv 0]) (q_move rfl) ?_
  refine Wl.q (v := pv k7) (q_extract (i := 0) rfl rfl) ?_
  refine Wl.q (v := iv 0) (q_extract (i := 1) rfl rfl) ?_
  refine Wl.q (v := pv k7) (q_assign rfl) ?_
  refine Wl.q (v := iv 0) (q_assign rfl) ?_
  refine Wl.done ?_
  refine Wx.go ?_
  refine Wc.seq ?_
  refine Wc.region ?_
  refine Wl.q (v := pv b2) (q_move rfl) ?_
  refine Wl.q (v := Value.pointer (some ⟨b4, 1, none⟩)) (q_field (m := 1) fo_33_1 rfl rfl) ?_
  refine Wl.q (v := iv 6) (q_load sc_3 rfl (.cel (i := 4) rfl rfl)) ?_
  refine Wl.e (e_buildSlice (cs := [iv 6, iv 3]) se_31 zo_3 (by decide) (by decide) (by kernel_rfl)) (fun b8 _ => ?_)
  refine Wl.imp (L' := (storeW b2 (tl34_10 n)) :: (pt b8 3 [iv 6, iv 3]) :: (knowK k7 b2 (tl34_10 n) (KL [8, 3])) :: (pt b6 3 [iv 8, iv 3]) :: (pt b5 3 [iv 7, iv 8, iv 9, iv 10]) :: (pt b4 33 [iv 5, iv 6, iv 7, iv 8, iv 9, iv 10]) :: F) (fun _ h => st_pull [2, 0] h) ?_
  refine Wl.e (e_call (F := (knowK k7 b2 (tl34_10 n) (KL [8, 3])) :: (pt b6 3 [iv 8, iv 3]) :: (pt b5 3 [iv 7, iv 8, iv 9, iv 10]) :: (pt b4 33 [iv 5, iv 6, iv 7, iv 8, iv 9, iv 10]) :: F) (args := [pv b2, Value.slice (some ⟨b8, 0, none⟩) 2 2]) Tryd.call8 rfl (dnew_w W0 b2 (tl34_10 n) b8 2 [6, 3] 2 [iv 6, iv 3] rfl rfl (by kernel_rfl))) (fun k9 _ => ?_)
  refine Wl.imp (L' := (knowK k9 b2 (tl34_10 n) (KL [6, 3])) :: (storeW b2 (tl34_10 n)) :: (pt b8 3 [iv 6, iv 3]) :: (knowK k7 b2 (tl34_10 n) (KL [8, 3])) :: (pt b6 3 [iv 8, iv 3]) :: (pt b5 3 [iv 7, iv 8, iv 9, iv 10]) :: (pt b4 33 [iv 5, iv 6, iv 7, iv 8, iv 9, iv 10]) :: F) (fun _ h => h) ?_
  refine Wl.q (v := Value.tuple #[pv k9, iv 0]) (q_move rfl) ?_
  refine Wl.q (v := pv k9) (q_extract (i := 0) rfl rfl) ?_
  refine Wl.q (v := iv 0) (q_extract (i := 1) rfl rfl) ?_
  refine Wl.q (v := pv k9) (q_assign rfl) ?_
  refine Wl.q (v := iv 0) (q_assign rfl) ?_
  refine Wl.done ?_
  refine Wx.go ?_
  refine Wc.seq ?_
  refine Wc.imp (L' := (knowK k9 b2 (tl34_10 n) (KL [6, 3])) :: (storeW b2 (tl34_10 n)) :: (knowK k7 b2 (tl34_10 n) (KL [8, 3])) :: (pt b5 3 [iv 7, iv 8, iv 9, iv 10]) :: (pt b4 33 [iv 5, iv 6, iv 7, iv 8, iv 9, iv 10]) :: F) (fun w hs => (st_drop (st_drop (st_pull [2, 3] hs)))) ?_
  refine Wc.region ?_
  refine Wl.q (v := pv b2) (q_move rfl) ?_
  refine Wl.e (e_buildSlice (cs := [iv 1, iv 3]) se_31 zo_3 (by decide) (by decide) (by kernel_rfl)) (fun b10 _ => ?_)
  refine Wl.imp (L' := (storeW b2 (tl34_10 n)) :: (pt b10 3 [iv 1, iv 3]) :: (knowK k9 b2 (tl34_10 n) (KL [6, 3])) :: (knowK k7 b2 (tl34_10 n) (KL [8, 3])) :: (pt b5 3 [iv 7, iv 8, iv 9, iv 10]) :: (pt b4 33 [iv 5, iv 6, iv 7, iv 8, iv 9, iv 10]) :: F) (fun _ h => st_pull [2, 0] h) ?_
  refine Wl.e (e_call (F := (knowK k9 b2 (tl34_10 n) (KL [6, 3])) :: (knowK k7 b2 (tl34_10 n) (KL [8, 3])) :: (pt b5 3 [iv 7, iv 8, iv 9, iv 10]) :: (pt b4 33 [iv 5, iv 6, iv 7, iv 8, iv 9, iv 10]) :: F) (args := [pv b2, Value.slice (some ⟨b10, 0, none⟩) 2 2]) Tryd.call8 rfl (dnew_w W0 b2 (tl34_10 n) b10 2 [1, 3] 2 [iv 1, iv 3] rfl rfl (by kernel_rfl))) (fun k11 _ => ?_)
  refine Wl.imp (L' := (knowK k11 b2 (tl34_10 n) (KL [1, 3])) :: (storeW b2 (tl34_10 n)) :: (pt b10 3 [iv 1, iv 3]) :: (knowK k9 b2 (tl34_10 n) (KL [6, 3])) :: (knowK k7 b2 (tl34_10 n) (KL [8, 3])) :: (pt b5 3 [iv 7, iv 8, iv 9, iv 10]) :: (pt b4 33 [iv 5, iv 6, iv 7, iv 8, iv 9, iv 10]) :: F) (fun _ h => h) ?_
  refine Wl.q (v := Value.tuple #[pv k11, iv 0]) (q_move rfl) ?_
  refine Wl.q (v := pv k11) (q_extract (i := 0) rfl rfl) ?_
  refine Wl.q (v := iv 0) (q_extract (i := 1) rfl rfl) ?_
  refine Wl.q (v := pv k11) (q_assign rfl) ?_
  refine Wl.q (v := iv 0) (q_assign rfl) ?_
  refine Wl.done ?_
  refine Wx.go ?_
  refine Wc.seq ?_
  refine Wc.seq ?_
  refine Wc.region ?_
  refine Wl.q (v := iv 0) (q_move rfl) ?_
  refine Wl.q (v := Value.bool false) (q_neq (r := true) rfl rfl (decide_eq_true (by decide))) ?_
  refine Wl.q (v := Value.bool false) (q_move rfl) ?_
  refine Wl.q (v := iv 0) (q_move rfl) ?_
  refine Wl.q (v := Value.bool false) (q_neq (r := true) rfl rfl (decide_eq_true (by decide))) ?_
  refine Wl.q (v := Value.bool false) (q_pick (t := false) rfl rfl) ?_
  refine Wl.q (v := Value.bool false) (q_move rfl) ?_
  refine Wl.q (v := iv 0) (q_move rfl) ?_
  refine Wl.q (v := Value.bool false) (q_neq (r := true) rfl rfl (decide_eq_true (by decide))) ?_
  refine Wl.q (v := Value.bool false) (q_pick (t := false) rfl rfl) ?_
  refine Wl.q (v := Value.bool false) (q_move rfl) ?_
  refine Wl.q (v := pv k7) (q_move rfl) ?_
  refine Wl.q (v := Value.pointer (some ⟨b4, 1, none⟩)) (q_field (m := 1) fo_33_1 rfl rfl) ?_
  refine Wl.q (v := iv 6) (q_load sc_3 rfl (.cel (i := 6) rfl rfl)) ?_
  refine Wl.imp (L' := (storeW b2 (tl34_10 n)) :: (knowK k7 b2 (tl34_10 n) (KL [8, 3])) :: (knowK k11 b2 (tl34_10 n) (KL [1, 3])) :: (pt b10 3 [iv 1, iv 3]) :: (knowK k9 b2 (tl34_10 n) (KL [6, 3])) :: (pt b5 3 [iv 7, iv 8, iv 9, iv 10]) :: (pt b4 33 [iv 5, iv 6, iv 7, iv 8, iv 9, iv 10]) :: F) (fun _ h => st_pull [1, 3] h) ?_
  refine Wl.e (e_call (F := (knowK k11 b2 (tl34_10 n) (KL [1, 3])) :: (pt b10 3 [iv 1, iv 3]) :: (knowK k9 b2 (tl34_10 n) (KL [6, 3])) :: (pt b5 3 [iv 7, iv 8, iv 9, iv 10]) :: (pt b4 33 [iv 5, iv 6, iv 7, iv 8, iv 9, iv 10]) :: F) (args := [pv k7, iv 6]) Tryd.call9 rfl (khas_w W0 k7 b2 (tl34_10 n) (KL [8, 3]) 6 (der_no [0, 8, 3] (by kernel_rfl)))) (fun _ _ => ?_)
  refine Wl.imp (L' := (storeW b2 (tl34_10 n)) :: (knowK k7 b2 (tl34_10 n) (KL [8, 3])) :: (knowK k11 b2 (tl34_10 n) (KL [1, 3])) :: (pt b10 3 [iv 1, iv 3]) :: (knowK k9 b2 (tl34_10 n) (KL [6, 3])) :: (pt b5 3 [iv 7, iv 8, iv 9, iv 10]) :: (pt b4 33 [iv 5, iv 6, iv 7, iv 8, iv 9, iv 10]) :: F) (fun _ h => h) ?_
  refine Wl.q (v := Value.bool false) (q_pick (t := false) rfl rfl) ?_
  refine Wl.q (v := Value.bool false) (q_move rfl) ?_
  refine Wl.q (v := pv k7) (q_move rfl) ?_
  refine Wl.q (v := pv b4) (q_field (m := 0) fo_33_0 rfl rfl) ?_
  refine Wl.q (v := iv 5) (q_load sc_3 rfl (.cel (i := 6) rfl rfl)) ?_
  refine Wl.e (e_call (F := (knowK k11 b2 (tl34_10 n) (KL [1, 3])) :: (pt b10 3 [iv 1, iv 3]) :: (knowK k9 b2 (tl34_10 n) (KL [6, 3])) :: (pt b5 3 [iv 7, iv 8, iv 9, iv 10]) :: (pt b4 33 [iv 5, iv 6, iv 7, iv 8, iv 9, iv 10]) :: F) (args := [pv k7, iv 5]) Tryd.call9 rfl (khas_w W0 k7 b2 (tl34_10 n) (KL [8, 3]) 5 (der_no [0, 8, 3] (by kernel_rfl)))) (fun _ _ => ?_)
  refine Wl.imp (L' := (storeW b2 (tl34_10 n)) :: (knowK k7 b2 (tl34_10 n) (KL [8, 3])) :: (knowK k11 b2 (tl34_10 n) (KL [1, 3])) :: (pt b10 3 [iv 1, iv 3]) :: (knowK k9 b2 (tl34_10 n) (KL [6, 3])) :: (pt b5 3 [iv 7, iv 8, iv 9, iv 10]) :: (pt b4 33 [iv 5, iv 6, iv 7, iv 8, iv 9, iv 10]) :: F) (fun _ h => h) ?_
  refine Wl.q (v := Value.bool false) (q_pick (t := false) rfl rfl) ?_
  refine Wl.q (v := Value.bool false) (q_move rfl) ?_
  refine Wl.q (v := pv k9) (q_move rfl) ?_
  refine Wl.q (v := pv b4) (q_field (m := 0) fo_33_0 rfl rfl) ?_
  refine Wl.q (v := iv 5) (q_load sc_3 rfl (.cel (i := 6) rfl rfl)) ?_
  refine Wl.imp (L' := (storeW b2 (tl34_10 n)) :: (knowK k9 b2 (tl34_10 n) (KL [6, 3])) :: (knowK k7 b2 (tl34_10 n) (KL [8, 3])) :: (knowK k11 b2 (tl34_10 n) (KL [1, 3])) :: (pt b10 3 [iv 1, iv 3]) :: (pt b5 3 [iv 7, iv 8, iv 9, iv 10]) :: (pt b4 33 [iv 5, iv 6, iv 7, iv 8, iv 9, iv 10]) :: F) (fun _ h => st_pull [0, 3] h) ?_
  refine Wl.e (e_call (F := (knowK k7 b2 (tl34_10 n) (KL [8, 3])) :: (knowK k11 b2 (tl34_10 n) (KL [1, 3])) :: (pt b10 3 [iv 1, iv 3]) :: (pt b5 3 [iv 7, iv 8, iv 9, iv 10]) :: (pt b4 33 [iv 5, iv 6, iv 7, iv 8, iv 9, iv 10]) :: F) (args := [pv k9, iv 5]) Tryd.call9 rfl (khas_w W0 k9 b2 (tl34_10 n) (KL [6, 3]) 5 (der_no [0, 6, 3, 7, 8, 9, 10] (by kernel_rfl)))) (fun _ _ => ?_)
  refine Wl.imp (L' := (storeW b2 (tl34_10 n)) :: (knowK k9 b2 (tl34_10 n) (KL [6, 3])) :: (knowK k7 b2 (tl34_10 n) (KL [8, 3])) :: (knowK k11 b2 (tl34_10 n) (KL [1, 3])) :: (pt b10 3 [iv 1, iv 3]) :: (pt b5 3 [iv 7, iv 8, iv 9, iv 10]) :: (pt b4 33 [iv 5, iv 6, iv 7, iv 8, iv 9, iv 10]) :: F) (fun _ h => h) ?_
  refine Wl.q (v := Value.bool false) (q_pick (t := false) rfl rfl) ?_
  refine Wl.q (v := Value.bool false) (q_move rfl) ?_
  refine Wl.q (v := pv k11) (q_move rfl) ?_
  refine Wl.q (v := pv b4) (q_field (m := 0) fo_33_0 rfl rfl) ?_
  refine Wl.q (v := iv 5) (q_load sc_3 rfl (.cel (i := 6) rfl rfl)) ?_
  refine Wl.imp (L' := (storeW b2 (tl34_10 n)) :: (knowK k11 b2 (tl34_10 n) (KL [1, 3])) :: (knowK k9 b2 (tl34_10 n) (KL [6, 3])) :: (knowK k7 b2 (tl34_10 n) (KL [8, 3])) :: (pt b10 3 [iv 1, iv 3]) :: (pt b5 3 [iv 7, iv 8, iv 9, iv 10]) :: (pt b4 33 [iv 5, iv 6, iv 7, iv 8, iv 9, iv 10]) :: F) (fun _ h => st_pull [0, 2] h) ?_
  refine Wl.e (e_call (F := (knowK k9 b2 (tl34_10 n) (KL [6, 3])) :: (knowK k7 b2 (tl34_10 n) (KL [8, 3])) :: (pt b10 3 [iv 1, iv 3]) :: (pt b5 3 [iv 7, iv 8, iv 9, iv 10]) :: (pt b4 33 [iv 5, iv 6, iv 7, iv 8, iv 9, iv 10]) :: F) (args := [pv k11, iv 5]) Tryd.call9 rfl (khas_w W0 k11 b2 (tl34_10 n) (KL [1, 3]) 5 (der_no [0, 1, 3] (by kernel_rfl)))) (fun _ _ => ?_)
  refine Wl.imp (L' := (storeW b2 (tl34_10 n)) :: (knowK k11 b2 (tl34_10 n) (KL [1, 3])) :: (knowK k9 b2 (tl34_10 n) (KL [6, 3])) :: (knowK k7 b2 (tl34_10 n) (KL [8, 3])) :: (pt b10 3 [iv 1, iv 3]) :: (pt b5 3 [iv 7, iv 8, iv 9, iv 10]) :: (pt b4 33 [iv 5, iv 6, iv 7, iv 8, iv 9, iv 10]) :: F) (fun _ h => h) ?_
  refine Wl.q (v := Value.bool false) (q_pick (t := false) rfl rfl) ?_
  refine Wl.q (v := Value.bool false) (q_move rfl) ?_
  refine Wl.q (v := pv k11) (q_move rfl) ?_
  refine Wl.q (v := Value.pointer (some ⟨b4, 1, none⟩)) (q_field (m := 1) fo_33_1 rfl rfl) ?_
  refine Wl.q (v := iv 6) (q_load sc_3 rfl (.cel (i := 6) rfl rfl)) ?_
  refine Wl.e (e_call (F := (knowK k9 b2 (tl34_10 n) (KL [6, 3])) :: (knowK k7 b2 (tl34_10 n) (KL [8, 3])) :: (pt b10 3 [iv 1, iv 3]) :: (pt b5 3 [iv 7, iv 8, iv 9, iv 10]) :: (pt b4 33 [iv 5, iv 6, iv 7, iv 8, iv 9, iv 10]) :: F) (args := [pv k11, iv 6]) Tryd.call9 rfl (khas_w W0 k11 b2 (tl34_10 n) (KL [1, 3]) 6 (der_no [0, 1, 3] (by kernel_rfl)))) (fun _ _ => ?_)
  refine Wl.imp (L' := (storeW b2 (tl34_10 n)) :: (knowK k11 b2 (tl34_10 n) (KL [1, 3])) :: (knowK k9 b2 (tl34_10 n) (KL [6, 3])) :: (knowK k7 b2 (tl34_10 n) (KL [8, 3])) :: (pt b10 3 [iv 1, iv 3]) :: (pt b5 3 [iv 7, iv 8, iv 9, iv 10]) :: (pt b4 33 [iv 5, iv 6, iv 7, iv 8, iv 9, iv 10]) :: F) (fun _ h => h) ?_
  refine Wl.q (v := Value.bool false) (q_pick (t := false) rfl rfl) ?_
  refine Wl.done ?_
  refine Wx.go ?_
  refine Wc.no rfl ?_
  refine Wc.skip ?_
  refine Wx.go ?_
  refine Wc.seq ?_
  refine Wc.seq ?_
  refine Wc.imp (L' := (storeW b2 (tl34_10 n)) :: (knowK k11 b2 (tl34_10 n) (KL [1, 3])) :: (knowK k9 b2 (tl34_10 n) (KL [6, 3])) :: (knowK k7 b2 (tl34_10 n) (KL [8, 3])) :: (pt b5 3 [iv 7, iv 8, iv 9, iv 10]) :: F) (fun w hs => (st_drop (st_drop (st_pull [4, 5] hs)))) ?_
  refine Wc.region ?_
  refine Wl.q (v := iv 0) (q_assign rfl) ?_
  refine Wl.done ?_
  refine Wx.go ?_
  refine Wc.block ?_
  refine Wc.rounds 64 ?_
  refine Wn.round ?_
  refine Wc.seq ?_
  refine Wc.seq ?_
  refine Wc.region ?_
  refine Wl.q (v := iv 0) (q_move rfl) ?_
  refine Wl.q (v := Value.bool true) (q_lss (r := true) rfl rfl (decide_eq_true (by decide))) ?_
  refine Wl.done ?_
  refine Wx.go ?_
  refine Wc.yes rfl ?_
  refine Wc.skip ?_
  refine Wx.go ?_
  refine Wc.seq ?_
  refine Wc.block ?_
  refine Wc.seq ?_
  refine Wc.region ?_
  refine Wl.q (v := pv k7) (q_move rfl) ?_
  refine Wl.q (v := Value.slice (some ⟨b5, 0, none⟩) 4 4) (q_move rfl) ?_
  refine Wl.q (v := iv 0) (q_move rfl) ?_
  refine Wl.q (v := pv b5) (q_idx (m := 0) se_31 rfl rfl (by omega) (by omega) rfl) ?_
  refine Wl.q (v := iv 7) (q_load sc_3 rfl (.cel (i := 4) rfl rfl)) ?_
  refine Wl.imp (L' := (storeW b2 (tl34_10 n)) :: (knowK k7 b2 (tl34_10 n) (KL [8, 3])) :: (knowK k11 b2 (tl34_10 n) (KL [1, 3])) :: (knowK k9 b2 (tl34_10 n) (KL [6, 3])) :: (pt b5 3 [iv 7, iv 8, iv 9, iv 10]) :: F) (fun _ h => st_pull [0, 2] h) ?_
  refine Wl.e (e_call (F := (knowK k11 b2 (tl34_10 n) (KL [1, 3])) :: (knowK k9 b2 (tl34_10 n) (KL [6, 3])) :: (pt b5 3 [iv 7, iv 8, iv 9, iv 10]) :: F) (args := [pv k7, iv 7]) Tryd.call9 rfl (khas_w W0 k7 b2 (tl34_10 n) (KL [8, 3]) 7 (der_no [0, 8, 3] (by kernel_rfl)))) (fun _ _ => ?_)
  refine Wl.imp (L' := (storeW b2 (tl34_10 n)) :: (knowK k7 b2 (tl34_10 n) (KL [8, 3])) :: (knowK k11 b2 (tl34_10 n) (KL [1, 3])) :: (knowK k9 b2 (tl34_10 n) (KL [6, 3])) :: (pt b5 3 [iv 7, iv 8, iv 9, iv 10]) :: F) (fun _ h => h) ?_
  refine Wl.q (v := iv 0) (q_move rfl) ?_
  refine Wl.q (v := iv 1) (q_move rfl) ?_
  refine Wl.q (v := Value.bool false) (q_eql (r := false) rfl rfl (decide_eq_false (by decide))) ?_
  refine Wl.q (v := Value.bool false) (q_neq_bool (r := true) rfl rfl Tryd.underlying4 rfl) ?_
  refine Wl.q (v := Value.bool false) (q_move rfl) ?_
  refine Wl.q (v := pv k9) (q_move rfl) ?_
  refine Wl.q (v := Value.slice (some ⟨b5, 0, none⟩) 4 4) (q_move rfl) ?_
  refine Wl.q (v := iv 0) (q_move rfl) ?_
  refine Wl.q (v := pv b5) (q_idx (m := 0) se_31 rfl rfl (by omega) (by omega) rfl) ?_
  refine Wl.q (v := iv 7) (q_load sc_3 rfl (.cel (i := 4) rfl rfl)) ?_
  refine Wl.imp (L' := (storeW b2 (tl34_10 n)) :: (knowK k9 b2 (tl34_10 n) (KL [6, 3])) :: (knowK k7 b2 (tl34_10 n) (KL [8, 3])) :: (knowK k11 b2 (tl34_10 n) (KL [1, 3])) :: (pt b5 3 [iv 7, iv 8, iv 9, iv 10]) :: F) (fun _ h => st_pull [0, 2] h) ?_
  refine Wl.e (e_call (F := (knowK k7 b2 (tl34_10 n) (KL [8, 3])) :: (knowK k11 b2 (tl34_10 n) (KL [1, 3])) :: (pt b5 3 [iv 7, iv 8, iv 9, iv 10]) :: F) (args := [pv k9, iv 7]) Tryd.call9 rfl (khas_w W0 k9 b2 (tl34_10 n) (KL [6, 3]) 7 (der_yes [6, 3, 7, 8, 9, 10] (by kernel_rfl)))) (fun _ _ => ?_)
  refine Wl.imp (L' := (storeW b2 (tl34_10 n)) :: (knowK k9 b2 (tl34_10 n) (KL [6, 3])) :: (knowK k7 b2 (tl34_10 n) (KL [8, 3])) :: (knowK k11 b2 (tl34_10 n) (KL [1, 3])) :: (pt b5 3 [iv 7, iv 8, iv 9, iv 10]) :: F) (fun _ h => h) ?_
  refine Wl.q (v := Value.bool false) (q_not rfl rfl) ?_
  refine Wl.q (v := Value.bool false) (q_pick (t := false) rfl rfl) ?_
  refine Wl.q (v := Value.bool false) (q_move rfl) ?_
  refine Wl.q (v := pv k11) (q_move rfl) ?_
  refine Wl.q (v := Value.slice (some ⟨b5, 0, none⟩) 4 4) (q_move rfl) ?_
  refine Wl.q (v := iv 0) (q_move rfl) ?_
  refine Wl.q (v := pv b5) (q_idx (m := 0) se_31 rfl rfl (by omega) (by omega) rfl) ?_
  refine Wl.q (v := iv 7) (q_load sc_3 rfl (.cel (i := 4) rfl rfl)) ?_
  refine Wl.imp (L' := (storeW b2 (tl34_10 n)) :: (knowK k11 b2 (tl34_10 n) (KL [1, 3])) :: (knowK k9 b2 (tl34_10 n) (KL [6, 3])) :: (knowK k7 b2 (tl34_10 n) (KL [8, 3])) :: (pt b5 3 [iv 7, iv 8, iv 9, iv 10]) :: F) (fun _ h => st_pull [0, 2] h) ?_
  refine Wl.e (e_call (F := (knowK k9 b2 (tl34_10 n) (KL [6, 3])) :: (knowK k7 b2 (tl34_10 n) (KL [8, 3])) :: (pt b5 3 [iv 7, iv 8, iv 9, iv 10]) :: F) (args := [pv k11, iv 7]) Tryd.call9 rfl (khas_w W0 k11 b2 (tl34_10 n) (KL [1, 3]) 7 (der_no [0, 1, 3] (by kernel_rfl)))) (fun _ _ => ?_)
  refine Wl.imp (L' := (storeW b2 (tl34_10 n)) :: (knowK k11 b2 (tl34_10 n) (KL [1, 3])) :: (knowK k9 b2 (tl34_10 n) (KL [6, 3])) :: (knowK k7 b2 (tl34_10 n) (KL [8, 3])) :: (pt b5 3 [iv 7, iv 8, iv 9, iv 10]) :: F) (fun _ h => h) ?_
  refine Wl.q (v := Value.bool false) (q_pick (t := false) rfl rfl) ?_
  refine Wl.done ?_
  refine Wx.go ?_
  refine Wc.no rfl ?_
  refine Wc.skip ?_
  refine Wx.blockEnd ?_
  refine Wx.go ?_
  refine Wc.region ?_
  refine Wl.q (v := iv 0) (q_move rfl) ?_
  refine Wl.q (v := iv 1) (q_add (c := 1) rfl rfl (by decide)) ?_
  refine Wl.q (v := iv 1) (q_assign rfl) ?_
  refine Wl.done ?_
  refine Wx.again ?_
  refine Wn.round ?_
  refine Wc.seq ?_
  refine Wc.seq ?_
  refine Wc.region ?_
  refine Wl.q (v := iv 1) (q_move rfl) ?_
  refine Wl.q (v := Value.bool true) (q_lss (r := true) rfl rfl (decide_eq_true (by decide))) ?_
  refine Wl.done ?_
  refine Wx.go ?_
  refine Wc.yes rfl ?_
  refine Wc.skip ?_
  refine Wx.go ?_
  refine Wc.seq ?_
  refine Wc.block ?_
  refine Wc.seq ?_
  refine Wc.region ?_
  refine Wl.q (v := pv k7) (q_move rfl) ?_
  refine Wl.q (v := Value.slice (some ⟨b5, 0, none⟩) 4 4) (q_move rfl) ?_
  refine Wl.q (v := iv 1) (q_move rfl) ?_
  refine Wl.q (v := Value.pointer (some ⟨b5, 1, none⟩)) (q_idx (m := 1) se_31 rfl rfl (by omega) (by omega) rfl) ?_
  refine Wl.q (v := iv 8) (q_load sc_3 rfl (.cel (i := 4) rfl rfl)) ?_
  refine Wl.imp (L' := (storeW b2 (tl34_10 n)) :: (knowK k7 b2 (tl34_10 n) (KL [8, 3])) :: (knowK k11 b2 (tl34_10 n) (KL [1, 3])) :: (knowK k9 b2 (tl34_10 n) (KL [6, 3])) :: (pt b5 3 [iv 7, iv 8, iv 9, iv 10]) :: F) (fun _ h => st_pull [0, 2] h) ?_
  refine Wl.e (e_call (F := (knowK k11 b2 (tl34_10 n) (KL [1, 3])) :: (knowK k9 b2 (tl34_10 n) (KL [6, 3])) :: (pt b5 3 [iv 7, iv 8, iv 9, iv 10]) :: F) (args := [pv k7, iv 8]) Tryd.call9 rfl (khas_w W0 k7 b2 (tl34_10 n) (KL [8, 3]) 8 (der_yes [8, 3] (by kernel_rfl)))) (fun _ _ => ?_)
  refine Wl.imp (L' := (storeW b2 (tl34_10 n)) :: (knowK k7 b2 (tl34_10 n) (KL [8, 3])) :: (knowK k11 b2 (tl34_10 n) (KL [1, 3])) :: (knowK k9 b2 (tl34_10 n) (KL [6, 3])) :: (pt b5 3 [iv 7, iv 8, iv 9, iv 10]) :: F) (fun _ h => h) ?_
  refine Wl.q (v := iv 1) (q_move rfl) ?_
  refine Wl.q (v := iv 1) (q_move rfl) ?_
  refine Wl.q (v := Value.bool true) (q_eql (r := true) rfl rfl (decide_eq_true (by decide))) ?_
  refine Wl.q (v := Value.bool false) (q_neq_bool (r := true) rfl rfl Tryd.underlying4 rfl) ?_
  refine Wl.q (v := Value.bool false) (q_move rfl) ?_
  refine Wl.q (v := pv k9) (q_move rfl) ?_
  refine Wl.q (v := Value.slice (some ⟨b5, 0, none⟩) 4 4) (q_move rfl) ?_
  refine Wl.q (v := iv 1) (q_move rfl) ?_
  refine Wl.q (v := Value.pointer (some ⟨b5, 1, none⟩)) (q_idx (m := 1) se_31 rfl rfl (by omega) (by omega) rfl) ?_
  refine Wl.q (v := iv 8) (q_load sc_3 rfl (.cel (i := 4) rfl rfl)) ?_
  refine Wl.imp (L' := (storeW b2 (tl34_10 n)) :: (knowK k9 b2 (tl34_10 n) (KL [6, 3])) :: (knowK k7 b2 (tl34_10 n) (KL [8, 3])) :: (knowK k11 b2 (tl34_10 n) (KL [1, 3])) :: (pt b5 3 [iv 7, iv 8, iv 9, iv 10]) :: F) (fun _ h => st_pull [0, 2] h) ?_
  refine Wl.e (e_call (F := (knowK k7 b2 (tl34_10 n) (KL [8, 3])) :: (knowK k11 b2 (tl34_10 n) (KL [1, 3])) :: (pt b5 3 [iv 7, iv 8, iv 9, iv 10]) :: F) (args := [pv k9, iv 8]) Tryd.call9 rfl (khas_w W0 k9 b2 (tl34_10 n) (KL [6, 3]) 8 (der_yes [6, 3, 7, 8, 9, 10] (by kernel_rfl)))) (fun _ _ => ?_)
  refine Wl.imp (L' := (storeW b2 (tl34_10 n)) :: (knowK k9 b2 (tl34_10 n) (KL [6, 3])) :: (knowK k7 b2 (tl34_10 n) (KL [8, 3])) :: (knowK k11 b2 (tl34_10 n) (KL [1, 3])) :: (pt b5 3 [iv 7, iv 8, iv 9, iv 10]) :: F) (fun _ h => h) ?_
  refine Wl.q (v := Value.bool false) (q_not rfl rfl) ?_
  refine Wl.q (v := Value.bool false) (q_pick (t := false) rfl rfl) ?_
  refine Wl.q (v := Value.bool false) (q_move rfl) ?_
  refine Wl.q (v := pv k11) (q_move rfl) ?_
  refine Wl.q (v := Value.slice (some ⟨b5, 0, none⟩) 4 4) (q_move rfl) ?_
  refine Wl.q (v := iv 1) (q_move rfl) ?_
  refine Wl.q (v := Value.pointer (some ⟨b5, 1, none⟩)) (q_idx (m := 1) se_31 rfl rfl (by omega) (by omega) rfl) ?_
  refine Wl.q (v := iv 8) (q_load sc_3 rfl (.cel (i := 4) rfl rfl)) ?_
  refine Wl.imp (L' := (storeW b2 (tl34_10 n)) :: (knowK k11 b2 (tl34_10 n) (KL [1, 3])) :: (knowK k9 b2 (tl34_10 n) (KL [6, 3])) :: (knowK k7 b2 (tl34_10 n) (KL [8, 3])) :: (pt b5 3 [iv 7, iv 8, iv 9, iv 10]) :: F) (fun _ h => st_pull [0, 2] h) ?_
  refine Wl.e (e_call (F := (knowK k9 b2 (tl34_10 n) (KL [6, 3])) :: (knowK k7 b2 (tl34_10 n) (KL [8, 3])) :: (pt b5 3 [iv 7, iv 8, iv 9, iv 10]) :: F) (args := [pv k11, iv 8]) Tryd.call9 rfl (khas_w W0 k11 b2 (tl34_10 n) (KL [1, 3]) 8 (der_no [0, 1, 3] (by kernel_rfl)))) (fun _ _ => ?_)
  refine Wl.imp (L' := (storeW b2 (tl34_10 n)) :: (knowK k11 b2 (tl34_10 n) (KL [1, 3])) :: (knowK k9 b2 (tl34_10 n) (KL [6, 3])) :: (knowK k7 b2 (tl34_10 n) (KL [8, 3])) :: (pt b5 3 [iv 7, iv 8, iv 9, iv 10]) :: F) (fun _ h => h) ?_
  refine Wl.q (v := Value.bool false) (q_pick (t := false) rfl rfl) ?_
  refine Wl.done ?_
  refine Wx.go ?_
  refine Wc.no rfl ?_
  refine Wc.skip ?_
  refine Wx.blockEnd ?_
  refine Wx.go ?_
  refine Wc.region ?_
  refine Wl.q (v := iv 1) (q_move rfl) ?_
  refine Wl.q (v := iv 2) (q_add (c := 2) rfl rfl (by decide)) ?_
  refine Wl.q (v := iv 2) (q_assign rfl) ?_
  refine Wl.done ?_
  refine Wx.again ?_
  refine Wn.round ?_
  refine Wc.seq ?_
  refine Wc.seq ?_
  refine Wc.region ?_
  refine Wl.q (v := iv 2) (q_move rfl) ?_
  refine Wl.q (v := Value.bool true) (q_lss (r := true) rfl rfl (decide_eq_true (by decide))) ?_
  refine Wl.done ?_
  refine Wx.go ?_
  refine Wc.yes rfl ?_
  refine Wc.skip ?_
  refine Wx.go ?_
  refine Wc.seq ?_
  refine Wc.block ?_
  refine Wc.seq ?_
  refine Wc.region ?_
  refine Wl.q (v := pv k7) (q_move rfl) ?_
  refine Wl.q (v := Value.slice (some ⟨b5, 0, none⟩) 4 4) (q_move rfl) ?_
  refine Wl.q (v := iv 2) (q_move rfl) ?_
  refine Wl.q (v := Value.pointer (some ⟨b5, 2, none⟩)) (q_idx (m := 2) se_31 rfl rfl (by omega) (by omega) rfl) ?_
  refine Wl.q (v := iv 9) (q_load sc_3 rfl (.cel (i := 4) rfl rfl)) ?_
  refine Wl.imp (L' := (storeW b2 (tl34_10 n)) :: (knowK k7 b2 (tl34_10 n) (KL [8, 3])) :: (knowK k11 b2 (tl34_10 n) (KL [1, 3])) :: (knowK k9 b2 (tl34_10 n) (KL [6, 3])) :: (pt b5 3 [iv 7, iv 8, iv 9, iv 10]) :: F) (fun _ h => st_pull [0, 2] h) ?_
  refine Wl.e (e_call (F := (knowK k11 b2 (tl34_10 n) (KL [1, 3])) :: (knowK k9 b2 (tl34_10 n) (KL [6, 3])) :: (pt b5 3 [iv 7, iv 8, iv 9, iv 10]) :: F) (args := [pv k7, iv 9]) Tryd.call9 rfl (khas_w W0 k7 b2 (tl34_10 n) (KL [8, 3]) 9 (der_no [0, 8, 3] (by kernel_rfl)))) (fun _ _ => ?_)
  refine Wl.imp (L' := (storeW b2 (tl34_10 n)) :: (knowK k7 b2 (tl34_10 n) (KL [8, 3])) :: (knowK k11 b2 (tl34_10 n) (KL [1, 3])) :: (knowK k9 b2 (tl34_10 n) (KL [6, 3])) :: (pt b5 3 [iv 7, iv 8, iv 9, iv 10]) :: F) (fun _ h => h) ?_
  refine Wl.q (v := iv 2) (q_move rfl) ?_
  refine Wl.q (v := iv 1) (q_move rfl) ?_
  refine Wl.q (v := Value.bool false) (q_eql (r := false) rfl rfl (decide_eq_false (by decide))) ?_
  refine Wl.q (v := Value.bool false) (q_neq_bool (r := true) rfl rfl Tryd.underlying4 rfl) ?_
  refine Wl.q (v := Value.bool false) (q_move rfl) ?_
  refine Wl.q (v := pv k9) (q_move rfl) ?_
  refine Wl.q (v := Value.slice (some ⟨b5, 0, none⟩) 4 4) (q_move rfl) ?_
  refine Wl.q (v := iv 2) (q_move rfl) ?_
  refine Wl.q (v := Value.pointer (some ⟨b5, 2, none⟩)) (q_idx (m := 2) se_31 rfl rfl (by omega) (by omega) rfl) ?_
  refine Wl.q (v := iv 9) (q_load sc_3 rfl (.cel (i := 4) rfl rfl)) ?_
  refine Wl.imp (L' := (storeW b2 (tl34_10 n)) :: (knowK k9 b2 (tl34_10 n) (KL [6, 3])) :: (knowK k7 b2 (tl34_10 n) (KL [8, 3])) :: (knowK k11 b2 (tl34_10 n) (KL [1, 3])) :: (pt b5 3 [iv 7, iv 8, iv 9, iv 10]) :: F) (fun _ h => st_pull [0, 2] h) ?_
  refine Wl.e (e_call (F := (knowK k7 b2 (tl34_10 n) (KL [8, 3])) :: (knowK k11 b2 (tl34_10 n) (KL [1, 3])) :: (pt b5 3 [iv 7, iv 8, iv 9, iv 10]) :: F) (args := [pv k9, iv 9]) Tryd.call9 rfl (khas_w W0 k9 b2 (tl34_10 n) (KL [6, 3]) 9 (der_yes [6, 3, 7, 8, 9, 10] (by kernel_rfl)))) (fun _ _ => ?_)
  refine Wl.imp (L' := (storeW b2 (tl34_10 n)) :: (knowK k9 b2 (tl34_10 n) (KL [6, 3])) :: (knowK k7 b2 (tl34_10 n) (KL [8, 3])) :: (knowK k11 b2 (tl34_10 n) (KL [1, 3])) :: (pt b5 3 [iv 7, iv 8, iv 9, iv 10]) :: F) (fun _ h => h) ?_
  refine Wl.q (v := Value.bool false) (q_not rfl rfl) ?_
  refine Wl.q (v := Value.bool false) (q_pick (t := false) rfl rfl) ?_
  refine Wl.q (v := Value.bool false) (q_move rfl) ?_
  refine Wl.q (v := pv k11) (q_move rfl) ?_
  refine Wl.q (v := Value.slice (some ⟨b5, 0, none⟩) 4 4) (q_move rfl) ?_
  refine Wl.q (v := iv 2) (q_move rfl) ?_
  refine Wl.q (v := Value.pointer (some ⟨b5, 2, none⟩)) (q_idx (m := 2) se_31 rfl rfl (by omega) (by omega) rfl) ?_
  refine Wl.q (v := iv 9) (q_load sc_3 rfl (.cel (i := 4) rfl rfl)) ?_
  refine Wl.imp (L' := (storeW b2 (tl34_10 n)) :: (knowK k11 b2 (tl34_10 n) (KL [1, 3])) :: (knowK k9 b2 (tl34_10 n) (KL [6, 3])) :: (knowK k7 b2 (tl34_10 n) (KL [8, 3])) :: (pt b5 3 [iv 7, iv 8, iv 9, iv 10]) :: F) (fun _ h => st_pull [0, 2] h) ?_
  refine Wl.e (e_call (F := (knowK k9 b2 (tl34_10 n) (KL [6, 3])) :: (knowK k7 b2 (tl34_10 n) (KL [8, 3])) :: (pt b5 3 [iv 7, iv 8, iv 9, iv 10]) :: F) (args := [pv k11, iv 9]) Tryd.call9 rfl (khas_w W0 k11 b2 (tl34_10 n) (KL [1, 3]) 9 (der_no [0, 1, 3] (by kernel_rfl)))) (fun _ _ => ?_)
  refine Wl.imp (L' := (storeW b2 (tl34_10 n)) :: (knowK k11 b2 (tl34_10 n) (KL [1, 3])) :: (knowK k9 b2 (tl34_10 n) (KL [6, 3])) :: (knowK k7 b2 (tl34_10 n) (KL [8, 3])) :: (pt b5 3 [iv 7, iv 8, iv 9, iv 10]) :: F) (fun _ h => h) ?_
  refine Wl.q (v := Value.bool false) (q_pick (t := false) rfl rfl) ?_
  refine Wl.done ?_
  refine Wx.go ?_
  refine Wc.no rfl ?_
  refine Wc.skip ?_
  refine Wx.blockEnd ?_
  refine Wx.go ?_
  refine Wc.region ?_
  refine Wl.q (v := iv 2) (q_move rfl) ?_
  refine Wl.q (v := iv 3) (q_add (c := 3) rfl rfl (by decide)) ?_
  refine Wl.q (v := iv 3) (q_assign rfl) ?_
  refine Wl.done ?_
  refine Wx.again ?_
  refine Wn.round ?_
  refine Wc.seq ?_
  refine Wc.seq ?_
  refine Wc.region ?_
  refine Wl.q (v := iv 3) (q_move rfl) ?_
  refine Wl.q (v := Value.bool true) (q_lss (r := true) rfl rfl (decide_eq_true (by decide))) ?_
  refine Wl.done ?_
  refine Wx.go ?_
  refine Wc.yes rfl ?_
  refine Wc.skip ?_
  refine Wx.go ?_
  refine Wc.seq ?_
  refine Wc.block ?_
  refine Wc.seq ?_
  refine Wc.region ?_
  refine Wl.q (v := pv k7) (q_move rfl) ?_
  refine Wl.q (v := Value.slice (some ⟨b5, 0, none⟩) 4 4) (q_move rfl) ?_
  refine Wl.q (v := iv 3) (q_move rfl) ?_
  refine Wl.q (v := Value.pointer (some ⟨b5, 3, none⟩)) (q_idx (m := 3) se_31 rfl rfl (by omega) (by omega) rfl) ?_
  refine Wl.q (v := iv 10) (q_load sc_3 rfl (.cel (i := 4) rfl rfl)) ?_
  refine Wl.imp (L' := (storeW b2 (tl34_10 n)) :: (knowK k7 b2 (tl34_10 n) (KL [8, 3])) :: (knowK k11 b2 (tl34_10 n) (KL [1, 3])) :: (knowK k9 b2 (tl34_10 n) (KL [6, 3])) :: (pt b5 3 [iv 7, iv 8, iv 9, iv 10]) :: F) (fun _ h => st_pull [0, 2] h) ?_
  refine Wl.e (e_call (F := (knowK k11 b2 (tl34_10 n) (KL [1, 3])) :: (knowK k9 b2 (tl34_10 n) (KL [6, 3])) :: (pt b5 3 [iv 7, iv 8, iv 9, iv 10]) :: F) (args := [pv k7, iv 10]) Tryd.call9 rfl (khas_w W0 k7 b2 (tl34_10 n) (KL [8, 3]) 10 (der_no [0, 8, 3] (by kernel_rfl)))) (fun _ _ => ?_)
  refine Wl.imp (L' := (storeW b2 (tl34_10 n)) :: (knowK k7 b2 (tl34_10 n) (KL [8, 3])) :: (knowK k11 b2 (tl34_10 n) (KL [1, 3])) :: (knowK k9 b2 (tl34_10 n) (KL [6, 3])) :: (pt b5 3 [iv 7, iv 8, iv 9, iv 10]) :: F) (fun _ h => h) ?_
  refine Wl.q (v := iv 3) (q_move rfl) ?_
  refine Wl.q (v := iv 1) (q_move rfl) ?_
  refine Wl.q (v := Value.bool false) (q_eql (r := false) rfl rfl (decide_eq_false (by decide))) ?_
  refine Wl.q (v := Value.bool false) (q_neq_bool (r := true) rfl rfl Tryd.underlying4 rfl) ?_
  refine Wl.q (v := Value.bool false) (q_move rfl) ?_
  refine Wl.q (v := pv k9) (q_move rfl) ?_
  refine Wl.q (v := Value.slice (some ⟨b5, 0, none⟩) 4 4) (q_move rfl) ?_
  refine Wl.q (v := iv 3) (q_move rfl) ?_
  refine Wl.q (v := Value.pointer (some ⟨b5, 3, none⟩)) (q_idx (m := 3) se_31 rfl rfl (by omega) (by omega) rfl) ?_
  refine Wl.q (v := iv 10) (q_load sc_3 rfl (.cel (i := 4) rfl rfl)) ?_
  refine Wl.imp (L' := (storeW b2 (tl34_10 n)) :: (knowK k9 b2 (tl34_10 n) (KL [6, 3])) :: (knowK k7 b2 (tl34_10 n) (KL [8, 3])) :: (knowK k11 b2 (tl34_10 n) (KL [1, 3])) :: (pt b5 3 [iv 7, iv 8, iv 9, iv 10]) :: F) (fun _ h => st_pull [0, 2] h) ?_
  refine Wl.e (e_call (F := (knowK k7 b2 (tl34_10 n) (KL [8, 3])) :: (knowK k11 b2 (tl34_10 n) (KL [1, 3])) :: (pt b5 3 [iv 7, iv 8, iv 9, iv 10]) :: F) (args := [pv k9, iv 10]) Tryd.call9 rfl (khas_w W0 k9 b2 (tl34_10 n) (KL [6, 3]) 10 (der_yes [6, 3, 7, 8, 9, 10] (by kernel_rfl)))) (fun _ _ => ?_)
  refine Wl.imp (L' := (storeW b2 (tl34_10 n)) :: (knowK k9 b2 (tl34_10 n) (KL [6, 3])) :: (knowK k7 b2 (tl34_10 n) (KL [8, 3])) :: (knowK k11 b2 (tl34_10 n) (KL [1, 3])) :: (pt b5 3 [iv 7, iv 8, iv 9, iv 10]) :: F) (fun _ h => h) ?_
  refine Wl.q (v := Value.bool false) (q_not rfl rfl) ?_
  refine Wl.q (v := Value.bool false) (q_pick (t := false) rfl rfl) ?_
  refine Wl.q (v := Value.bool false) (q_move rfl) ?_
  refine Wl.q (v := pv k11) (q_move rfl) ?_
  refine Wl.q (v := Value.slice (some ⟨b5, 0, none⟩) 4 4) (q_move rfl) ?_
  refine Wl.q (v := iv 3) (q_move rfl) ?_
  refine Wl.q (v := Value.pointer (some ⟨b5, 3, none⟩)) (q_idx (m := 3) se_31 rfl rfl (by omega) (by omega) rfl) ?_
  refine Wl.q (v := iv 10) (q_load sc_3 rfl (.cel (i := 4) rfl rfl)) ?_
  refine Wl.imp (L' := (storeW b2 (tl34_10 n)) :: (knowK k11 b2 (tl34_10 n) (KL [1, 3])) :: (knowK k9 b2 (tl34_10 n) (KL [6, 3])) :: (knowK k7 b2 (tl34_10 n) (KL [8, 3])) :: (pt b5 3 [iv 7, iv 8, iv 9, iv 10]) :: F) (fun _ h => st_pull [0, 2] h) ?_
  refine Wl.e (e_call (F := (knowK k9 b2 (tl34_10 n) (KL [6, 3])) :: (knowK k7 b2 (tl34_10 n) (KL [8, 3])) :: (pt b5 3 [iv 7, iv 8, iv 9, iv 10]) :: F) (args := [pv k11, iv 10]) Tryd.call9 rfl (khas_w W0 k11 b2 (tl34_10 n) (KL [1, 3]) 10 (der_no [0, 1, 3] (by kernel_rfl)))) (fun _ _ => ?_)
  refine Wl.imp (L' := (storeW b2 (tl34_10 n)) :: (knowK k11 b2 (tl34_10 n) (KL [1, 3])) :: (knowK k9 b2 (tl34_10 n) (KL [6, 3])) :: (knowK k7 b2 (tl34_10 n) (KL [8, 3])) :: (pt b5 3 [iv 7, iv 8, iv 9, iv 10]) :: F) (fun _ h => h) ?_
  refine Wl.q (v := Value.bool false) (q_pick (t := false) rfl rfl) ?_
  refine Wl.done ?_
  refine Wx.go ?_
  refine Wc.no rfl ?_
  refine Wc.skip ?_
  refine Wx.blockEnd ?_
  refine Wx.go ?_
  refine Wc.region ?_
  refine Wl.q (v := iv 3) (q_move rfl) ?_
  refine Wl.q (v := iv 4) (q_add (c := 4) rfl rfl (by decide)) ?_
  refine Wl.q (v := iv 4) (q_assign rfl) ?_
  refine Wl.done ?_
  refine Wx.again ?_
  refine Wn.round ?_
  refine Wc.seq ?_
  refine Wc.seq ?_
  refine Wc.region ?_
  refine Wl.q (v := iv 4) (q_move rfl) ?_
  refine Wl.q (v := Value.bool false) (q_lss (r := false) rfl rfl (decide_eq_false (by decide))) ?_
  refine Wl.done ?_
  refine Wx.go ?_
  refine Wc.no rfl ?_
  refine Wc.exit ?_
  refine Wx.thenExit ?_
  refine Wx.thenExit ?_
  refine Wx.out ?_
  refine Wx.go ?_
  refine Wc.seq ?_
  refine Wc.imp (L' := F) (fun w hs => (st_drop (st_drop (st_drop (st_drop (st_drop (st_pull [0, 0, 0, 0, 0] hs))))))) ?_
  refine Wc.region ?_
  refine Wl.e (e_call (F := F) (args := []) Tryd.call7 rfl (au1_lives W0)) (fun _ _ => ?_)
  refine Wl.imp (L' := F) (fun _ h => h) ?_
  refine Wl.q (v := Value.bool true) (q_assign rfl) ?_
  refine Wl.done ?_
  refine Wx.go ?_
  refine Wc.ret ?_
  refine Wx.fin1 rfl (.inl rfl) (fun w hs => ?_)
  have hs : st W0 w (F) := hs
  exact ⟨(), trivial, rfl, hs⟩

end Go.Proofs.YtoehhbapilfdbaaDoor
