/- What follows: contracts of the calls. -/
import Derived.Test.YtjjghmkjdgogiaaDdLv
namespace Go.Proofs.Ytjjghmkjdgogiaa
open Go Go.SL Go.Dd Go.RowKit
set_option linter.unusedVariables false
set_option maxRecDepth 8000

def tl1_1 : List TermR := [⟨1, 0, 0, 0⟩]

set_option maxRecDepth 8000 in
set_option maxHeartbeats 4000000 in
theorem ba1_Build (W0 : World) (q0 : Nat)  :
    Con Try.prog W0 6 #[Value.slice (some ⟨q0, 0, none⟩) 1 1] [pt q0 28 [Value.int .u8 1, iv 0, iv 0, iv 0]] (X := Nat × Nat) (fun _ => True) (fun y => Value.tuple #[Value.pointer (some ⟨y.1, 0, none⟩), Value.pointer (some ⟨y.2, 0, none⟩), Value.bool true]) (fun y => [pt q0 28 [Value.int .u8 1, iv 0, iv 0, iv 0], storeW y.1 tl1_1, refW y.2 tl1_1]) := by
  refine Con.of (args := [Value.slice (some ⟨q0, 0, none⟩) 1 1]) Try.func6 rfl Try.ntmps6 rfl (fun F => ?_)
  show Wc _ W0 _ _ _ _ _ ((pt q0 28 [Value.int .u8 1, iv 0, iv 0, iv 0]) :: F)
  refine Wc.seq ?_
  refine Wc.region ?_
  refine Wl.q (v := Value.pointer none) (q_assign rfl) ?_
  refine Wl.q (v := Value.pointer none) (q_assign rfl) ?_
  refine Wl.q (v := Value.bool false) (q_assign rfl) ?_
  refine Wl.done ?_
  refine Wx.go ?_
  refine Wc.seq ?_
  refine Wc.region ?_
  refine Wl.e (e_call (F := (pt q0 28 [Value.int .u8 1, iv 0, iv 0, iv 0]) :: F) (args := []) Try.call17 rfl (tnew_w W0)) (fun s1 _ => ?_)
  refine Wl.imp (L' := (storeW s1 []) :: (pt q0 28 [Value.int .u8 1, iv 0, iv 0, iv 0]) :: F) (fun _ h => h) ?_
  refine Wl.q (v := pv s1) (q_assign rfl) ?_
  refine Wl.done ?_
  refine Wx.go ?_
  refine Wc.seq ?_
  refine Wc.region ?_
  refine Wl.e (e_call (F := (storeW s1 []) :: (pt q0 28 [Value.int .u8 1, iv 0, iv 0, iv 0]) :: F) (args := []) Try.call18 rfl (rtnew_w W0)) (fun s2 _ => ?_)
  refine Wl.imp (L' := (refW s2 []) :: (storeW s1 []) :: (pt q0 28 [Value.int .u8 1, iv 0, iv 0, iv 0]) :: F) (fun _ h => h) ?_
  refine Wl.q (v := pv s2) (q_assign rfl) ?_
  refine Wl.done ?_
  refine Wx.go ?_
  refine Wc.seq ?_
  refine Wc.seq ?_
  refine Wc.region ?_
  refine Wl.q (v := iv 0) (q_assign rfl) ?_
  refine Wl.done ?_
  refine Wx.go ?_
  refine Wc.block ?_
  refine Wc.rounds 64 ?_
  refine Wn.round ?_
  refine Wc.seq ?_
  refine Wc.seq ?_
  refine Wc.region ?_
  refine Wl.q (v := iv 0) (q_move rfl) ?_
  refine Wl.q (v := Value.slice (some ⟨q0, 0, none⟩) 1 1) (q_move rfl) ?_
  refine Wl.q (v := iv 1) (q_len_slice Try.underlying29 rfl) ?_
  refine Wl.q (v := Value.bool true) (q_lss (r := true) rfl rfl (decide_eq_true (by decide))) ?_
  refine Wl.done ?_
  refine Wx.go ?_
  refine Wc.yes rfl ?_
  refine Wc.skip ?_
  refine Wx.go ?_
  refine Wc.seq ?_
  refine Wc.block ?_
  refine Wc.seq ?_
  refine Wc.region ?_
  refine Wl.q (v := pv s1) (q_move rfl) ?_
  refine Wl.q (v := Value.slice (some ⟨q0, 0, none⟩) 1 1) (q_move rfl) ?_
  refine Wl.q (v := iv 0) (q_move rfl) ?_
  refine Wl.q (v := pv q0) (q_idx (m := 0) se_29 rfl rfl (by omega) (by omega) rfl) ?_
  refine Wl.q (v := Value.agg #[Value.int .u8 1, iv 0, iv 0, iv 0]) (q_loadAgg (vs := [Value.int .u8 1, iv 0, iv 0, iv 0]) ag_28 rfl (Has.of_pt (i := 2) rfl rfl)) ?_
  refine Wl.imp (L' := (storeW s1 []) :: (refW s2 []) :: (pt q0 28 [Value.int .u8 1, iv 0, iv 0, iv 0]) :: F) (fun _ h => st_pull [1] h) ?_
  refine Wl.e (e_call (F := (refW s2 []) :: (pt q0 28 [Value.int .u8 1, iv 0, iv 0, iv 0]) :: F) (args := [pv s1, Value.agg #[Value.int .u8 1, iv 0, iv 0, iv 0]]) Try.call19 rfl (make_w W0 s1 [] tl1_1 ⟨1, 0, 0, 0⟩ 1 1 0 (by unfold okT; decide) (by decide +kernel) rfl)) (fun _ _ => ?_)
  refine Wl.imp (L' := (storeW s1 tl1_1) :: (refW s2 []) :: (pt q0 28 [Value.int .u8 1, iv 0, iv 0, iv 0]) :: F) (fun _ h => h) ?_
  refine Wl.q (v := Value.tuple #[iv 1, iv 0]) (q_move rfl) ?_
  refine Wl.q (v := iv 1) (q_extract (i := 0) rfl rfl) ?_
  refine Wl.q (v := iv 0) (q_extract (i := 1) rfl rfl) ?_
  refine Wl.q (v := iv 1) (q_assign rfl) ?_
  refine Wl.q (v := iv 0) (q_assign rfl) ?_
  refine Wl.done ?_
  refine Wx.go ?_
  refine Wc.seq ?_
  refine Wc.region ?_
  refine Wl.q (v := pv s2) (q_move rfl) ?_
  refine Wl.q (v := Value.slice (some ⟨q0, 0, none⟩) 1 1) (q_move rfl) ?_
  refine Wl.q (v := iv 0) (q_move rfl) ?_
  refine Wl.q (v := pv q0) (q_idx (m := 0) se_29 rfl rfl (by omega) (by omega) rfl) ?_
  refine Wl.q (v := Value.agg #[Value.int .u8 1, iv 0, iv 0, iv 0]) (q_loadAgg (vs := [Value.int .u8 1, iv 0, iv 0, iv 0]) ag_28 rfl (Has.of_pt (i := 2) rfl rfl)) ?_
  refine Wl.imp (L' := (refW s2 []) :: (storeW s1 tl1_1) :: (pt q0 28 [Value.int .u8 1, iv 0, iv 0, iv 0]) :: F) (fun _ h => st_pull [1] h) ?_
  refine Wl.e (e_call (F := (storeW s1 tl1_1) :: (pt q0 28 [Value.int .u8 1, iv 0, iv 0, iv 0]) :: F) (args := [pv s2, Value.agg #[Value.int .u8 1, iv 0, iv 0, iv 0]]) Try.call20 rfl (rmake_w W0 s2 [] tl1_1 ⟨1, 0, 0, 0⟩ 1 1 0 (by unfold okT; decide) (by decide +kernel) rfl)) (fun _ _ => ?_)
  refine Wl.imp (L' := (refW s2 tl1_1) :: (storeW s1 tl1_1) :: (pt q0 28 [Value.int .u8 1, iv 0, iv 0, iv 0]) :: F) (fun _ h => h) ?_
  refine Wl.q (v := Value.tuple #[iv 1, iv 0]) (q_move rfl) ?_
  refine Wl.q (v := iv 1) (q_extract (i := 0) rfl rfl) ?_
  refine Wl.q (v := iv 0) (q_extract (i := 1) rfl rfl) ?_
  refine Wl.q (v := iv 1) (q_assign rfl) ?_
  refine Wl.q (v := iv 0) (q_assign rfl) ?_
  refine Wl.done ?_
  refine Wx.go ?_
  refine Wc.seq ?_
  refine Wc.region ?_
  refine Wl.q (v := iv 1) (q_move rfl) ?_
  refine Wl.q (v := iv 1) (q_move rfl) ?_
  refine Wl.q (v := Value.bool false) (q_neq (r := true) rfl rfl (decide_eq_true (by decide))) ?_
  refine Wl.q (v := Value.bool false) (q_move rfl) ?_
  refine Wl.q (v := iv 0) (q_move rfl) ?_
  refine Wl.q (v := iv 0) (q_move rfl) ?_
  refine Wl.q (v := Value.bool false) (q_neq (r := true) rfl rfl (decide_eq_true (by decide))) ?_
  refine Wl.q (v := Value.bool false) (q_pick (t := false) rfl rfl) ?_
  refine Wl.done ?_
  refine Wx.go ?_
  refine Wc.no rfl ?_
  refine Wc.skip ?_
  refine Wx.blockEnd ?_
  refine Wx.go ?_
  refine Wc.region ?_
  refine Wl.q (v := iv 0) (q_move rfl) ?_
  refine Wl.q (v := iv 1) (q_add (c := 1) rfl rfl (by decide)) ?_
  refine Wl.q (v := iv 1) (q_assign rfl) ?_
  refine Wl.done ?_
  refine Wx.again ?_
  refine Wn.round ?_
  refine Wc.seq ?_
  refine Wc.seq ?_
  refine Wc.region ?_
  refine Wl.q (v := iv 1) (q_move rfl) ?_
  refine Wl.q (v := Value.slice (some ⟨q0, 0, none⟩) 1 1) (q_move rfl) ?_
  refine Wl.q (v := iv 1) (q_len_slice Try.underlying29 rfl) ?_
  refine Wl.q (v := Value.bool false) (q_lss (r := false) rfl rfl (decide_eq_false (by decide))) ?_
  refine Wl.done ?_
  refine Wx.go ?_
  refine Wc.no rfl ?_
  refine Wc.exit ?_
  refine Wx.thenExit ?_
  refine Wx.thenExit ?_
  refine Wx.out ?_
  refine Wx.go ?_
  refine Wc.seq ?_
  refine Wc.region ?_
  refine Wl.q (v := pv s1) (q_move rfl) ?_
  refine Wl.q (v := pv s2) (q_move rfl) ?_
  refine Wl.q (v := pv s1) (q_move rfl) ?_
  refine Wl.q (v := Value.bool true) (q_neq_nil (r := false) rfl rfl Try.underlying22 rfl) ?_
  refine Wl.q (v := pv s1) (q_assign rfl) ?_
  refine Wl.q (v := pv s2) (q_assign rfl) ?_
  refine Wl.q (v := Value.bool true) (q_assign rfl) ?_
  refine Wl.done ?_
  refine Wx.go ?_
  refine Wc.ret ?_
  refine Wx.fin3 rfl (.inl rfl) (fun w hs => ?_)
  have hs : st W0 w ((pt q0 28 [Value.int .u8 1, iv 0, iv 0, iv 0]) :: (storeW s1 tl1_1) :: (refW s2 tl1_1) :: F) := (st_pull [2, 1, 0] (hs))
  exact ⟨(s1, s2), trivial, rfl, hs⟩

theorem apart_in (W0 : World) (a b : Int) (ha : i64R a) (hb : i64R b) (n m : Nat) (hn : n ≤ 100) (hm : m ≤ 100) :
    Con Try.prog W0 3 #[Value.int .i64 a, Value.int .i64 ((n : Nat) : Int), Value.int .i64 b, Value.int .i64 ((m : Nat) : Int)] [] (X := Unit) (fun _ => True) (fun _ => .bool true) (fun _ => []) := by
  refine Con.of (args := [Value.int .i64 a, Value.int .i64 ((n : Nat) : Int), Value.int .i64 b, Value.int .i64 ((m : Nat) : Int)]) Try.func3 rfl Try.ntmps3 rfl (fun F => ?_)
  have w0 : Wf [(⟨1, 0, 0, 0⟩ : TermR)] := Wf.nil.mk (t := ⟨1, 0, 0, 0⟩) (by decide) (by decide)
  have j1 := key_j (app := 1) w0 (by decide) ha n (by simp only [List.length_singleton]; omega)
  have l1 := j1.st.len
  have e1 := j1.st.ext.len
  simp only [List.length_singleton] at l1 e1
  have j2 := key_j (app := 1) (s := b) j1.st.wf (by omega) hb m (by omega)
  have l2 := j2.st.len
  have e2 := j2.st.ext.len
  have j3 := key_j (app := 1) (s := a) j2.st.wf (by omega) ha n (by omega)
  have hA := apart_three j1 j2 j3
  show Wc _ W0 _ _ _ _ _ (F)
  refine Wc.seq ?_
  refine Wc.region ?_
  refine Wl.q (v := Value.bool false) (q_assign rfl) ?_
  refine Wl.done ?_
  refine Wx.go ?_
  refine Wc.seq ?_
  refine Wc.seq ?_
  refine Wc.region ?_
  refine Wl.q (v := Value.int .i64 ((n : Nat) : Int)) (q_move rfl) ?_
  refine Wl.q (v := Value.bool false) (q_lss (r := false) rfl rfl (decide_eq_false (by omega))) ?_
  refine Wl.q (v := Value.bool false) (q_move rfl) ?_
  refine Wl.q (v := Value.int .i64 ((m : Nat) : Int)) (q_move rfl) ?_
  refine Wl.q (v := Value.bool false) (q_lss (r := false) rfl rfl (decide_eq_false (by omega))) ?_
  refine Wl.q (v := Value.bool false) (q_pick (t := false) rfl rfl) ?_
  refine Wl.q (v := Value.bool false) (q_move rfl) ?_
  refine Wl.q (v := Value.int .i64 ((n : Nat) : Int)) (q_move rfl) ?_
  refine Wl.q (v := Value.bool false) (q_gtr (r := false) rfl rfl (decide_eq_false (by omega))) ?_
  refine Wl.q (v := Value.bool false) (q_pick (t := false) rfl rfl) ?_
  refine Wl.q (v := Value.bool false) (q_move rfl) ?_
  refine Wl.q (v := Value.int .i64 ((m : Nat) : Int)) (q_move rfl) ?_
  refine Wl.q (v := Value.bool false) (q_gtr (r := false) rfl rfl (decide_eq_false (by omega))) ?_
  refine Wl.q (v := Value.bool false) (q_pick (t := false) rfl rfl) ?_
  refine Wl.done ?_
  refine Wx.go ?_
  refine Wc.no rfl ?_
  refine Wc.skip ?_
  refine Wx.go ?_
  refine Wc.seq ?_
  refine Wc.region ?_
  refine Wl.q (v := Value.agg #[Value.int .u8 1, Value.int .i64 0, Value.int .i64 0, Value.int .i64 0]) (q_build (pl := [(0, 1), (1, 1), (2, 1), (3, 1)]) Try.underlying28 zo_28 (by kernel_rfl) (by kernel_rfl)) ?_
  refine Wl.e (e_buildSlice (cs := [Value.int .u8 1, Value.int .i64 0, Value.int .i64 0, Value.int .i64 0]) se_29 zo_28 (by decide) (by decide) (by kernel_rfl)) (fun b1 _ => ?_)
  refine Wl.imp (L' := (pt b1 28 [Value.int .u8 1, Value.int .i64 0, Value.int .i64 0, Value.int .i64 0]) :: F) (fun _ h => h) ?_
  refine Wl.e (e_call (F := F) (args := [Value.slice (some ⟨b1, 0, none⟩) 1 1]) Try.call6 rfl (ba1_Build W0 b1)) (fun ⟨b2, b3⟩ _ => ?_)
  refine Wl.imp (L' := (pt b1 28 [Value.int .u8 1, Value.int .i64 0, Value.int .i64 0, Value.int .i64 0]) :: (storeW b2 [⟨1, 0, 0, 0⟩]) :: (refW b3 tl1_1) :: F) (fun _ h => h) ?_
  refine Wl.q (v := Value.tuple #[Value.pointer (some ⟨b2, 0, none⟩), Value.pointer (some ⟨b3, 0, none⟩), Value.bool true]) (q_move rfl) ?_
  refine Wl.q (v := Value.pointer (some ⟨b2, 0, none⟩)) (q_extract (i := 0) rfl rfl) ?_
  refine Wl.q (v := Value.pointer (some ⟨b3, 0, none⟩)) (q_extract (i := 1) rfl rfl) ?_
  refine Wl.q (v := Value.bool true) (q_extract (i := 2) rfl rfl) ?_
  refine Wl.q (v := Value.pointer (some ⟨b2, 0, none⟩)) (q_assign rfl) ?_
  refine Wl.q (v := Value.pointer (some ⟨b3, 0, none⟩)) (q_assign rfl) ?_
  refine Wl.q (v := Value.bool true) (q_assign rfl) ?_
  refine Wl.done ?_
  refine Wx.go ?_
  refine Wc.seq ?_
  refine Wc.region ?_
  refine Wl.q (v := Value.pointer (some ⟨b2, 0, none⟩)) (q_move rfl) ?_
  refine Wl.q (v := Value.int .i64 a) (q_move rfl) ?_
  refine Wl.q (v := Value.int .i64 ((n : Nat) : Int)) (q_move rfl) ?_
  refine Wl.imp (L' := (storeW b2 [⟨1, 0, 0, 0⟩]) :: (pt b1 28 [Value.int .u8 1, Value.int .i64 0, Value.int .i64 0, Value.int .i64 0]) :: (refW b3 tl1_1) :: F) (fun _ h => st_pull [1] h) ?_
  refine Wl.e (e_call (F := (pt b1 28 [Value.int .u8 1, Value.int .i64 0, Value.int .i64 0, Value.int .i64 0]) :: (refW b3 tl1_1) :: F) (args := [Value.pointer (some ⟨b2, 0, none⟩), Value.int .i64 1, Value.int .i64 a, Value.int .i64 ((n : Nat) : Int)]) Try.call7 rfl (key_w W0 b2 [⟨1, 0, 0, 0⟩] 1 a n w0 (by decide) ha (by omega) (by simp only [List.length_singleton]; omega))) (fun _ _ => ?_)
  refine Wl.imp (L' := (storeW b2 ((keyF (chainR [⟨1, 0, 0, 0⟩] 1 a n)).1)) :: (pt b1 28 [Value.int .u8 1, Value.int .i64 0, Value.int .i64 0, Value.int .i64 0]) :: (refW b3 tl1_1) :: F) (fun _ h => h) ?_
  refine Wl.q (v := Value.tuple #[Value.int .i64 (((keyF (chainR [⟨1, 0, 0, 0⟩] 1 a n)).2 : Nat) : Int), Value.int .i64 0]) (q_move rfl) ?_
  refine Wl.q (v := Value.int .i64 (((keyF (chainR [⟨1, 0, 0, 0⟩] 1 a n)).2 : Nat) : Int)) (q_extract (i := 0) rfl rfl) ?_
  refine Wl.q (v := Value.int .i64 0) (q_extract (i := 1) rfl rfl) ?_
  refine Wl.q (v := Value.int .i64 (((keyF (chainR [⟨1, 0, 0, 0⟩] 1 a n)).2 : Nat) : Int)) (q_assign rfl) ?_
  refine Wl.q (v := Value.int .i64 0) (q_assign rfl) ?_
  refine Wl.done ?_
  refine Wx.go ?_
  refine Wc.seq ?_
  refine Wc.region ?_
  refine Wl.q (v := Value.pointer (some ⟨b2, 0, none⟩)) (q_move rfl) ?_
  refine Wl.q (v := Value.int .i64 b) (q_move rfl) ?_
  refine Wl.q (v := Value.int .i64 ((m : Nat) : Int)) (q_move rfl) ?_
  refine Wl.e (e_call (F := (pt b1 28 [Value.int .u8 1, Value.int .i64 0, Value.int .i64 0, Value.int .i64 0]) :: (refW b3 tl1_1) :: F) (args := [Value.pointer (some ⟨b2, 0, none⟩), Value.int .i64 1, Value.int .i64 b, Value.int .i64 ((m : Nat) : Int)]) Try.call7 rfl (key_w W0 b2 ((keyF (chainR [⟨1, 0, 0, 0⟩] 1 a n)).1) 1 b m j1.st.wf (by omega) hb (by omega) (by omega))) (fun _ _ => ?_)
  refine Wl.imp (L' := (storeW b2 ((keyF (chainR ((keyF (chainR [⟨1, 0, 0, 0⟩] 1 a n)).1) 1 b m)).1)) :: (pt b1 28 [Value.int .u8 1, Value.int .i64 0, Value.int .i64 0, Value.int .i64 0]) :: (refW b3 tl1_1) :: F) (fun _ h => h) ?_
  refine Wl.q (v := Value.tuple #[Value.int .i64 (((keyF (chainR ((keyF (chainR [⟨1, 0, 0, 0⟩] 1 a n)).1) 1 b m)).2 : Nat) : Int), Value.int .i64 0]) (q_move rfl) ?_
  refine Wl.q (v := Value.int .i64 (((keyF (chainR ((keyF (chainR [⟨1, 0, 0, 0⟩] 1 a n)).1) 1 b m)).2 : Nat) : Int)) (q_extract (i := 0) rfl rfl) ?_
  refine Wl.q (v := Value.int .i64 0) (q_extract (i := 1) rfl rfl) ?_
  refine Wl.q (v := Value.int .i64 (((keyF (chainR ((keyF (chainR [⟨1, 0, 0, 0⟩] 1 a n)).1) 1 b m)).2 : Nat) : Int)) (q_assign rfl) ?_
  refine Wl.q (v := Value.int .i64 0) (q_assign rfl) ?_
  refine Wl.done ?_
  refine Wx.go ?_
  refine Wc.seq ?_
  refine Wc.region ?_
  refine Wl.q (v := Value.pointer (some ⟨b2, 0, none⟩)) (q_move rfl) ?_
  refine Wl.q (v := Value.int .i64 a) (q_move rfl) ?_
  refine Wl.q (v := Value.int .i64 ((n : Nat) : Int)) (q_move rfl) ?_
  refine Wl.e (e_call (F := (pt b1 28 [Value.int .u8 1, Value.int .i64 0, Value.int .i64 0, Value.int .i64 0]) :: (refW b3 tl1_1) :: F) (args := [Value.pointer (some ⟨b2, 0, none⟩), Value.int .i64 1, Value.int .i64 a, Value.int .i64 ((n : Nat) : Int)]) Try.call7 rfl (key_w W0 b2 ((keyF (chainR ((keyF (chainR [⟨1, 0, 0, 0⟩] 1 a n)).1) 1 b m)).1) 1 a n j2.st.wf (by omega) ha (by omega) (by omega))) (fun _ _ => ?_)
  refine Wl.imp (L' := (storeW b2 ((keyF (chainR ((keyF (chainR ((keyF (chainR [⟨1, 0, 0, 0⟩] 1 a n)).1) 1 b m)).1) 1 a n)).1)) :: (pt b1 28 [Value.int .u8 1, Value.int .i64 0, Value.int .i64 0, Value.int .i64 0]) :: (refW b3 tl1_1) :: F) (fun _ h => h) ?_
  refine Wl.q (v := Value.tuple #[Value.int .i64 (((keyF (chainR ((keyF (chainR ((keyF (chainR [⟨1, 0, 0, 0⟩] 1 a n)).1) 1 b m)).1) 1 a n)).2 : Nat) : Int), Value.int .i64 0]) (q_move rfl) ?_
  refine Wl.q (v := Value.int .i64 (((keyF (chainR ((keyF (chainR ((keyF (chainR [⟨1, 0, 0, 0⟩] 1 a n)).1) 1 b m)).1) 1 a n)).2 : Nat) : Int)) (q_extract (i := 0) rfl rfl) ?_
  refine Wl.q (v := Value.int .i64 0) (q_extract (i := 1) rfl rfl) ?_
  refine Wl.q (v := Value.int .i64 (((keyF (chainR ((keyF (chainR ((keyF (chainR [⟨1, 0, 0, 0⟩] 1 a n)).1) 1 b m)).1) 1 a n)).2 : Nat) : Int)) (q_assign rfl) ?_
  refine Wl.q (v := Value.int .i64 0) (q_assign rfl) ?_
  refine Wl.done ?_
  refine Wx.go ?_
  refine Wc.seq ?_
  refine Wc.region ?_
  refine Wl.q (v := Value.bool true) (q_move rfl) ?_
  refine Wl.q (v := Value.bool true) (q_move rfl) ?_
  refine Wl.q (v := Value.int .i64 0) (q_move rfl) ?_
  refine Wl.q (v := Value.bool true) (q_eql (r := true) rfl rfl (decide_eq_true (by decide))) ?_
  refine Wl.q (v := Value.bool true) (q_pick (t := true) rfl rfl) ?_
  refine Wl.q (v := Value.bool true) (q_move rfl) ?_
  refine Wl.q (v := Value.int .i64 0) (q_move rfl) ?_
  refine Wl.q (v := Value.bool true) (q_eql (r := true) rfl rfl (decide_eq_true (by decide))) ?_
  refine Wl.q (v := Value.bool true) (q_pick (t := true) rfl rfl) ?_
  refine Wl.q (v := Value.bool true) (q_move rfl) ?_
  refine Wl.q (v := Value.int .i64 0) (q_move rfl) ?_
  refine Wl.q (v := Value.bool true) (q_eql (r := true) rfl rfl (decide_eq_true (by decide))) ?_
  refine Wl.q (v := Value.bool true) (q_pick (t := true) rfl rfl) ?_
  refine Wl.q (v := Value.bool true) (q_move rfl) ?_
  refine Wl.q (v := Value.int .i64 (((keyF (chainR [⟨1, 0, 0, 0⟩] 1 a n)).2 : Nat) : Int)) (q_move rfl) ?_
  refine Wl.q (v := Value.int .i64 (((keyF (chainR ((keyF (chainR ((keyF (chainR [⟨1, 0, 0, 0⟩] 1 a n)).1) 1 b m)).1) 1 a n)).2 : Nat) : Int)) (q_move rfl) ?_
  refine Wl.q (v := Value.bool true) (q_eql (r := true) rfl rfl (decide_eq_true (congrArg Int.ofNat hA.1))) ?_
  refine Wl.q (v := Value.bool true) (q_pick (t := true) rfl rfl) ?_
  refine Wl.q (v := Value.bool true) (q_move rfl) ?_
  refine Wl.q (v := Value.int .i64 (((keyF (chainR [⟨1, 0, 0, 0⟩] 1 a n)).2 : Nat) : Int)) (q_move rfl) ?_
  refine Wl.q (v := Value.int .i64 (((keyF (chainR ((keyF (chainR [⟨1, 0, 0, 0⟩] 1 a n)).1) 1 b m)).2 : Nat) : Int)) (q_move rfl) ?_
  by_cases hxy : (((keyF (chainR [⟨1, 0, 0, 0⟩] 1 a n)).2 : Nat) : Int) = (((keyF (chainR ((keyF (chainR [⟨1, 0, 0, 0⟩] 1 a n)).1) 1 b m)).2 : Nat) : Int)
  ·
    refine Wl.q (v := Value.bool true) (q_eql (r := true) rfl rfl (decide_eq_true hxy)) ?_
    refine Wl.q (v := Value.int .i64 a) (q_move rfl) ?_
    refine Wl.q (v := Value.int .i64 b) (q_move rfl) ?_
    refine Wl.q (v := Value.bool true) (q_eql (r := true) rfl rfl (decide_eq_true ((hA.2.1 (Int.ofNat.inj hxy)).1))) ?_
    refine Wl.q (v := Value.bool true) (q_move rfl) ?_
    refine Wl.q (v := Value.int .i64 ((n : Nat) : Int)) (q_move rfl) ?_
    refine Wl.q (v := Value.int .i64 ((m : Nat) : Int)) (q_move rfl) ?_
    refine Wl.q (v := Value.bool true) (q_eql (r := true) rfl rfl (decide_eq_true (congrArg Int.ofNat (hA.2.1 (Int.ofNat.inj hxy)).2))) ?_
    refine Wl.q (v := Value.bool true) (q_pick (t := true) rfl rfl) ?_
    refine Wl.q (v := Value.bool true) (q_eql_bool (r := true) rfl rfl Try.underlying4 rfl) ?_
    refine Wl.q (v := Value.bool true) (q_pick (t := true) rfl rfl) ?_
    refine Wl.q (v := Value.bool true) (q_move rfl) ?_
    refine Wl.e (e_call (F := (storeW b2 ((keyF (chainR ((keyF (chainR ((keyF (chainR [⟨1, 0, 0, 0⟩] 1 a n)).1) 1 b m)).1) 1 a n)).1)) :: (pt b1 28 [Value.int .u8 1, Value.int .i64 0, Value.int .i64 0, Value.int .i64 0]) :: (refW b3 tl1_1) :: F) (args := []) Try.call8 rfl (lives_c W0)) (fun _ _ => ?_)
    refine Wl.imp (L' := (storeW b2 ((keyF (chainR ((keyF (chainR ((keyF (chainR [⟨1, 0, 0, 0⟩] 1 a n)).1) 1 b m)).1) 1 a n)).1)) :: (pt b1 28 [Value.int .u8 1, Value.int .i64 0, Value.int .i64 0, Value.int .i64 0]) :: (refW b3 tl1_1) :: F) (fun _ h => h) ?_
    refine Wl.q (v := Value.bool true) (q_pick (t := true) rfl rfl) ?_
    refine Wl.q (v := Value.bool true) (q_assign rfl) ?_
    refine Wl.done ?_
    refine Wx.go ?_
    refine Wc.ret ?_
    refine Wx.fin1 rfl (.inl rfl) (fun w hs => ?_)
    exact ⟨(), trivial, rfl, (st_drop (st_drop (st_drop (st_pull [0, 0, 0] hs))))⟩
  ·
    refine Wl.q (v := Value.bool false) (q_eql (r := false) rfl rfl (decide_eq_false hxy)) ?_
    refine Wl.q (v := Value.int .i64 a) (q_move rfl) ?_
    refine Wl.q (v := Value.int .i64 b) (q_move rfl) ?_
    by_cases hab : a = b
    ·
      refine Wl.q (v := Value.bool true) (q_eql (r := true) rfl rfl (decide_eq_true hab)) ?_
      refine Wl.q (v := Value.bool true) (q_move rfl) ?_
      refine Wl.q (v := Value.int .i64 ((n : Nat) : Int)) (q_move rfl) ?_
      refine Wl.q (v := Value.int .i64 ((m : Nat) : Int)) (q_move rfl) ?_
      refine Wl.q (v := Value.bool false) (q_eql (r := false) rfl rfl (decide_eq_false (fun h => hxy (congrArg Int.ofNat (hA.2.2 ⟨hab, Int.ofNat.inj h⟩))))) ?_
      refine Wl.q (v := Value.bool false) (q_pick (t := true) rfl rfl) ?_
      refine Wl.q (v := Value.bool true) (q_eql_bool (r := true) rfl rfl Try.underlying4 rfl) ?_
      refine Wl.q (v := Value.bool true) (q_pick (t := true) rfl rfl) ?_
      refine Wl.q (v := Value.bool true) (q_move rfl) ?_
      refine Wl.e (e_call (F := (storeW b2 ((keyF (chainR ((keyF (chainR ((keyF (chainR [⟨1, 0, 0, 0⟩] 1 a n)).1) 1 b m)).1) 1 a n)).1)) :: (pt b1 28 [Value.int .u8 1, Value.int .i64 0, Value.int .i64 0, Value.int .i64 0]) :: (refW b3 tl1_1) :: F) (args := []) Try.call8 rfl (lives_c W0)) (fun _ _ => ?_)
      refine Wl.imp (L' := (storeW b2 ((keyF (chainR ((keyF (chainR ((keyF (chainR [⟨1, 0, 0, 0⟩] 1 a n)).1) 1 b m)).1) 1 a n)).1)) :: (pt b1 28 [Value.int .u8 1, Value.int .i64 0, Value.int .i64 0, Value.int .i64 0]) :: (refW b3 tl1_1) :: F) (fun _ h => h) ?_
      refine Wl.q (v := Value.bool true) (q_pick (t := true) rfl rfl) ?_
      refine Wl.q (v := Value.bool true) (q_assign rfl) ?_
      refine Wl.done ?_
      refine Wx.go ?_
      refine Wc.ret ?_
      refine Wx.fin1 rfl (.inl rfl) (fun w hs => ?_)
      exact ⟨(), trivial, rfl, (st_drop (st_drop (st_drop (st_pull [0, 0, 0] hs))))⟩
    ·
      refine Wl.q (v := Value.bool false) (q_eql (r := false) rfl rfl (decide_eq_false hab)) ?_
      refine Wl.q (v := Value.bool false) (q_move rfl) ?_
      refine Wl.no ?_
      refine Wl.no ?_
      refine Wl.no ?_
      refine Wl.q (v := Value.bool false) (q_pick (t := false) rfl rfl) ?_
      refine Wl.q (v := Value.bool true) (q_eql_bool (r := true) rfl rfl Try.underlying4 rfl) ?_
      refine Wl.q (v := Value.bool true) (q_pick (t := true) rfl rfl) ?_
      refine Wl.q (v := Value.bool true) (q_move rfl) ?_
      refine Wl.e (e_call (F := (storeW b2 ((keyF (chainR ((keyF (chainR ((keyF (chainR [⟨1, 0, 0, 0⟩] 1 a n)).1) 1 b m)).1) 1 a n)).1)) :: (pt b1 28 [Value.int .u8 1, Value.int .i64 0, Value.int .i64 0, Value.int .i64 0]) :: (refW b3 tl1_1) :: F) (args := []) Try.call8 rfl (lives_c W0)) (fun _ _ => ?_)
      refine Wl.imp (L' := (storeW b2 ((keyF (chainR ((keyF (chainR ((keyF (chainR [⟨1, 0, 0, 0⟩] 1 a n)).1) 1 b m)).1) 1 a n)).1)) :: (pt b1 28 [Value.int .u8 1, Value.int .i64 0, Value.int .i64 0, Value.int .i64 0]) :: (refW b3 tl1_1) :: F) (fun _ h => h) ?_
      refine Wl.q (v := Value.bool true) (q_pick (t := true) rfl rfl) ?_
      refine Wl.q (v := Value.bool true) (q_assign rfl) ?_
      refine Wl.done ?_
      refine Wx.go ?_
      refine Wc.ret ?_
      refine Wx.fin1 rfl (.inl rfl) (fun w hs => ?_)
      exact ⟨(), trivial, rfl, (st_drop (st_drop (st_drop (st_pull [0, 0, 0] hs))))⟩

theorem apart_out (W0 : World) (a n b m : Int) (hout : ¬ ((0 ≤ n ∧ n ≤ 100) ∧ (0 ≤ m ∧ m ≤ 100))) :
    Con Try.prog W0 3 #[Value.int .i64 a, Value.int .i64 n, Value.int .i64 b, Value.int .i64 m] [] (X := Unit) (fun _ => True) (fun _ => .bool true) (fun _ => []) := by
  refine Con.of (args := [Value.int .i64 a, Value.int .i64 n, Value.int .i64 b, Value.int .i64 m]) Try.func3 rfl Try.ntmps3 rfl (fun F => ?_)
  show Wc _ W0 _ _ _ _ _ (F)
  refine Wc.seq ?_
  refine Wc.region ?_
  refine Wl.q (v := Value.bool false) (q_assign rfl) ?_
  refine Wl.done ?_
  refine Wx.go ?_
  refine Wc.seq ?_
  refine Wc.seq ?_
  refine Wc.region ?_
  refine Wl.q (v := Value.int .i64 n) (q_move rfl) ?_
  by_cases h1 : n < 0
  ·
    refine Wl.q (v := Value.bool true) (q_lss (r := true) rfl rfl (decide_eq_true h1)) ?_
    refine Wl.q (v := Value.bool true) (q_move rfl) ?_
    refine Wl.no ?_
    refine Wl.no ?_
    refine Wl.q (v := Value.bool true) (q_pick (t := true) rfl rfl) ?_
    refine Wl.q (v := Value.bool true) (q_move rfl) ?_
    refine Wl.no ?_
    refine Wl.no ?_
    refine Wl.q (v := Value.bool true) (q_pick (t := true) rfl rfl) ?_
    refine Wl.q (v := Value.bool true) (q_move rfl) ?_
    refine Wl.no ?_
    refine Wl.no ?_
    refine Wl.q (v := Value.bool true) (q_pick (t := true) rfl rfl) ?_
    refine Wl.done ?_
    refine Wx.go ?_
    refine Wc.yes rfl ?_
    refine Wc.seq ?_
    refine Wc.region ?_
    refine Wl.q (v := Value.bool true) (q_assign rfl) ?_
    refine Wl.done ?_
    refine Wx.go ?_
    refine Wc.ret ?_
    refine Wx.thenRet ?_
    refine Wx.fin1 rfl (.inl rfl) (fun w hs => ?_)
    exact ⟨(), trivial, rfl, hs⟩
  ·
    refine Wl.q (v := Value.bool false) (q_lss (r := false) rfl rfl (decide_eq_false h1)) ?_
    refine Wl.q (v := Value.bool false) (q_move rfl) ?_
    refine Wl.q (v := Value.int .i64 m) (q_move rfl) ?_
    by_cases h2 : m < 0
    ·
      refine Wl.q (v := Value.bool true) (q_lss (r := true) rfl rfl (decide_eq_true h2)) ?_
      refine Wl.q (v := Value.bool true) (q_pick (t := false) rfl rfl) ?_
      refine Wl.q (v := Value.bool true) (q_move rfl) ?_
      refine Wl.no ?_
      refine Wl.no ?_
      refine Wl.q (v := Value.bool true) (q_pick (t := true) rfl rfl) ?_
      refine Wl.q (v := Value.bool true) (q_move rfl) ?_
      refine Wl.no ?_
      refine Wl.no ?_
      refine Wl.q (v := Value.bool true) (q_pick (t := true) rfl rfl) ?_
      refine Wl.done ?_
      refine Wx.go ?_
      refine Wc.yes rfl ?_
      refine Wc.seq ?_
      refine Wc.region ?_
      refine Wl.q (v := Value.bool true) (q_assign rfl) ?_
      refine Wl.done ?_
      refine Wx.go ?_
      refine Wc.ret ?_
      refine Wx.thenRet ?_
      refine Wx.fin1 rfl (.inl rfl) (fun w hs => ?_)
      exact ⟨(), trivial, rfl, hs⟩
    ·
      refine Wl.q (v := Value.bool false) (q_lss (r := false) rfl rfl (decide_eq_false h2)) ?_
      refine Wl.q (v := Value.bool false) (q_pick (t := false) rfl rfl) ?_
      refine Wl.q (v := Value.bool false) (q_move rfl) ?_
      refine Wl.q (v := Value.int .i64 n) (q_move rfl) ?_
      by_cases h3 : n > 100
      ·
        refine Wl.q (v := Value.bool true) (q_gtr (r := true) rfl rfl (decide_eq_true h3)) ?_
        refine Wl.q (v := Value.bool true) (q_pick (t := false) rfl rfl) ?_
        refine Wl.q (v := Value.bool true) (q_move rfl) ?_
        refine Wl.no ?_
        refine Wl.no ?_
        refine Wl.q (v := Value.bool true) (q_pick (t := true) rfl rfl) ?_
        refine Wl.done ?_
        refine Wx.go ?_
        refine Wc.yes rfl ?_
        refine Wc.seq ?_
        refine Wc.region ?_
        refine Wl.q (v := Value.bool true) (q_assign rfl) ?_
        refine Wl.done ?_
        refine Wx.go ?_
        refine Wc.ret ?_
        refine Wx.thenRet ?_
        refine Wx.fin1 rfl (.inl rfl) (fun w hs => ?_)
        exact ⟨(), trivial, rfl, hs⟩
      ·
        refine Wl.q (v := Value.bool false) (q_gtr (r := false) rfl rfl (decide_eq_false h3)) ?_
        refine Wl.q (v := Value.bool false) (q_pick (t := false) rfl rfl) ?_
        refine Wl.q (v := Value.bool false) (q_move rfl) ?_
        refine Wl.q (v := Value.int .i64 m) (q_move rfl) ?_
        by_cases h4 : m > 100
        ·
          refine Wl.q (v := Value.bool true) (q_gtr (r := true) rfl rfl (decide_eq_true h4)) ?_
          refine Wl.q (v := Value.bool true) (q_pick (t := false) rfl rfl) ?_
          refine Wl.done ?_
          refine Wx.go ?_
          refine Wc.yes rfl ?_
          refine Wc.seq ?_
          refine Wc.region ?_
          refine Wl.q (v := Value.bool true) (q_assign rfl) ?_
          refine Wl.done ?_
          refine Wx.go ?_
          refine Wc.ret ?_
          refine Wx.thenRet ?_
          refine Wx.fin1 rfl (.inl rfl) (fun w hs => ?_)
          exact ⟨(), trivial, rfl, hs⟩
        ·
          exfalso; omega

theorem apart_law (W0 : World) (a n b m : Int) (ha : i64R a) (hb : i64R b) : Con Try.prog W0 3 #[.int .i64 a, .int .i64 n, .int .i64 b, .int .i64 m] [] (X := Unit) (fun _ => True) (fun _ => .bool true) (fun _ => []) := by
  by_cases h : (0 ≤ n ∧ n ≤ 100) ∧ (0 ≤ m ∧ m ≤ 100)
  · obtain ⟨n, rfl⟩ : ∃ k : Nat, n = (k : Int) := ⟨n.toNat, by omega⟩
    obtain ⟨m, rfl⟩ : ∃ k : Nat, m = (k : Int) := ⟨m.toNat, by omega⟩
    exact apart_in W0 a b ha hb n m (by omega) (by omega)
  · exact apart_out W0 a n b m h

end Go.Proofs.Ytjjghmkjdgogiaa
