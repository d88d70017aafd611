/- What follows: contracts of the calls. -/
import Derived.Test.YtoehhbapilfdbaaDoorDdS
import Derived.Test.YtoehhbapilfdbaaDoorDdLx
namespace Go.Proofs.YtoehhbapilfdbaaDoor
open Go Go.SL Go.Dd Go.RowKit
set_option linter.unusedVariables false
set_option maxRecDepth 8000
theorem sc_4 : scalar Tryd.prog 4 = true := by kernel_rfl
theorem sz_4 : sizeIs Tryd.prog 4 = some 1 := by kernel_rfl
theorem ag_22 : aggSize Tryd.prog 22 = some 3 := by kernel_rfl
theorem eg_22 : Tryd.prog.eqGuardType Tryd.prog.depth 22 = false := by kernel_rfl
theorem eqB3 (a0 a1 a2 b0 b1 b2 : Bool) (w : World) : (Op.equal 22 (.agg #[.bool a0, .bool a1, .bool a2]) (.agg #[.bool b0, .bool b1, .bool b2])).run Tryd.prog w = .ok (a0 == b0 && (a1 == b1 && a2 == b2)) w := by
  cases a0 <;> cases a1 <;> cases a2 <;> cases b0 <;> cases b1 <;> cases b2 <;> kernel_rfl

def tl19_1 : List TermR := [⟨1, 0, 0, 0⟩]

def tl20_2 : List TermR := [⟨1, 0, 0, 0⟩, ⟨1, 1, 0, 0⟩]

def tl21_3 : List TermR := [⟨1, 0, 0, 0⟩, ⟨1, 1, 0, 0⟩, ⟨1, 2, 0, 0⟩]

def tl22_4 : List TermR := [⟨1, 0, 0, 0⟩, ⟨1, 1, 0, 0⟩, ⟨1, 2, 0, 0⟩, ⟨1, 3, 0, 0⟩]

def tl23_5 : List TermR := [⟨1, 0, 0, 0⟩, ⟨1, 1, 0, 0⟩, ⟨1, 2, 0, 0⟩, ⟨1, 3, 0, 0⟩, ⟨1, 4, 0, 0⟩]

def tl24_6 : List TermR := [⟨1, 0, 0, 0⟩, ⟨1, 1, 0, 0⟩, ⟨1, 2, 0, 0⟩, ⟨1, 3, 0, 0⟩, ⟨1, 4, 0, 0⟩, ⟨1, 5, 0, 0⟩]

set_option maxRecDepth 8000 in
set_option maxHeartbeats 4000000 in
theorem un2_Build (W0 : World) (f0 f1 f2 g0 g1 g2 : Bool) (q0 : Nat)  :
    Con Tryd.prog W0 5 #[Value.slice (some ⟨q0, 0, none⟩) 6 6] [pt q0 29 [Value.int .u8 1, Value.int .i64 0, Value.int .i64 0, Value.int .i64 0, Value.int .u8 1, Value.int .i64 1, Value.int .i64 0, Value.int .i64 0, Value.int .u8 1, Value.int .i64 2, Value.int .i64 0, Value.int .i64 0, Value.int .u8 1, Value.int .i64 3, Value.int .i64 0, Value.int .i64 0, Value.int .u8 1, Value.int .i64 4, Value.int .i64 0, Value.int .i64 0, Value.int .u8 1, Value.int .i64 5, Value.int .i64 0, Value.int .i64 0]] (X := Nat × Nat) (fun _ => True) (fun y => Value.tuple #[Value.pointer (some ⟨y.1, 0, none⟩), Value.pointer (some ⟨y.2, 0, none⟩), Value.bool true]) (fun y => [pt q0 29 [Value.int .u8 1, Value.int .i64 0, Value.int .i64 0, Value.int .i64 0, Value.int .u8 1, Value.int .i64 1, Value.int .i64 0, Value.int .i64 0, Value.int .u8 1, Value.int .i64 2, Value.int .i64 0, Value.int .i64 0, Value.int .u8 1, Value.int .i64 3, Value.int .i64 0, Value.int .i64 0, Value.int .u8 1, Value.int .i64 4, Value.int .i64 0, Value.int .i64 0, Value.int .u8 1, Value.int .i64 5, Value.int .i64 0, Value.int .i64 0], storeW y.1 tl24_6, refW y.2 tl24_6]) := by
  refine Con.of (args := [Value.slice (some ⟨q0, 0, none⟩) 6 6]) Tryd.func5 rfl Tryd.ntmps5 rfl (fun F => ?_)
  show Wc _ W0 _ _ _ _ _ ((pt q0 29 [Value.int .u8 1, Value.int .i64 0, Value.int .i64 0, Value.int .i64 0, Value.int .u8 1, Value.int .i64 1, Value.int .i64 0, Value.int .i64 0, Value.int .u8 1, Value.int .i64 2, Value.int .i64 0, Value.int .i64 0, Value.int .u8 1, Value.int .i64 3, Value.int .i64 0, Value.int .i64 0, Value.int .u8 1, Value.int .i64 4, Value.int .i64 0, Value.int .i64 0, Value.int .u8 1, Value.int .i64 5, Value.int .i64 0, Value.int .i64 0]) :: F)
  refine Wc.seq ?_
  refine Wc.region ?_
  refine Wl.q (v := Value.pointer none) (q_assign rfl) ?_
  refine Wl.q (v := Value.pointer none) (q_assign rfl) ?_
  refine Wl.q (v := Value.bool false) (q_assign rfl) ?_
  refine Wl.done ?_
  refine Wx.go ?_
  refine Wc.seq ?_
  refine Wc.region ?_
  refine Wl.e (e_call (F := (pt q0 29 [Value.int .u8 1, Value.int .i64 0, Value.int .i64 0, Value.int .i64 0, Value.int .u8 1, Value.int .i64 1, Value.int .i64 0, Value.int .i64 0, Value.int .u8 1, Value.int .i64 2, Value.int .i64 0, Value.int .i64 0, Value.int .u8 1, Value.int .i64 3, Value.int .i64 0, Value.int .i64 0, Value.int .u8 1, Value.int .i64 4, Value.int .i64 0, Value.int .i64 0, Value.int .u8 1, Value.int .i64 5, Value.int .i64 0, Value.int .i64 0]) :: F) (args := []) Tryd.call10 rfl (tnew_w W0)) (fun s1 _ => ?_)
  refine Wl.imp (L' := (storeW s1 []) :: (pt q0 29 [Value.int .u8 1, Value.int .i64 0, Value.int .i64 0, Value.int .i64 0, Value.int .u8 1, Value.int .i64 1, Value.int .i64 0, Value.int .i64 0, Value.int .u8 1, Value.int .i64 2, Value.int .i64 0, Value.int .i64 0, Value.int .u8 1, Value.int .i64 3, Value.int .i64 0, Value.int .i64 0, Value.int .u8 1, Value.int .i64 4, Value.int .i64 0, Value.int .i64 0, Value.int .u8 1, Value.int .i64 5, Value.int .i64 0, Value.int .i64 0]) :: F) (fun _ h => h) ?_
  refine Wl.q (v := Value.pointer (some ⟨s1, 0, none⟩)) (q_assign rfl) ?_
  refine Wl.done ?_
  refine Wx.go ?_
  refine Wc.seq ?_
  refine Wc.region ?_
  refine Wl.e (e_call (F := (storeW s1 []) :: (pt q0 29 [Value.int .u8 1, Value.int .i64 0, Value.int .i64 0, Value.int .i64 0, Value.int .u8 1, Value.int .i64 1, Value.int .i64 0, Value.int .i64 0, Value.int .u8 1, Value.int .i64 2, Value.int .i64 0, Value.int .i64 0, Value.int .u8 1, Value.int .i64 3, Value.int .i64 0, Value.int .i64 0, Value.int .u8 1, Value.int .i64 4, Value.int .i64 0, Value.int .i64 0, Value.int .u8 1, Value.int .i64 5, Value.int .i64 0, Value.int .i64 0]) :: F) (args := []) Tryd.call11 rfl (rtnew_w W0)) (fun s2 _ => ?_)
  refine Wl.imp (L' := (refW s2 []) :: (storeW s1 []) :: (pt q0 29 [Value.int .u8 1, Value.int .i64 0, Value.int .i64 0, Value.int .i64 0, Value.int .u8 1, Value.int .i64 1, Value.int .i64 0, Value.int .i64 0, Value.int .u8 1, Value.int .i64 2, Value.int .i64 0, Value.int .i64 0, Value.int .u8 1, Value.int .i64 3, Value.int .i64 0, Value.int .i64 0, Value.int .u8 1, Value.int .i64 4, Value.int .i64 0, Value.int .i64 0, Value.int .u8 1, Value.int .i64 5, Value.int .i64 0, Value.int .i64 0]) :: F) (fun _ h => h) ?_
  refine Wl.q (v := Value.pointer (some ⟨s2, 0, none⟩)) (q_assign rfl) ?_
  refine Wl.done ?_
  refine Wx.go ?_
  refine Wc.seq ?_
  refine Wc.seq ?_
  refine Wc.region ?_
  refine Wl.q (v := Value.int .i64 0) (q_assign rfl) ?_
  refine Wl.done ?_
  refine Wx.go ?_
  refine Wc.block ?_
  refine Wc.rounds 64 ?_
  refine Wn.round ?_
  refine Wc.seq ?_
  refine Wc.seq ?_
  refine Wc.region ?_
  refine Wl.q (v := Value.int .i64 0) (q_move rfl) ?_
  refine Wl.q (v := Value.slice (some ⟨q0, 0, none⟩) 6 6) (q_move rfl) ?_
  refine Wl.q (v := Value.int .i64 6) (q_len_slice Tryd.underlying30 rfl) ?_
  refine Wl.q (v := Value.bool true) (q_lss (r := true) rfl rfl (decide_eq_true (by decide))) ?_
  refine Wl.done ?_
  refine Wx.go ?_
  refine Wc.yes rfl ?_
  refine Wc.skip ?_
  refine Wx.go ?_
  refine Wc.seq ?_
  refine Wc.block ?_
  refine Wc.seq ?_
  refine Wc.region ?_
  refine Wl.q (v := Value.pointer (some ⟨s1, 0, none⟩)) (q_move rfl) ?_
  refine Wl.q (v := Value.slice (some ⟨q0, 0, none⟩) 6 6) (q_move rfl) ?_
  refine Wl.q (v := Value.int .i64 0) (q_move rfl) ?_
  refine Wl.q (v := Value.pointer (some ⟨q0, 0, none⟩)) (q_idx (m := 0) se_30 rfl rfl (by omega) (by omega) rfl) ?_
  refine Wl.q (v := Value.agg #[Value.int .u8 1, Value.int .i64 0, Value.int .i64 0, Value.int .i64 0]) (q_loadAgg (vs := [Value.int .u8 1, Value.int .i64 0, Value.int .i64 0, Value.int .i64 0]) ag_29 rfl (Has.of_pt (i := 2) rfl rfl)) ?_
  refine Wl.imp (L' := (storeW s1 []) :: (refW s2 []) :: (pt q0 29 [Value.int .u8 1, Value.int .i64 0, Value.int .i64 0, Value.int .i64 0, Value.int .u8 1, Value.int .i64 1, Value.int .i64 0, Value.int .i64 0, Value.int .u8 1, Value.int .i64 2, Value.int .i64 0, Value.int .i64 0, Value.int .u8 1, Value.int .i64 3, Value.int .i64 0, Value.int .i64 0, Value.int .u8 1, Value.int .i64 4, Value.int .i64 0, Value.int .i64 0, Value.int .u8 1, Value.int .i64 5, Value.int .i64 0, Value.int .i64 0]) :: F) (fun _ h => st_pull [1] h) ?_
  refine Wl.e (e_call (F := (refW s2 []) :: (pt q0 29 [Value.int .u8 1, Value.int .i64 0, Value.int .i64 0, Value.int .i64 0, Value.int .u8 1, Value.int .i64 1, Value.int .i64 0, Value.int .i64 0, Value.int .u8 1, Value.int .i64 2, Value.int .i64 0, Value.int .i64 0, Value.int .u8 1, Value.int .i64 3, Value.int .i64 0, Value.int .i64 0, Value.int .u8 1, Value.int .i64 4, Value.int .i64 0, Value.int .i64 0, Value.int .u8 1, Value.int .i64 5, Value.int .i64 0, Value.int .i64 0]) :: F) (args := [Value.pointer (some ⟨s1, 0, none⟩), Value.agg #[Value.int .u8 1, Value.int .i64 0, Value.int .i64 0, Value.int .i64 0]]) Tryd.call12 rfl (make_w W0 s1 [] tl19_1 ⟨1, 0, 0, 0⟩ 1 1 0 (by unfold okT; decide) (by decide +kernel) rfl)) (fun _ _ => ?_)
  refine Wl.imp (L' := (storeW s1 tl19_1) :: (refW s2 []) :: (pt q0 29 [Value.int .u8 1, Value.int .i64 0, Value.int .i64 0, Value.int .i64 0, Value.int .u8 1, Value.int .i64 1, Value.int .i64 0, Value.int .i64 0, Value.int .u8 1, Value.int .i64 2, Value.int .i64 0, Value.int .i64 0, Value.int .u8 1, Value.int .i64 3, Value.int .i64 0, Value.int .i64 0, Value.int .u8 1, Value.int .i64 4, Value.int .i64 0, Value.int .i64 0, Value.int .u8 1, Value.int .i64 5, Value.int .i64 0, Value.int .i64 0]) :: F) (fun _ h => h) ?_
  refine Wl.q (v := Value.tuple #[Value.int .i64 1, Value.int .i64 0]) (q_move rfl) ?_
  refine Wl.q (v := Value.int .i64 1) (q_extract (i := 0) rfl rfl) ?_
  refine Wl.q (v := Value.int .i64 0) (q_extract (i := 1) rfl rfl) ?_
  refine Wl.q (v := Value.int .i64 1) (q_assign rfl) ?_
  refine Wl.q (v := Value.int .i64 0) (q_assign rfl) ?_
  refine Wl.done ?_
  refine Wx.go ?_
  refine Wc.seq ?_
  refine Wc.region ?_
  refine Wl.q (v := Value.pointer (some ⟨s2, 0, none⟩)) (q_move rfl) ?_
  refine Wl.q (v := Value.slice (some ⟨q0, 0, none⟩) 6 6) (q_move rfl) ?_
  refine Wl.q (v := Value.int .i64 0) (q_move rfl) ?_
  refine Wl.q (v := Value.pointer (some ⟨q0, 0, none⟩)) (q_idx (m := 0) se_30 rfl rfl (by omega) (by omega) rfl) ?_
  refine Wl.q (v := Value.agg #[Value.int .u8 1, Value.int .i64 0, Value.int .i64 0, Value.int .i64 0]) (q_loadAgg (vs := [Value.int .u8 1, Value.int .i64 0, Value.int .i64 0, Value.int .i64 0]) ag_29 rfl (Has.of_pt (i := 2) rfl rfl)) ?_
  refine Wl.imp (L' := (refW s2 []) :: (storeW s1 tl19_1) :: (pt q0 29 [Value.int .u8 1, Value.int .i64 0, Value.int .i64 0, Value.int .i64 0, Value.int .u8 1, Value.int .i64 1, Value.int .i64 0, Value.int .i64 0, Value.int .u8 1, Value.int .i64 2, Value.int .i64 0, Value.int .i64 0, Value.int .u8 1, Value.int .i64 3, Value.int .i64 0, Value.int .i64 0, Value.int .u8 1, Value.int .i64 4, Value.int .i64 0, Value.int .i64 0, Value.int .u8 1, Value.int .i64 5, Value.int .i64 0, Value.int .i64 0]) :: F) (fun _ h => st_pull [1] h) ?_
  refine Wl.e (e_call (F := (storeW s1 tl19_1) :: (pt q0 29 [Value.int .u8 1, Value.int .i64 0, Value.int .i64 0, Value.int .i64 0, Value.int .u8 1, Value.int .i64 1, Value.int .i64 0, Value.int .i64 0, Value.int .u8 1, Value.int .i64 2, Value.int .i64 0, Value.int .i64 0, Value.int .u8 1, Value.int .i64 3, Value.int .i64 0, Value.int .i64 0, Value.int .u8 1, Value.int .i64 4, Value.int .i64 0, Value.int .i64 0, Value.int .u8 1, Value.int .i64 5, Value.int .i64 0, Value.int .i64 0]) :: F) (args := [Value.pointer (some ⟨s2, 0, none⟩), Value.agg #[Value.int .u8 1, Value.int .i64 0, Value.int .i64 0, Value.int .i64 0]]) Tryd.call13 rfl (rmake_w W0 s2 [] tl19_1 ⟨1, 0, 0, 0⟩ 1 1 0 (by unfold okT; decide) (by decide +kernel) rfl)) (fun _ _ => ?_)
  refine Wl.imp (L' := (refW s2 tl19_1) :: (storeW s1 tl19_1) :: (pt q0 29 [Value.int .u8 1, Value.int .i64 0, Value.int .i64 0, Value.int .i64 0, Value.int .u8 1, Value.int .i64 1, Value.int .i64 0, Value.int .i64 0, Value.int .u8 1, Value.int .i64 2, Value.int .i64 0, Value.int .i64 0, Value.int .u8 1, Value.int .i64 3, Value.int .i64 0, Value.int .i64 0, Value.int .u8 1, Value.int .i64 4, Value.int .i64 0, Value.int .i64 0, Value.int .u8 1, Value.int .i64 5, Value.int .i64 0, Value.int .i64 0]) :: F) (fun _ h => h) ?_
  refine Wl.q (v := Value.tuple #[Value.int .i64 1, Value.int .i64 0]) (q_move rfl) ?_
  refine Wl.q (v := Value.int .i64 1) (q_extract (i := 0) rfl rfl) ?_
  refine Wl.q (v := Value.int .i64 0) (q_extract (i := 1) rfl rfl) ?_
  refine Wl.q (v := Value.int .i64 1) (q_assign rfl) ?_
  refine Wl.q (v := Value.int .i64 0) (q_assign rfl) ?_
  refine Wl.done ?_
  refine Wx.go ?_
  refine Wc.seq ?_
  refine Wc.region ?_
  refine Wl.q (v := Value.int .i64 1) (q_move rfl) ?_
  refine Wl.q (v := Value.int .i64 1) (q_move rfl) ?_
  refine Wl.q (v := Value.bool false) (q_neq (r := true) rfl rfl (decide_eq_true (by decide))) ?_
  refine Wl.q (v := Value.bool false) (q_move rfl) ?_
  refine Wl.q (v := Value.int .i64 0) (q_move rfl) ?_
  refine Wl.q (v := Value.int .i64 0) (q_move rfl) ?_
  refine Wl.q (v := Value.bool false) (q_neq (r := true) rfl rfl (decide_eq_true (by decide))) ?_
  refine Wl.q (v := Value.bool false) (q_pick (t := false) rfl rfl) ?_
  refine Wl.done ?_
  refine Wx.go ?_
  refine Wc.no rfl ?_
  refine Wc.skip ?_
  refine Wx.blockEnd ?_
  refine Wx.go ?_
  refine Wc.region ?_
  refine Wl.q (v := Value.int .i64 0) (q_move rfl) ?_
  refine Wl.q (v := Value.int .i64 1) (q_add (c := 1) rfl rfl (by decide)) ?_
  refine Wl.q (v := Value.int .i64 1) (q_assign rfl) ?_
  refine Wl.done ?_
  refine Wx.again ?_
  refine Wn.round ?_
  refine Wc.seq ?_
  refine Wc.seq ?_
  refine Wc.region ?_
  refine Wl.q (v := Value.int .i64 1) (q_move rfl) ?_
  refine Wl.q (v := Value.slice (some ⟨q0, 0, none⟩) 6 6) (q_move rfl) ?_
  refine Wl.q (v := Value.int .i64 6) (q_len_slice Tryd.underlying30 rfl) ?_
  refine Wl.q (v := Value.bool true) (q_lss (r := true) rfl rfl (decide_eq_true (by decide))) ?_
  refine Wl.done ?_
  refine Wx.go ?_
  refine Wc.yes rfl ?_
  refine Wc.skip ?_
  refine Wx.go ?_
  refine Wc.seq ?_
  refine Wc.block ?_
  refine Wc.seq ?_
  refine Wc.region ?_
  refine Wl.q (v := Value.pointer (some ⟨s1, 0, none⟩)) (q_move rfl) ?_
  refine Wl.q (v := Value.slice (some ⟨q0, 0, none⟩) 6 6) (q_move rfl) ?_
  refine Wl.q (v := Value.int .i64 1) (q_move rfl) ?_
  refine Wl.q (v := Value.pointer (some ⟨q0, 4, none⟩)) (q_idx (m := 4) se_30 rfl rfl (by omega) (by omega) rfl) ?_
  refine Wl.q (v := Value.agg #[Value.int .u8 1, Value.int .i64 1, Value.int .i64 0, Value.int .i64 0]) (q_loadAgg (vs := [Value.int .u8 1, Value.int .i64 1, Value.int .i64 0, Value.int .i64 0]) ag_29 rfl (Has.of_pt (i := 2) rfl rfl)) ?_
  refine Wl.imp (L' := (storeW s1 tl19_1) :: (refW s2 tl19_1) :: (pt q0 29 [Value.int .u8 1, Value.int .i64 0, Value.int .i64 0, Value.int .i64 0, Value.int .u8 1, Value.int .i64 1, Value.int .i64 0, Value.int .i64 0, Value.int .u8 1, Value.int .i64 2, Value.int .i64 0, Value.int .i64 0, Value.int .u8 1, Value.int .i64 3, Value.int .i64 0, Value.int .i64 0, Value.int .u8 1, Value.int .i64 4, Value.int .i64 0, Value.int .i64 0, Value.int .u8 1, Value.int .i64 5, Value.int .i64 0, Value.int .i64 0]) :: F) (fun _ h => st_pull [1] h) ?_
  refine Wl.e (e_call (F := (refW s2 tl19_1) :: (pt q0 29 [Value.int .u8 1, Value.int .i64 0, Value.int .i64 0, Value.int .i64 0, Value.int .u8 1, Value.int .i64 1, Value.int .i64 0, Value.int .i64 0, Value.int .u8 1, Value.int .i64 2, Value.int .i64 0, Value.int .i64 0, Value.int .u8 1, Value.int .i64 3, Value.int .i64 0, Value.int .i64 0, Value.int .u8 1, Value.int .i64 4, Value.int .i64 0, Value.int .i64 0, Value.int .u8 1, Value.int .i64 5, Value.int .i64 0, Value.int .i64 0]) :: F) (args := [Value.pointer (some ⟨s1, 0, none⟩), Value.agg #[Value.int .u8 1, Value.int .i64 1, Value.int .i64 0, Value.int .i64 0]]) Tryd.call12 rfl (make_w W0 s1 tl19_1 tl20_2 ⟨1, 1, 0, 0⟩ 2 2 0 (by unfold okT; decide) (by decide +kernel) rfl)) (fun _ _ => ?_)
  refine Wl.imp (L' := (storeW s1 tl20_2) :: (refW s2 tl19_1) :: (pt q0 29 [Value.int .u8 1, Value.int .i64 0, Value.int .i64 0, Value.int .i64 0, Value.int .u8 1, Value.int .i64 1, Value.int .i64 0, Value.int .i64 0, Value.int .u8 1, Value.int .i64 2, Value.int .i64 0, Value.int .i64 0, Value.int .u8 1, Value.int .i64 3, Value.int .i64 0, Value.int .i64 0, Value.int .u8 1, Value.int .i64 4, Value.int .i64 0, Value.int .i64 0, Value.int .u8 1, Value.int .i64 5, Value.int .i64 0, Value.int .i64 0]) :: F) (fun _ h => h) ?_
  refine Wl.q (v := Value.tuple #[Value.int .i64 2, Value.int .i64 0]) (q_move rfl) ?_
  refine Wl.q (v := Value.int .i64 2) (q_extract (i := 0) rfl rfl) ?_
  refine Wl.q (v := Value.int .i64 0) (q_extract (i := 1) rfl rfl) ?_
  refine Wl.q (v := Value.int .i64 2) (q_assign rfl) ?_
  refine Wl.q (v := Value.int .i64 0) (q_assign rfl) ?_
  refine Wl.done ?_
  refine Wx.go ?_
  refine Wc.seq ?_
  refine Wc.region ?_
  refine Wl.q (v := Value.pointer (some ⟨s2, 0, none⟩)) (q_move rfl) ?_
  refine Wl.q (v := Value.slice (some ⟨q0, 0, none⟩) 6 6) (q_move rfl) ?_
  refine Wl.q (v := Value.int .i64 1) (q_move rfl) ?_
  refine Wl.q (v := Value.pointer (some ⟨q0, 4, none⟩)) (q_idx (m := 4) se_30 rfl rfl (by omega) (by omega) rfl) ?_
  refine Wl.q (v := Value.agg #[Value.int .u8 1, Value.int .i64 1, Value.int .i64 0, Value.int .i64 0]) (q_loadAgg (vs := [Value.int .u8 1, Value.int .i64 1, Value.int .i64 0, Value.int .i64 0]) ag_29 rfl (Has.of_pt (i := 2) rfl rfl)) ?_
  refine Wl.imp (L' := (refW s2 tl19_1) :: (storeW s1 tl20_2) :: (pt q0 29 [Value.int .u8 1, Value.int .i64 0, Value.int .i64 0, Value.int .i64 0, Value.int .u8 1, Value.int .i64 1, Value.int .i64 0, Value.int .i64 0, Value.int .u8 1, Value.int .i64 2, Value.int .i64 0, Value.int .i64 0, Value.int .u8 1, Value.int .i64 3, Value.int .i64 0, Value.int .i64 0, Value.int .u8 1, Value.int .i64 4, Value.int .i64 0, Value.int .i64 0, Value.int .u8 1, Value.int .i64 5, Value.int .i64 0, Value.int .i64 0]) :: F) (fun _ h => st_pull [1] h) ?_
  refine Wl.e (e_call (F := (storeW s1 tl20_2) :: (pt q0 29 [Value.int .u8 1, Value.int .i64 0, Value.int .i64 0, Value.int .i64 0, Value.int .u8 1, Value.int .i64 1, Value.int .i64 0, Value.int .i64 0, Value.int .u8 1, Value.int .i64 2, Value.int .i64 0, Value.int .i64 0, Value.int .u8 1, Value.int .i64 3, Value.int .i64 0, Value.int .i64 0, Value.int .u8 1, Value.int .i64 4, Value.int .i64 0, Value.int .i64 0, Value.int .u8 1, Value.int .i64 5, Value.int .i64 0, Value.int .i64 0]) :: F) (args := [Value.pointer (some ⟨s2, 0, none⟩), Value.agg #[Value.int .u8 1, Value.int .i64 1, Value.int .i64 0, Value.int .i64 0]]) Tryd.call13 rfl (rmake_w W0 s2 tl19_1 tl20_2 ⟨1, 1, 0, 0⟩ 2 2 0 (by unfold okT; decide) (by decide +kernel) rfl)) (fun _ _ => ?_)
  refine Wl.imp (L' := (refW s2 tl20_2) :: (storeW s1 tl20_2) :: (pt q0 29 [Value.int .u8 1, Value.int .i64 0, Value.int .i64 0, Value.int .i64 0, Value.int .u8 1, Value.int .i64 1, Value.int .i64 0, Value.int .i64 0, Value.int .u8 1, Value.int .i64 2, Value.int .i64 0, Value.int .i64 0, Value.int .u8 1, Value.int .i64 3, Value.int .i64 0, Value.int .i64 0, Value.int .u8 1, Value.int .i64 4, Value.int .i64 0, Value.int .i64 0, Value.int .u8 1, Value.int .i64 5, Value.int .i64 0, Value.int .i64 0]) :: F) (fun _ h => h) ?_
  refine Wl.q (v := Value.tuple #[Value.int .i64 2, Value.int .i64 0]) (q_move rfl) ?_
  refine Wl.q (v := Value.int .i64 2) (q_extract (i := 0) rfl rfl) ?_
  refine Wl.q (v := Value.int .i64 0) (q_extract (i := 1) rfl rfl) ?_
  refine Wl.q (v := Value.int .i64 2) (q_assign rfl) ?_
  refine Wl.q (v := Value.int .i64 0) (q_assign rfl) ?_
  refine Wl.done ?_
  refine Wx.go ?_
  refine Wc.seq ?_
  refine Wc.region ?_
  refine Wl.q (v := Value.int .i64 2) (q_move rfl) ?_
  refine Wl.q (v := Value.int .i64 2) (q_move rfl) ?_
  refine Wl.q (v := Value.bool false) (q_neq (r := true) rfl rfl (decide_eq_true (by decide))) ?_
  refine Wl.q (v := Value.bool false) (q_move rfl) ?_
  refine Wl.q (v := Value.int .i64 0) (q_move rfl) ?_
  refine Wl.q (v := Value.int .i64 0) (q_move rfl) ?_
  refine Wl.q (v := Value.bool false) (q_neq (r := true) rfl rfl (decide_eq_true (by decide))) ?_
  refine Wl.q (v := Value.bool false) (q_pick (t := false) rfl rfl) ?_
  refine Wl.done ?_
  refine Wx.go ?_
  refine Wc.no rfl ?_
  refine Wc.skip ?_
  refine Wx.blockEnd ?_
  refine Wx.go ?_
  refine Wc.region ?_
  refine Wl.q (v := Value.int .i64 1) (q_move rfl) ?_
  refine Wl.q (v := Value.int .i64 2) (q_add (c := 2) rfl rfl (by decide)) ?_
  refine Wl.q (v := Value.int .i64 2) (q_assign rfl) ?_
  refine Wl.done ?_
  refine Wx.again ?_
  refine Wn.round ?_
  refine Wc.seq ?_
  refine Wc.seq ?_
  refine Wc.region ?_
  refine Wl.q (v := Value.int .i64 2) (q_move rfl) ?_
  refine Wl.q (v := Value.slice (some ⟨q0, 0, none⟩) 6 6) (q_move rfl) ?_
  refine Wl.q (v := Value.int .i64 6) (q_len_slice Tryd.underlying30 rfl) ?_
  refine Wl.q (v := Value.bool true) (q_lss (r := true) rfl rfl (decide_eq_true (by decide))) ?_
  refine Wl.done ?_
  refine Wx.go ?_
  refine Wc.yes rfl ?_
  refine Wc.skip ?_
  refine Wx.go ?_
  refine Wc.seq ?_
  refine Wc.block ?_
  refine Wc.seq ?_
  refine Wc.region ?_
  refine Wl.q (v := Value.pointer (some ⟨s1, 0, none⟩)) (q_move rfl) ?_
  refine Wl.q (v := Value.slice (some ⟨q0, 0, none⟩) 6 6) (q_move rfl) ?_
  refine Wl.q (v := Value.int .i64 2) (q_move rfl) ?_
  refine Wl.q (v := Value.pointer (some ⟨q0, 8, none⟩)) (q_idx (m := 8) se_30 rfl rfl (by omega) (by omega) rfl) ?_
  refine Wl.q (v := Value.agg #[Value.int .u8 1, Value.int .i64 2, Value.int .i64 0, Value.int .i64 0]) (q_loadAgg (vs := [Value.int .u8 1, Value.int .i64 2, Value.int .i64 0, Value.int .i64 0]) ag_29 rfl (Has.of_pt (i := 2) rfl rfl)) ?_
  refine Wl.imp (L' := (storeW s1 tl20_2) :: (refW s2 tl20_2) :: (pt q0 29 [Value.int .u8 1, Value.int .i64 0, Value.int .i64 0, Value.int .i64 0, Value.int .u8 1, Value.int .i64 1, Value.int .i64 0, Value.int .i64 0, Value.int .u8 1, Value.int .i64 2, Value.int .i64 0, Value.int .i64 0, Value.int .u8 1, Value.int .i64 3, Value.int .i64 0, Value.int .i64 0, Value.int .u8 1, Value.int .i64 4, Value.int .i64 0, Value.int .i64 0, Value.int .u8 1, Value.int .i64 5, Value.int .i64 0, Value.int .i64 0]) :: F) (fun _ h => st_pull [1] h) ?_
  refine Wl.e (e_call (F := (refW s2 tl20_2) :: (pt q0 29 [Value.int .u8 1, Value.int .i64 0, Value.int .i64 0, Value.int .i64 0, Value.int .u8 1, Value.int .i64 1, Value.int .i64 0, Value.int .i64 0, Value.int .u8 1, Value.int .i64 2, Value.int .i64 0, Value.int .i64 0, Value.int .u8 1, Value.int .i64 3, Value.int .i64 0, Value.int .i64 0, Value.int .u8 1, Value.int .i64 4, Value.int .i64 0, Value.int .i64 0, Value.int .u8 1, Value.int .i64 5, Value.int .i64 0, Value.int .i64 0]) :: F) (args := [Value.pointer (some ⟨s1, 0, none⟩), Value.agg #[Value.int .u8 1, Value.int .i64 2, Value.int .i64 0, Value.int .i64 0]]) Tryd.call12 rfl (make_w W0 s1 tl20_2 tl21_3 ⟨1, 2, 0, 0⟩ 3 3 0 (by unfold okT; decide) (by decide +kernel) rfl)) (fun _ _ => ?_)
  refine Wl.imp (L' := (storeW s1 tl21_3) :: (refW s2 tl20_2) :: (pt q0 29 [Value.int .u8 1, Value.int .i64 0, Value.int .i64 0, Value.int .i64 0, Value.int .u8 1, Value.int .i64 1, Value.int .i64 0, Value.int .i64 0, Value.int .u8 1, Value.int .i64 2, Value.int .i64 0, Value.int .i64 0, Value.int .u8 1, Value.int .i64 3, Value.int .i64 0, Value.int .i64 0, Value.int .u8 1, Value.int .i64 4, Value.int .i64 0, Value.int .i64 0, Value.int .u8 1, Value.int .i64 5, Value.int .i64 0, Value.int .i64 0]) :: F) (fun _ h => h) ?_
  refine Wl.q (v := Value.tuple #[Value.int .i64 3, Value.int .i64 0]) (q_move rfl) ?_
  refine Wl.q (v := Value.int .i64 3) (q_extract (i := 0) rfl rfl) ?_
  refine Wl.q (v := Value.int .i64 0) (q_extract (i := 1) rfl rfl) ?_
  refine Wl.q (v := Value.int .i64 3) (q_assign rfl) ?_
  refine Wl.q (v := Value.int .i64 0) (q_assign rfl) ?_
  refine Wl.done ?_
  refine Wx.go ?_
  refine Wc.seq ?_
  refine Wc.region ?_
  refine Wl.q (v := Value.pointer (some ⟨s2, 0, none⟩)) (q_move rfl) ?_
  refine Wl.q (v := Value.slice (some ⟨q0, 0, none⟩) 6 6) (q_move rfl) ?_
  refine Wl.q (v := Value.int .i64 2) (q_move rfl) ?_
  refine Wl.q (v := Value.pointer (some ⟨q0, 8, none⟩)) (q_idx (m := 8) se_30 rfl rfl (by omega) (by omega) rfl) ?_
  refine Wl.q (v := Value.agg #[Value.int .u8 1, Value.int .i64 2, Value.int .i64 0, Value.int .i64 0]) (q_loadAgg (vs := [Value.int .u8 1, Value.int .i64 2, Value.int .i64 0, Value.int .i64 0]) ag_29 rfl (Has.of_pt (i := 2) rfl rfl)) ?_
  refine Wl.imp (L' := (refW s2 tl20_2) :: (storeW s1 tl21_3) :: (pt q0 29 [Value.int .u8 1, Value.int .i64 0, Value.int .i64 0, Value.int .i64 0, Value.int .u8 1, Value.int .i64 1, Value.int .i64 0, Value.int .i64 0, Value.int .u8 1, Value.int .i64 2, Value.int .i64 0, Value.int .i64 0, Value.int .u8 1, Value.int .i64 3, Value.int .i64 0, Value.int .i64 0, Value.int .u8 1, Value.int .i64 4, Value.int .i64 0, Value.int .i64 0, Value.int .u8 1, Value.int .i64 5, Value.int .i64 0, Value.int .i64 0]) :: F) (fun _ h => st_pull [1] h) ?_
  refine Wl.e (e_call (F := (storeW s1 tl21_3) :: (pt q0 29 [Value.int .u8 1, Value.int .i64 0, Value.int .i64 0, Value.int .i64 0, Value.int .u8 1, Value.int .i64 1, Value.int .i64 0, Value.int .i64 0, Value.int .u8 1, Value.int .i64 2, Value.int .i64 0, Value.int .i64 0, Value.int .u8 1, Value.int .i64 3, Value.int .i64 0, Value.int .i64 0, Value.int .u8 1, Value.int .i64 4, Value.int .i64 0, Value.int .i64 0, Value.int .u8 1, Value.int .i64 5, Value.int .i64 0, Value.int .i64 0]) :: F) (args := [Value.pointer (some ⟨s2, 0, none⟩), Value.agg #[Value.int .u8 1, Value.int .i64 2, Value.int .i64 0, Value.int .i64 0]]) Tryd.call13 rfl (rmake_w W0 s2 tl20_2 tl21_3 ⟨1, 2, 0, 0⟩ 3 3 0 (by unfold okT; decide) (by decide +kernel) rfl)) (fun _ _ => ?_)
  refine Wl.imp (L' := (refW s2 tl21_3) :: (storeW s1 tl21_3) :: (pt q0 29 [Value.int .u8 1, Value.int .i64 0, Value.int .i64 0, Value.int .i64 0, Value.int .u8 1, Value.int .i64 1, Value.int .i64 0, Value.int .i64 0, Value.int .u8 1, Value.int .i64 2, Value.int .i64 0, Value.int .i64 0, Value.int .u8 1, Value.int .i64 3, Value.int .i64 0, Value.int .i64 0, Value.int .u8 1, Value.int .i64 4, Value.int .i64 0, Value.int .i64 0, Value.int .u8 1, Value.int .i64 5, Value.int .i64 0, Value.int .i64 0]) :: F) (fun _ h => h) ?_
  refine Wl.q (v := Value.tuple #[Value.int .i64 3, Value.int .i64 0]) (q_move rfl) ?_
  refine Wl.q (v := Value.int .i64 3) (q_extract (i := 0) rfl rfl) ?_
  refine Wl.q (v := Value.int .i64 0) (q_extract (i := 1) rfl rfl) ?_
  refine Wl.q (v := Value.int .i64 3) (q_assign rfl) ?_
  refine Wl.q (v := Value.int .i64 0) (q_assign rfl) ?_
  refine Wl.done ?_
  refine Wx.go ?_
  refine Wc.seq ?_
  refine Wc.region ?_
  refine Wl.q (v := Value.int .i64 3) (q_move rfl) ?_
  refine Wl.q (v := Value.int .i64 3) (q_move rfl) ?_
  refine Wl.q (v := Value.bool false) (q_neq (r := true) rfl rfl (decide_eq_true (by decide))) ?_
  refine Wl.q (v := Value.bool false) (q_move rfl) ?_
  refine Wl.q (v := Value.int .i64 0) (q_move rfl) ?_
  refine Wl.q (v := Value.int .i64 0) (q_move rfl) ?_
  refine Wl.q (v := Value.bool false) (q_neq (r := true) rfl rfl (decide_eq_true (by decide))) ?_
  refine Wl.q (v := Value.bool false) (q_pick (t := false) rfl rfl) ?_
  refine Wl.done ?_
  refine Wx.go ?_
  refine Wc.no rfl ?_
  refine Wc.skip ?_
  refine Wx.blockEnd ?_
  refine Wx.go ?_
  refine Wc.region ?_
  refine Wl.q (v := Value.int .i64 2) (q_move rfl) ?_
  refine Wl.q (v := Value.int .i64 3) (q_add (c := 3) rfl rfl (by decide)) ?_
  refine Wl.q (v := Value.int .i64 3) (q_assign rfl) ?_
  refine Wl.done ?_
  refine Wx.again ?_
  refine Wn.round ?_
  refine Wc.seq ?_
  refine Wc.seq ?_
  refine Wc.region ?_
  refine Wl.q (v := Value.int .i64 3) (q_move rfl) ?_
  refine Wl.q (v := Value.slice (some ⟨q0, 0, none⟩) 6 6) (q_move rfl) ?_
  refine Wl.q (v := Value.int .i64 6) (q_len_slice Tryd.underlying30 rfl) ?_
  refine Wl.q (v := Value.bool true) (q_lss (r := true) rfl rfl (decide_eq_true (by decide))) ?_
  refine Wl.done ?_
  refine Wx.go ?_
  refine Wc.yes rfl ?_
  refine Wc.skip ?_
  refine Wx.go ?_
  refine Wc.seq ?_
  refine Wc.block ?_
  refine Wc.seq ?_
  refine Wc.region ?_
  refine Wl.q (v := Value.pointer (some ⟨s1, 0, none⟩)) (q_move rfl) ?_
  refine Wl.q (v := Value.slice (some ⟨q0, 0, none⟩) 6 6) (q_move rfl) ?_
  refine Wl.q (v := Value.int .i64 3) (q_move rfl) ?_
  refine Wl.q (v := Value.pointer (some ⟨q0, 12, none⟩)) (q_idx (m := 12) se_30 rfl rfl (by omega) (by omega) rfl) ?_
  refine Wl.q (v := Value.agg #[Value.int .u8 1, Value.int .i64 3, Value.int .i64 0, Value.int .i64 0]) (q_loadAgg (vs := [Value.int .u8 1, Value.int .i64 3, Value.int .i64 0, Value.int .i64 0]) ag_29 rfl (Has.of_pt (i := 2) rfl rfl)) ?_
  refine Wl.imp (L' := (storeW s1 tl21_3) :: (refW s2 tl21_3) :: (pt q0 29 [Value.int .u8 1, Value.int .i64 0, Value.int .i64 0, Value.int .i64 0, Value.int .u8 1, Value.int .i64 1, Value.int .i64 0, Value.int .i64 0, Value.int .u8 1, Value.int .i64 2, Value.int .i64 0, Value.int .i64 0, Value.int .u8 1, Value.int .i64 3, Value.int .i64 0, Value.int .i64 0, Value.int .u8 1, Value.int .i64 4, Value.int .i64 0, Value.int .i64 0, Value.int .u8 1, Value.int .i64 5, Value.int .i64 0, Value.int .i64 0]) :: F) (fun _ h => st_pull [1] h) ?_
  refine Wl.e (e_call (F := (refW s2 tl21_3) :: (pt q0 29 [Value.int .u8 1, Value.int .i64 0, Value.int .i64 0, Value.int .i64 0, Value.int .u8 1, Value.int .i64 1, Value.int .i64 0, Value.int .i64 0, Value.int .u8 1, Value.int .i64 2, Value.int .i64 0, Value.int .i64 0, Value.int .u8 1, Value.int .i64 3, Value.int .i64 0, Value.int .i64 0, Value.int .u8 1, Value.int .i64 4, Value.int .i64 0, Value.int .i64 0, Value.int .u8 1, Value.int .i64 5, Value.int .i64 0, Value.int .i64 0]) :: F) (args := [Value.pointer (some ⟨s1, 0, none⟩), Value.agg #[Value.int .u8 1, Value.int .i64 3, Value.int .i64 0, Value.int .i64 0]]) Tryd.call12 rfl (make_w W0 s1 tl21_3 tl22_4 ⟨1, 3, 0, 0⟩ 4 4 0 (by unfold okT; decide) (by decide +kernel) rfl)) (fun _ _ => ?_)
  refine Wl.imp (L' := (storeW s1 tl22_4) :: (refW s2 tl21_3) :: (pt q0 29 [Value.int .u8 1, Value.int .i64 0, Value.int .i64 0, Value.int .i64 0, Value.int .u8 1, Value.int .i64 1, Value.int .i64 0, Value.int .i64 0, Value.int .u8 1, Value.int .i64 2, Value.int .i64 0, Value.int .i64 0, Value.int .u8 1, Value.int .i64 3, Value.int .i64 0, Value.int .i64 0, Value.int .u8 1, Value.int .i64 4, Value.int .i64 0, Value.int .i64 0, Value.int .u8 1, Value.int .i64 5, Value.int .i64 0, Value.int .i64 0]) :: F) (fun _ h => h) ?_
  refine Wl.q (v := Value.tuple #[Value.int .i64 4, Value.int .i64 0]) (q_move rfl) ?_
  refine Wl.q (v := Value.int .i64 4) (q_extract (i := 0) rfl rfl) ?_
  refine Wl.q (v := Value.int .i64 0) (q_extract (i := 1) rfl rfl) ?_
  refine Wl.q (v := Value.int .i64 4) (q_assign rfl) ?_
  refine Wl.q (v := Value.int .i64 0) (q_assign rfl) ?_
  refine Wl.done ?_
  refine Wx.go ?_
  refine Wc.seq ?_
  refine Wc.region ?_
  refine Wl.q (v := Value.pointer (some ⟨s2, 0, none⟩)) (q_move rfl) ?_
  refine Wl.q (v := Value.slice (some ⟨q0, 0, none⟩) 6 6) (q_move rfl) ?_
  refine Wl.q (v := Value.int .i64 3) (q_move rfl) ?_
  refine Wl.q (v := Value.pointer (some ⟨q0, 12, none⟩)) (q_idx (m := 12) se_30 rfl rfl (by omega) (by omega) rfl) ?_
  refine Wl.q (v := Value.agg #[Value.int .u8 1, Value.int .i64 3, Value.int .i64 0, Value.int .i64 0]) (q_loadAgg (vs := [Value.int .u8 1, Value.int .i64 3, Value.int .i64 0, Value.int .i64 0]) ag_29 rfl (Has.of_pt (i := 2) rfl rfl)) ?_
  refine Wl.imp (L' := (refW s2 tl21_3) :: (storeW s1 tl22_4) :: (pt q0 29 [Value.int .u8 1, Value.int .i64 0, Value.int .i64 0, Value.int .i64 0, Value.int .u8 1, Value.int .i64 1, Value.int .i64 0, Value.int .i64 0, Value.int .u8 1, Value.int .i64 2, Value.int .i64 0, Value.int .i64 0, Value.int .u8 1, Value.int .i64 3, Value.int .i64 0, Value.int .i64 0, Value.int .u8 1, Value.int .i64 4, Value.int .i64 0, Value.int .i64 0, Value.int .u8 1, Value.int .i64 5, Value.int .i64 0, Value.int .i64 0]) :: F) (fun _ h => st_pull [1] h) ?_
  refine Wl.e (e_call (F := (storeW s1 tl22_4) :: (pt q0 29 [Value.int .u8 1, Value.int .i64 0, Value.int .i64 0, Value.int .i64 0, Value.int .u8 1, Value.int .i64 1, Value.int .i64 0, Value.int .i64 0, Value.int .u8 1, Value.int .i64 2, Value.int .i64 0, Value.int .i64 0, Value.int .u8 1, Value.int .i64 3, Value.int .i64 0, Value.int .i64 0, Value.int .u8 1, Value.int .i64 4, Value.int .i64 0, Value.int .i64 0, Value.int .u8 1, Value.int .i64 5, Value.int .i64 0, Value.int .i64 0]) :: F) (args := [Value.pointer (some ⟨s2, 0, none⟩), Value.agg #[Value.int .u8 1, Value.int .i64 3, Value.int .i64 0, Value.int .i64 0]]) Tryd.call13 rfl (rmake_w W0 s2 tl21_3 tl22_4 ⟨1, 3, 0, 0⟩ 4 4 0 (by unfold okT; decide) (by decide +kernel) rfl)) (fun _ _ => ?_)
  refine Wl.imp (L' := (refW s2 tl22_4) :: (storeW s1 tl22_4) :: (pt q0 29 [Value.int .u8 1, Value.int .i64 0, Value.int .i64 0, Value.int .i64 0, Value.int .u8 1, Value.int .i64 1, Value.int .i64 0, Value.int .i64 0, Value.int .u8 1, Value.int .i64 2, Value.int .i64 0, Value.int .i64 0, Value.int .u8 1, Value.int .i64 3, Value.int .i64 0, Value.int .i64 0, Value.int .u8 1, Value.int .i64 4, Value.int .i64 0, Value.int .i64 0, Value.int .u8 1, Value.int .i64 5, Value.int .i64 0, Value.int .i64 0]) :: F) (fun _ h => h) ?_
  refine Wl.q (v := Value.tuple #[Value.int .i64 4, Value.int .i64 0]) (q_move rfl) ?_
  refine Wl.q (v := Value.int .i64 4) (q_extract (i := 0) rfl rfl) ?_
  refine Wl.q (v := Value.int .i64 0) (q_extract (i := 1) rfl rfl) ?_
  refine Wl.q (v := Value.int .i64 4) (q_assign rfl) ?_
  refine Wl.q (v := Value.int .i64 0) (q_assign rfl) ?_
  refine Wl.done ?_
  refine Wx.go ?_
  refine Wc.seq ?_
  refine Wc.region ?_
  refine Wl.q (v := Value.int .i64 4) (q_move rfl) ?_
  refine Wl.q (v := Value.int .i64 4) (q_move rfl) ?_
  refine Wl.q (v := Value.bool false) (q_neq (r := true) rfl rfl (decide_eq_true (by decide))) ?_
  refine Wl.q (v := Value.bool false) (q_move rfl) ?_
  refine Wl.q (v := Value.int .i64 0) (q_move rfl) ?_
  refine Wl.q (v := Value.int .i64 0) (q_move rfl) ?_
  refine Wl.q (v := Value.bool false) (q_neq (r := true) rfl rfl (decide_eq_true (by decide))) ?_
  refine Wl.q (v := Value.bool false) (q_pick (t := false) rfl rfl) ?_
  refine Wl.done ?_
  refine Wx.go ?_
  refine Wc.no rfl ?_
  refine Wc.skip ?_
  refine Wx.blockEnd ?_
  refine Wx.go ?_
  refine Wc.region ?_
  refine Wl.q (v := Value.int .i64 3) (q_move rfl) ?_
  refine Wl.q (v := Value.int .i64 4) (q_add (c := 4) rfl rfl (by decide)) ?_
  refine Wl.q (v := Value.int .i64 4) (q_assign rfl) ?_
  refine Wl.done ?_
  refine Wx.again ?_
  refine Wn.round ?_
  refine Wc.seq ?_
  refine Wc.seq ?_
  refine Wc.region ?_
  refine Wl.q (v := Value.int .i64 4) (q_move rfl) ?_
  refine Wl.q (v := Value.slice (some ⟨q0, 0, none⟩) 6 6) (q_move rfl) ?_
  refine Wl.q (v := Value.int .i64 6) (q_len_slice Tryd.underlying30 rfl) ?_
  refine Wl.q (v := Value.bool true) (q_lss (r := true) rfl rfl (decide_eq_true (by decide))) ?_
  refine Wl.done ?_
  refine Wx.go ?_
  refine Wc.yes rfl ?_
  refine Wc.skip ?_
  refine Wx.go ?_
  refine Wc.seq ?_
  refine Wc.block ?_
  refine Wc.seq ?_
  refine Wc.region ?_
  refine Wl.q (v := Value.pointer (some ⟨s1, 0, none⟩)) (q_move rfl) ?_
  refine Wl.q (v := Value.slice (some ⟨q0, 0, none⟩) 6 6) (q_move rfl) ?_
  refine Wl.q (v := Value.int .i64 4) (q_move rfl) ?_
  refine Wl.q (v := Value.pointer (some ⟨q0, 16, none⟩)) (q_idx (m := 16) se_30 rfl rfl (by omega) (by omega) rfl) ?_
  refine Wl.q (v := Value.agg #[Value.int .u8 1, Value.int .i64 4, Value.int .i64 0, Value.int .i64 0]) (q_loadAgg (vs := [Value.int .u8 1, Value.int .i64 4, Value.int .i64 0, Value.int .i64 0]) ag_29 rfl (Has.of_pt (i := 2) rfl rfl)) ?_
  refine Wl.imp (L' := (storeW s1 tl22_4) :: (refW s2 tl22_4) :: (pt q0 29 [Value.int .u8 1, Value.int .i64 0, Value.int .i64 0, Value.int .i64 0, Value.int .u8 1, Value.int .i64 1, Value.int .i64 0, Value.int .i64 0, Value.int .u8 1, Value.int .i64 2, Value.int .i64 0, Value.int .i64 0, Value.int .u8 1, Value.int .i64 3, Value.int .i64 0, Value.int .i64 0, Value.int .u8 1, Value.int .i64 4, Value.int .i64 0, Value.int .i64 0, Value.int .u8 1, Value.int .i64 5, Value.int .i64 0, Value.int .i64 0]) :: F) (fun _ h => st_pull [1] h) ?_
  refine Wl.e (e_call (F := (refW s2 tl22_4) :: (pt q0 29 [Value.int .u8 1, Value.int .i64 0, Value.int .i64 0, Value.int .i64 0, Value.int .u8 1, Value.int .i64 1, Value.int .i64 0, Value.int .i64 0, Value.int .u8 1, Value.int .i64 2, Value.int .i64 0, Value.int .i64 0, Value.int .u8 1, Value.int .i64 3, Value.int .i64 0, Value.int .i64 0, Value.int .u8 1, Value.int .i64 4, Value.int .i64 0, Value.int .i64 0, Value.int .u8 1, Value.int .i64 5, Value.int .i64 0, Value.int .i64 0]) :: F) (args := [Value.pointer (some ⟨s1, 0, none⟩), Value.agg #[Value.int .u8 1, Value.int .i64 4, Value.int .i64 0, Value.int .i64 0]]) Tryd.call12 rfl (make_w W0 s1 tl22_4 tl23_5 ⟨1, 4, 0, 0⟩ 5 5 0 (by unfold okT; decide) (by decide +kernel) rfl)) (fun _ _ => ?_)
  refine Wl.imp (L' := (storeW s1 tl23_5) :: (refW s2 tl22_4) :: (pt q0 29 [Value.int .u8 1, Value.int .i64 0, Value.int .i64 0, Value.int .i64 0, Value.int .u8 1, Value.int .i64 1, Value.int .i64 0, Value.int .i64 0, Value.int .u8 1, Value.int .i64 2, Value.int .i64 0, Value.int .i64 0, Value.int .u8 1, Value.int .i64 3, Value.int .i64 0, Value.int .i64 0, Value.int .u8 1, Value.int .i64 4, Value.int .i64 0, Value.int .i64 0, Value.int .u8 1, Value.int .i64 5, Value.int .i64 0, Value.int .i64 0]) :: F) (fun _ h => h) ?_
  refine Wl.q (v := Value.tuple #[Value.int .i64 5, Value.int .i64 0]) (q_move rfl) ?_
  refine Wl.q (v := Value.int .i64 5) (q_extract (i := 0) rfl rfl) ?_
  refine Wl.q (v := Value.int .i64 0) (q_extract (i := 1) rfl rfl) ?_
  refine Wl.q (v := Value.int .i64 5) (q_assign rfl) ?_
  refine Wl.q (v := Value.int .i64 0) (q_assign rfl) ?_
  refine Wl.done ?_
  refine Wx.go ?_
  refine Wc.seq ?_
  refine Wc.region ?_
  refine Wl.q (v := Value.pointer (some ⟨s2, 0, none⟩)) (q_move rfl) ?_
  refine Wl.q (v := Value.slice (some ⟨q0, 0, none⟩) 6 6) (q_move rfl) ?_
  refine Wl.q (v := Value.int .i64 4) (q_move rfl) ?_
  refine Wl.q (v := Value.pointer (some ⟨q0, 16, none⟩)) (q_idx (m := 16) se_30 rfl rfl (by omega) (by omega) rfl) ?_
  refine Wl.q (v := Value.agg #[Value.int .u8 1, Value.int .i64 4, Value.int .i64 0, Value.int .i64 0]) (q_loadAgg (vs := [Value.int .u8 1, Value.int .i64 4, Value.int .i64 0, Value.int .i64 0]) ag_29 rfl (Has.of_pt (i := 2) rfl rfl)) ?_
  refine Wl.imp (L' := (refW s2 tl22_4) :: (storeW s1 tl23_5) :: (pt q0 29 [Value.int .u8 1, Value.int .i64 0, Value.int .i64 0, Value.int .i64 0, Value.int .u8 1, Value.int .i64 1, Value.int .i64 0, Value.int .i64 0, Value.int .u8 1, Value.int .i64 2, Value.int .i64 0, Value.int .i64 0, Value.int .u8 1, Value.int .i64 3, Value.int .i64 0, Value.int .i64 0, Value.int .u8 1, Value.int .i64 4, Value.int .i64 0, Value.int .i64 0, Value.int .u8 1, Value.int .i64 5, Value.int .i64 0, Value.int .i64 0]) :: F) (fun _ h => st_pull [1] h) ?_
  refine Wl.e (e_call (F := (storeW s1 tl23_5) :: (pt q0 29 [Value.int .u8 1, Value.int .i64 0, Value.int .i64 0, Value.int .i64 0, Value.int .u8 1, Value.int .i64 1, Value.int .i64 0, Value.int .i64 0, Value.int .u8 1, Value.int .i64 2, Value.int .i64 0, Value.int .i64 0, Value.int .u8 1, Value.int .i64 3, Value.int .i64 0, Value.int .i64 0, Value.int .u8 1, Value.int .i64 4, Value.int .i64 0, Value.int .i64 0, Value.int .u8 1, Value.int .i64 5, Value.int .i64 0, Value.int .i64 0]) :: F) (args := [Value.pointer (some ⟨s2, 0, none⟩), Value.agg #[Value.int .u8 1, Value.int .i64 4, Value.int .i64 0, Value.int .i64 0]]) Tryd.call13 rfl (rmake_w W0 s2 tl22_4 tl23_5 ⟨1, 4, 0, 0⟩ 5 5 0 (by unfold okT; decide) (by decide +kernel) rfl)) (fun _ _ => ?_)
  refine Wl.imp (L' := (refW s2 tl23_5) :: (storeW s1 tl23_5) :: (pt q0 29 [Value.int .u8 1, Value.int .i64 0, Value.int .i64 0, Value.int .i64 0, Value.int .u8 1, Value.int .i64 1, Value.int .i64 0, Value.int .i64 0, Value.int .u8 1, Value.int .i64 2, Value.int .i64 0, Value.int .i64 0, Value.int .u8 1, Value.int .i64 3, Value.int .i64 0, Value.int .i64 0, Value.int .u8 1, Value.int .i64 4, Value.int .i64 0, Value.int .i64 0, Value.int .u8 1, Value.int .i64 5, Value.int .i64 0, Value.int .i64 0]) :: F) (fun _ h => h) ?_
  refine Wl.q (v := Value.tuple #[Value.int .i64 5, Value.int .i64 0]) (q_move rfl) ?_
  refine Wl.q (v := Value.int .i64 5) (q_extract (i := 0) rfl rfl) ?_
  refine Wl.q (v := Value.int .i64 0) (q_extract (i := 1) rfl rfl) ?_
  refine Wl.q (v := Value.int .i64 5) (q_assign rfl) ?_
  refine Wl.q (v := Value.int .i64 0) (q_assign rfl) ?_
  refine Wl.done ?_
  refine Wx.go ?_
  refine Wc.seq ?_
  refine Wc.region ?_
  refine Wl.q (v := Value.int .i64 5) (q_move rfl) ?_
  refine Wl.q (v := Value.int .i64 5) (q_move rfl) ?_
  refine Wl.q (v := Value.bool false) (q_neq (r := true) rfl rfl (decide_eq_true (by decide))) ?_
  refine Wl.q (v := Value.bool false) (q_move rfl) ?_
  refine Wl.q (v := Value.int .i64 0) (q_move rfl) ?_
  refine Wl.q (v := Value.int .i64 0) (q_move rfl) ?_
  refine Wl.q (v := Value.bool false) (q_neq (r := true) rfl rfl (decide_eq_true (by decide))) ?_
  refine Wl.q (v := Value.bool false) (q_pick (t := false) rfl rfl) ?_
  refine Wl.done ?_
  refine Wx.go ?_
  refine Wc.no rfl ?_
  refine Wc.skip ?_
  refine Wx.blockEnd ?_
  refine Wx.go ?_
  refine Wc.region ?_
  refine Wl.q (v := Value.int .i64 4) (q_move rfl) ?_
  refine Wl.q (v := Value.int .i64 5) (q_add (c := 5) rfl rfl (by decide)) ?_
  refine Wl.q (v := Value.int .i64 5) (q_assign rfl) ?_
  refine Wl.done ?_
  refine Wx.again ?_
  refine Wn.round ?_
  refine Wc.seq ?_
  refine Wc.seq ?_
  refine Wc.region ?_
  refine Wl.q (v := Value.int .i64 5) (q_move rfl) ?_
  refine Wl.q (v := Value.slice (some ⟨q0, 0, none⟩) 6 6) (q_move rfl) ?_
  refine Wl.q (v := Value.int .i64 6) (q_len_slice Tryd.underlying30 rfl) ?_
  refine Wl.q (v := Value.bool true) (q_lss (r := true) rfl rfl (decide_eq_true (by decide))) ?_
  refine Wl.done ?_
  refine Wx.go ?_
  refine Wc.yes rfl ?_
  refine Wc.skip ?_
  refine Wx.go ?_
  refine Wc.seq ?_
  refine Wc.block ?_
  refine Wc.seq ?_
  refine Wc.region ?_
  refine Wl.q (v := Value.pointer (some ⟨s1, 0, none⟩)) (q_move rfl) ?_
  refine Wl.q (v := Value.slice (some ⟨q0, 0, none⟩) 6 6) (q_move rfl) ?_
  refine Wl.q (v := Value.int .i64 5) (q_move rfl) ?_
  refine Wl.q (v := Value.pointer (some ⟨q0, 20, none⟩)) (q_idx (m := 20) se_30 rfl rfl (by omega) (by omega) rfl) ?_
  refine Wl.q (v := Value.agg #[Value.int .u8 1, Value.int .i64 5, Value.int .i64 0, Value.int .i64 0]) (q_loadAgg (vs := [Value.int .u8 1, Value.int .i64 5, Value.int .i64 0, Value.int .i64 0]) ag_29 rfl (Has.of_pt (i := 2) rfl rfl)) ?_
  refine Wl.imp (L' := (storeW s1 tl23_5) :: (refW s2 tl23_5) :: (pt q0 29 [Value.int .u8 1, Value.int .i64 0, Value.int .i64 0, Value.int .i64 0, Value.int .u8 1, Value.int .i64 1, Value.int .i64 0, Value.int .i64 0, Value.int .u8 1, Value.int .i64 2, Value.int .i64 0, Value.int .i64 0, Value.int .u8 1, Value.int .i64 3, Value.int .i64 0, Value.int .i64 0, Value.int .u8 1, Value.int .i64 4, Value.int .i64 0, Value.int .i64 0, Value.int .u8 1, Value.int .i64 5, Value.int .i64 0, Value.int .i64 0]) :: F) (fun _ h => st_pull [1] h) ?_
  refine Wl.e (e_call (F := (refW s2 tl23_5) :: (pt q0 29 [Value.int .u8 1, Value.int .i64 0, Value.int .i64 0, Value.int .i64 0, Value.int .u8 1, Value.int .i64 1, Value.int .i64 0, Value.int .i64 0, Value.int .u8 1, Value.int .i64 2, Value.int .i64 0, Value.int .i64 0, Value.int .u8 1, Value.int .i64 3, Value.int .i64 0, Value.int .i64 0, Value.int .u8 1, Value.int .i64 4, Value.int .i64 0, Value.int .i64 0, Value.int .u8 1, Value.int .i64 5, Value.int .i64 0, Value.int .i64 0]) :: F) (args := [Value.pointer (some ⟨s1, 0, none⟩), Value.agg #[Value.int .u8 1, Value.int .i64 5, Value.int .i64 0, Value.int .i64 0]]) Tryd.call12 rfl (make_w W0 s1 tl23_5 tl24_6 ⟨1, 5, 0, 0⟩ 6 6 0 (by unfold okT; decide) (by decide +kernel) rfl)) (fun _ _ => ?_)
  refine Wl.imp (L' := (storeW s1 tl24_6) :: (refW s2 tl23_5) :: (pt q0 29 [Value.int .u8 1, Value.int .i64 0, Value.int .i64 0, Value.int .i64 0, Value.int .u8 1, Value.int .i64 1, Value.int .i64 0, Value.int .i64 0, Value.int .u8 1, Value.int .i64 2, Value.int .i64 0, Value.int .i64 0, Value.int .u8 1, Value.int .i64 3, Value.int .i64 0, Value.int .i64 0, Value.int .u8 1, Value.int .i64 4, Value.int .i64 0, Value.int .i64 0, Value.int .u8 1, Value.int .i64 5, Value.int .i64 0, Value.int .i64 0]) :: F) (fun _ h => h) ?_
  refine Wl.q (v := Value.tuple #[Value.int .i64 6, Value.int .i64 0]) (q_move rfl) ?_
  refine Wl.q (v := Value.int .i64 6) (q_extract (i := 0) rfl rfl) ?_
  refine Wl.q (v := Value.int .i64 0) (q_extract (i := 1) rfl rfl) ?_
  refine Wl.q (v := Value.int .i64 6) (q_assign rfl) ?_
  refine Wl.q (v := Value.int .i64 0) (q_assign rfl) ?_
  refine Wl.done ?_
  refine Wx.go ?_
  refine Wc.seq ?_
  refine Wc.region ?_
  refine Wl.q (v := Value.pointer (some ⟨s2, 0, none⟩)) (q_move rfl) ?_
  refine Wl.q (v := Value.slice (some ⟨q0, 0, none⟩) 6 6) (q_move rfl) ?_
  refine Wl.q (v := Value.int .i64 5) (q_move rfl) ?_
  refine Wl.q (v := Value.pointer (some ⟨q0, 20, none⟩)) (q_idx (m := 20) se_30 rfl rfl (by omega) (by omega) rfl) ?_
  refine Wl.q (v := Value.agg #[Value.int .u8 1, Value.int .i64 5, Value.int .i64 0, Value.int .i64 0]) (q_loadAgg (vs := [Value.int .u8 1, Value.int .i64 5, Value.int .i64 0, Value.int .i64 0]) ag_29 rfl (Has.of_pt (i := 2) rfl rfl)) ?_
  refine Wl.imp (L' := (refW s2 tl23_5) :: (storeW s1 tl24_6) :: (pt q0 29 [Value.int .u8 1, Value.int .i64 0, Value.int .i64 0, Value.int .i64 0, Value.int .u8 1, Value.int .i64 1, Value.int .i64 0, Value.int .i64 0, Value.int .u8 1, Value.int .i64 2, Value.int .i64 0, Value.int .i64 0, Value.int .u8 1, Value.int .i64 3, Value.int .i64 0, Value.int .i64 0, Value.int .u8 1, Value.int .i64 4, Value.int .i64 0, Value.int .i64 0, Value.int .u8 1, Value.int .i64 5, Value.int .i64 0, Value.int .i64 0]) :: F) (fun _ h => st_pull [1] h) ?_
  refine Wl.e (e_call (F := (storeW s1 tl24_6) :: (pt q0 29 [Value.int .u8 1, Value.int .i64 0, Value.int .i64 0, Value.int .i64 0, Value.int .u8 1, Value.int .i64 1, Value.int .i64 0, Value.int .i64 0, Value.int .u8 1, Value.int .i64 2, Value.int .i64 0, Value.int .i64 0, Value.int .u8 1, Value.int .i64 3, Value.int .i64 0, Value.int .i64 0, Value.int .u8 1, Value.int .i64 4, Value.int .i64 0, Value.int .i64 0, Value.int .u8 1, Value.int .i64 5, Value.int .i64 0, Value.int .i64 0]) :: F) (args := [Value.pointer (some ⟨s2, 0, none⟩), Value.agg #[Value.int .u8 1, Value.int .i64 5, Value.int .i64 0, Value.int .i64 0]]) Tryd.call13 rfl (rmake_w W0 s2 tl23_5 tl24_6 ⟨1, 5, 0, 0⟩ 6 6 0 (by unfold okT; decide) (by decide +kernel) rfl)) (fun _ _ => ?_)
  refine Wl.imp (L' := (refW s2 tl24_6) :: (storeW s1 tl24_6) :: (pt q0 29 [Value.int .u8 1, Value.int .i64 0, Value.int .i64 0, Value.int .i64 0, Value.int .u8 1, Value.int .i64 1, Value.int .i64 0, Value.int .i64 0, Value.int .u8 1, Value.int .i64 2, Value.int .i64 0, Value.int .i64 0, Value.int .u8 1, Value.int .i64 3, Value.int .i64 0, Value.int .i64 0, Value.int .u8 1, Value.int .i64 4, Value.int .i64 0, Value.int .i64 0, Value.int .u8 1, Value.int .i64 5, Value.int .i64 0, Value.int .i64 0]) :: F) (fun _ h => h) ?_
  refine Wl.q (v := Value.tuple #[Value.int .i64 6, Value.int .i64 0]) (q_move rfl) ?_
  refine Wl.q (v := Value.int .i64 6) (q_extract (i := 0) rfl rfl) ?_
  refine Wl.q (v := Value.int .i64 0) (q_extract (i := 1) rfl rfl) ?_
  refine Wl.q (v := Value.int .i64 6) (q_assign rfl) ?_
  refine Wl.q (v := Value.int .i64 0) (q_assign rfl) ?_
  refine Wl.done ?_
  refine Wx.go ?_
  refine Wc.seq ?_
  refine Wc.region ?_
  refine Wl.q (v := Value.int .i64 6) (q_move rfl) ?_
  refine Wl.q (v := Value.int .i64 6) (q_move rfl) ?_
  refine Wl.q (v := Value.bool false) (q_neq (r := true) rfl rfl (decide_eq_true (by decide))) ?_
  refine Wl.q (v := Value.bool false) (q_move rfl) ?_
  refine Wl.q (v := Value.int .i64 0) (q_move rfl) ?_
  refine Wl.q (v := Value.int .i64 0) (q_move rfl) ?_
  refine Wl.q (v := Value.bool false) (q_neq (r := true) rfl rfl (decide_eq_true (by decide))) ?_
  refine Wl.q (v := Value.bool false) (q_pick (t := false) rfl rfl) ?_
  refine Wl.done ?_
  refine Wx.go ?_
  refine Wc.no rfl ?_
  refine Wc.skip ?_
  refine Wx.blockEnd ?_
  refine Wx.go ?_
  refine Wc.region ?_
  refine Wl.q (v := Value.int .i64 5) (q_move rfl) ?_
  refine Wl.q (v := Value.int .i64 6) (q_add (c := 6) rfl rfl (by decide)) ?_
  refine Wl.q (v := Value.int .i64 6) (q_assign rfl) ?_
  refine Wl.done ?_
  refine Wx.again ?_
  refine Wn.round ?_
  refine Wc.seq ?_
  refine Wc.seq ?_
  refine Wc.region ?_
  refine Wl.q (v := Value.int .i64 6) (q_move rfl) ?_
  refine Wl.q (v := Value.slice (some ⟨q0, 0, none⟩) 6 6) (q_move rfl) ?_
  refine Wl.q (v := Value.int .i64 6) (q_len_slice Tryd.underlying30 rfl) ?_
  refine Wl.q (v := Value.bool false) (q_lss (r := false) rfl rfl (decide_eq_false (by decide))) ?_
  refine Wl.done ?_
  refine Wx.go ?_
  refine Wc.no rfl ?_
  refine Wc.exit ?_
  refine Wx.thenExit ?_
  refine Wx.thenExit ?_
  refine Wx.out ?_
  refine Wx.go ?_
  refine Wc.seq ?_
  refine Wc.region ?_
  refine Wl.q (v := Value.pointer (some ⟨s1, 0, none⟩)) (q_move rfl) ?_
  refine Wl.q (v := Value.pointer (some ⟨s2, 0, none⟩)) (q_move rfl) ?_
  refine Wl.q (v := Value.pointer (some ⟨s1, 0, none⟩)) (q_move rfl) ?_
  refine Wl.q (v := Value.bool true) (q_neq_nil (r := false) rfl rfl Tryd.underlying23 rfl) ?_
  refine Wl.q (v := Value.pointer (some ⟨s1, 0, none⟩)) (q_assign rfl) ?_
  refine Wl.q (v := Value.pointer (some ⟨s2, 0, none⟩)) (q_assign rfl) ?_
  refine Wl.q (v := Value.bool true) (q_assign rfl) ?_
  refine Wl.done ?_
  refine Wx.go ?_
  refine Wc.ret ?_
  refine Wx.fin3 rfl (.inl rfl) (fun w hs => ?_)
  have hs : st W0 w ((pt q0 29 [Value.int .u8 1, Value.int .i64 0, Value.int .i64 0, Value.int .i64 0, Value.int .u8 1, Value.int .i64 1, Value.int .i64 0, Value.int .i64 0, Value.int .u8 1, Value.int .i64 2, Value.int .i64 0, Value.int .i64 0, Value.int .u8 1, Value.int .i64 3, Value.int .i64 0, Value.int .i64 0, Value.int .u8 1, Value.int .i64 4, Value.int .i64 0, Value.int .i64 0, Value.int .u8 1, Value.int .i64 5, Value.int .i64 0, Value.int .i64 0]) :: (storeW s1 tl24_6) :: (refW s2 tl24_6) :: F) := (st_pull [2, 1, 0] (hs))
  exact ⟨(s1, s2), trivial, rfl, hs⟩

set_option maxRecDepth 8000 in
set_option maxHeartbeats 4000000 in
theorem un1_SchedUnlike (W0 : World) (f0 f1 f2 g0 g1 g2 : Bool)  :
    Con Tryd.prog W0 3 #[Value.agg #[Value.bool f0, Value.bool f1, Value.bool f2], Value.agg #[Value.bool g0, Value.bool g1, Value.bool g2]] [] (X := Unit) (fun _ => True) (fun _ => Value.bool true) (fun _ => []) := by
  refine Con.of (args := [Value.agg #[Value.bool f0, Value.bool f1, Value.bool f2], Value.agg #[Value.bool g0, Value.bool g1, Value.bool g2]]) Tryd.func3 rfl Tryd.ntmps3 rfl (fun F => ?_)
  show Wc _ W0 _ _ _ _ _ (F)
  refine Wc.seq ?_
  refine Wc.region ?_
  refine Wl.e (e_box (x := .tmp 0) (vs := [Value.bool f0, Value.bool f1, Value.bool f2]) rfl) (fun b1 _ => ?_)
  refine Wl.e (e_box (x := .tmp 1) (vs := [Value.bool g0, Value.bool g1, Value.bool g2]) rfl) (fun b2 _ => ?_)
  refine Wl.q (v := Value.bool false) (q_assign rfl) ?_
  refine Wl.done ?_
  refine Wx.go ?_
  refine Wc.seq ?_
  refine Wc.region ?_
  refine Wl.q (v := Value.agg #[Value.int .u8 1, Value.int .i64 0, Value.int .i64 0, Value.int .i64 0]) (q_build (pl := [(0, 1), (1, 1), (2, 1), (3, 1)]) Tryd.underlying29 zo_29 (by kernel_rfl) (by kernel_rfl)) ?_
  refine Wl.q (v := Value.agg #[Value.int .u8 1, Value.int .i64 1, Value.int .i64 0, Value.int .i64 0]) (q_build (pl := [(0, 1), (1, 1), (2, 1), (3, 1)]) Tryd.underlying29 zo_29 (by kernel_rfl) (by kernel_rfl)) ?_
  refine Wl.q (v := Value.agg #[Value.int .u8 1, Value.int .i64 2, Value.int .i64 0, Value.int .i64 0]) (q_build (pl := [(0, 1), (1, 1), (2, 1), (3, 1)]) Tryd.underlying29 zo_29 (by kernel_rfl) (by kernel_rfl)) ?_
  refine Wl.q (v := Value.agg #[Value.int .u8 1, Value.int .i64 3, Value.int .i64 0, Value.int .i64 0]) (q_build (pl := [(0, 1), (1, 1), (2, 1), (3, 1)]) Tryd.underlying29 zo_29 (by kernel_rfl) (by kernel_rfl)) ?_
  refine Wl.q (v := Value.agg #[Value.int .u8 1, Value.int .i64 4, Value.int .i64 0, Value.int .i64 0]) (q_build (pl := [(0, 1), (1, 1), (2, 1), (3, 1)]) Tryd.underlying29 zo_29 (by kernel_rfl) (by kernel_rfl)) ?_
  refine Wl.q (v := Value.agg #[Value.int .u8 1, Value.int .i64 5, Value.int .i64 0, Value.int .i64 0]) (q_build (pl := [(0, 1), (1, 1), (2, 1), (3, 1)]) Tryd.underlying29 zo_29 (by kernel_rfl) (by kernel_rfl)) ?_
  refine Wl.e (e_buildSlice (cs := [Value.int .u8 1, Value.int .i64 0, Value.int .i64 0, Value.int .i64 0, Value.int .u8 1, Value.int .i64 1, Value.int .i64 0, Value.int .i64 0, Value.int .u8 1, Value.int .i64 2, Value.int .i64 0, Value.int .i64 0, Value.int .u8 1, Value.int .i64 3, Value.int .i64 0, Value.int .i64 0, Value.int .u8 1, Value.int .i64 4, Value.int .i64 0, Value.int .i64 0, Value.int .u8 1, Value.int .i64 5, Value.int .i64 0, Value.int .i64 0]) se_30 zo_29 (by decide) (by decide) (by kernel_rfl)) (fun b3 _ => ?_)
  refine Wl.e (e_call (F := (pt b2 22 [Value.bool g0, Value.bool g1, Value.bool g2]) :: (pt b1 22 [Value.bool f0, Value.bool f1, Value.bool f2]) :: F) (args := [Value.slice (some ⟨b3, 0, none⟩) 6 6]) Tryd.call5 rfl (un2_Build W0 f0 f1 f2 g0 g1 g2 b3)) (fun ⟨b4, b5⟩ _ => ?_)
  refine Wl.imp (L' := (pt b3 29 [Value.int .u8 1, Value.int .i64 0, Value.int .i64 0, Value.int .i64 0, Value.int .u8 1, Value.int .i64 1, Value.int .i64 0, Value.int .i64 0, Value.int .u8 1, Value.int .i64 2, Value.int .i64 0, Value.int .i64 0, Value.int .u8 1, Value.int .i64 3, Value.int .i64 0, Value.int .i64 0, Value.int .u8 1, Value.int .i64 4, Value.int .i64 0, Value.int .i64 0, Value.int .u8 1, Value.int .i64 5, Value.int .i64 0, Value.int .i64 0]) :: (storeW b4 tl24_6) :: (refW b5 tl24_6) :: (pt b2 22 [Value.bool g0, Value.bool g1, Value.bool g2]) :: (pt b1 22 [Value.bool f0, Value.bool f1, Value.bool f2]) :: F) (fun _ h => h) ?_
  refine Wl.q (v := Value.tuple #[Value.pointer (some ⟨b4, 0, none⟩), Value.pointer (some ⟨b5, 0, none⟩), Value.bool true]) (q_move rfl) ?_
  refine Wl.q (v := Value.pointer (some ⟨b4, 0, none⟩)) (q_extract (i := 0) rfl rfl) ?_
  refine Wl.q (v := Value.pointer (some ⟨b5, 0, none⟩)) (q_extract (i := 1) rfl rfl) ?_
  refine Wl.q (v := Value.bool true) (q_extract (i := 2) rfl rfl) ?_
  refine Wl.q (v := Value.pointer (some ⟨b4, 0, none⟩)) (q_assign rfl) ?_
  refine Wl.q (v := Value.pointer (some ⟨b5, 0, none⟩)) (q_assign rfl) ?_
  refine Wl.q (v := Value.bool true) (q_assign rfl) ?_
  refine Wl.done ?_
  refine Wx.go ?_
  refine Wc.seq ?_
  refine Wc.seq ?_
  refine Wc.region ?_
  refine Wl.q (v := Value.bool true) (q_move rfl) ?_
  refine Wl.q (v := Value.bool false) (q_not rfl rfl) ?_
  refine Wl.done ?_
  refine Wx.go ?_
  refine Wc.no rfl ?_
  refine Wc.skip ?_
  refine Wx.go ?_
  refine Wc.seq ?_
  refine Wc.region ?_
  refine Wl.e (e_buildSlice (cs := [Value.int .i64 1, Value.int .i64 2, Value.int .i64 3]) se_31 zo_3 (by decide) (by decide) (by kernel_rfl)) (fun b6 _ => ?_)
  refine Wl.e (e_buildSlice (cs := [Value.int .i64 1, Value.int .i64 2, Value.int .i64 3]) se_31 zo_3 (by decide) (by decide) (by kernel_rfl)) (fun b7 _ => ?_)
  refine Wl.q (v := Value.slice (some ⟨b6, 0, none⟩) 3 3) (q_assign rfl) ?_
  refine Wl.q (v := Value.slice (some ⟨b7, 0, none⟩) 3 3) (q_assign rfl) ?_
  refine Wl.done ?_
  refine Wx.go ?_
  refine Wc.seq ?_
  refine Wc.seq ?_
  refine Wc.region ?_
  refine Wl.q (v := Value.int .i64 0) (q_assign rfl) ?_
  refine Wl.done ?_
  refine Wx.go ?_
  refine Wc.block ?_
  refine Wc.rounds 4 ?_
  refine Wn.round ?_
  refine Wc.imp (L' := (pt b7 3 [Value.int .i64 1, Value.int .i64 2, Value.int .i64 3]) :: (pt b6 3 [Value.int .i64 1, Value.int .i64 2, Value.int .i64 3]) :: (storeW b4 tl24_6) :: (pt b2 22 [Value.bool g0, Value.bool g1, Value.bool g2]) :: (pt b1 22 [Value.bool f0, Value.bool f1, Value.bool f2]) :: F) (fun w hs => (st_drop (st_drop (st_pull [2, 3] hs)))) ?_
  refine Wc.seq ?_
  refine Wc.seq ?_
  refine Wc.region ?_
  refine Wl.q (v := Value.int .i64 0) (q_move rfl) ?_
  refine Wl.q (v := Value.bool true) (q_lss (r := true) rfl rfl (decide_eq_true (by decide))) ?_
  refine Wl.done ?_
  refine Wx.go ?_
  refine Wc.yes rfl ?_
  refine Wc.skip ?_
  refine Wx.go ?_
  refine Wc.meet (X := Unit) (fun _ E => E 2 = Value.pointer (some ⟨b1, 0, none⟩) ∧ E 3 = Value.pointer (some ⟨b2, 0, none⟩) ∧ E 5 = Value.pointer (some ⟨b4, 0, none⟩) ∧ E 8 = Value.slice (some ⟨b6, 0, none⟩) 3 3 ∧ E 9 = Value.slice (some ⟨b7, 0, none⟩) 3 3 ∧ E 10 = Value.int .i64 0) (fun _ => (pt b7 3 [Value.int .i64 (pk g0 0), Value.int .i64 2, Value.int .i64 3]) :: (pt b6 3 [Value.int .i64 (pk f0 0), Value.int .i64 2, Value.int .i64 3]) :: (storeW b4 tl24_6) :: (pt b2 22 [Value.bool g0, Value.bool g1, Value.bool g2]) :: (pt b1 22 [Value.bool f0, Value.bool f1, Value.bool f2]) :: F) ?_ ?_
  ·
    refine Wc.block ?_
    refine Wc.meet (X := Unit) (fun _ E => E 2 = Value.pointer (some ⟨b1, 0, none⟩) ∧ E 3 = Value.pointer (some ⟨b2, 0, none⟩) ∧ E 5 = Value.pointer (some ⟨b4, 0, none⟩) ∧ E 8 = Value.slice (some ⟨b6, 0, none⟩) 3 3 ∧ E 9 = Value.slice (some ⟨b7, 0, none⟩) 3 3 ∧ E 10 = Value.int .i64 0) (fun _ => (pt b7 3 [Value.int .i64 1, Value.int .i64 2, Value.int .i64 3]) :: (pt b6 3 [Value.int .i64 (pk f0 0), Value.int .i64 2, Value.int .i64 3]) :: (storeW b4 tl24_6) :: (pt b2 22 [Value.bool g0, Value.bool g1, Value.bool g2]) :: (pt b1 22 [Value.bool f0, Value.bool f1, Value.bool f2]) :: F) ?_ ?_
    ·
      refine Wc.seq ?_
      refine Wc.region ?_
      refine Wl.q (v := Value.int .i64 0) (q_move rfl) ?_
      refine Wl.q (v := Value.pointer (some ⟨b1, 0, none⟩)) (q_idx_arr (m := 0) Tryd.underlying22 sz_4 rfl rfl (by decide) (by decide) rfl) ?_
      refine Wl.q (v := Value.bool f0) (q_load sc_4 rfl (.cel (i := 4) rfl rfl)) ?_
      refine Wl.done ?_
      refine Wx.go ?_
      refine Wc.both (b := f0) rfl (fun hb8 => ?_) (fun hb8 => ?_)
      ·
        have hpk : pk f0 0 = 4 := by rw [hb8]; rfl
        refine Wc.region ?_
        refine Wl.q (v := Value.slice (some ⟨b6, 0, none⟩) 3 3) (q_move rfl) ?_
        refine Wl.q (v := Value.int .i64 0) (q_move rfl) ?_
        refine Wl.q (v := Value.int .i64 0) (q_move rfl) ?_
        refine Wl.q (v := Value.int .i64 4) (q_add (c := 4) rfl rfl (by decide)) ?_
        refine Wl.q (v := Value.pointer (some ⟨b6, 0, none⟩)) (q_idx (m := 0) se_31 rfl rfl (by omega) (by omega) rfl) ?_
        refine Wl.e (e_store (i := 1) (v := Value.int .i64 4) sz_3 rfl rfl (fun _ _ => rfl) rfl (by simp)) (fun _ _ => ?_)
        refine Wl.imp (L' := (pt b7 3 [Value.int .i64 1, Value.int .i64 2, Value.int .i64 3]) :: (pt b6 3 [Value.int .i64 4, Value.int .i64 2, Value.int .i64 3]) :: (storeW b4 tl24_6) :: (pt b2 22 [Value.bool g0, Value.bool g1, Value.bool g2]) :: (pt b1 22 [Value.bool f0, Value.bool f1, Value.bool f2]) :: F) (fun _ h => h) ?_
        refine Wl.done ?_
        refine Wx.at () ⟨rfl, rfl, rfl, rfl, rfl, rfl⟩ (fun w hs => by rw [hpk]; exact hs)
      ·
        have hpk : pk f0 0 = 1 := by rw [hb8]; rfl
        refine Wc.skip ?_
        refine Wx.at () ⟨rfl, rfl, rfl, rfl, rfl, rfl⟩ (fun w hs => by rw [hpk]; exact hs)
    · rintro _ E10 ⟨hE2_8, hE3_8, hE5_8, hE8_8, hE9_8, hE10_8⟩
      refine Wc.seq ?_
      refine Wc.region ?_
      refine Wl.q (v := Value.int .i64 0) (q_move hE10_8) ?_
      refine Wl.q (v := Value.pointer (some ⟨b2, 0, none⟩)) (q_idx_arr (m := 0) Tryd.underlying22 sz_4 hE3_8 rfl (by decide) (by decide) rfl) ?_
      refine Wl.q (v := Value.bool g0) (q_load sc_4 rfl (.cel (i := 3) rfl rfl)) ?_
      refine Wl.done ?_
      refine Wx.go ?_
      refine Wc.both (b := g0) rfl (fun hb11 => ?_) (fun hb11 => ?_)
      ·
        have hpk : pk g0 0 = 4 := by rw [hb11]; rfl
        refine Wc.region ?_
        refine Wl.q (v := Value.slice (some ⟨b7, 0, none⟩) 3 3) (q_move hE9_8) ?_
        refine Wl.q (v := Value.int .i64 0) (q_move hE10_8) ?_
        refine Wl.q (v := Value.int .i64 0) (q_move hE10_8) ?_
        refine Wl.q (v := Value.int .i64 4) (q_add (c := 4) rfl rfl (by decide)) ?_
        refine Wl.q (v := Value.pointer (some ⟨b7, 0, none⟩)) (q_idx (m := 0) se_31 rfl rfl (by omega) (by omega) rfl) ?_
        refine Wl.e (e_store (i := 0) (v := Value.int .i64 4) sz_3 rfl rfl (fun _ _ => rfl) rfl (by simp)) (fun _ _ => ?_)
        refine Wl.imp (L' := (pt b7 3 [Value.int .i64 4, Value.int .i64 2, Value.int .i64 3]) :: (pt b6 3 [Value.int .i64 (pk f0 0), Value.int .i64 2, Value.int .i64 3]) :: (storeW b4 tl24_6) :: (pt b2 22 [Value.bool g0, Value.bool g1, Value.bool g2]) :: (pt b1 22 [Value.bool f0, Value.bool f1, Value.bool f2]) :: F) (fun _ h => h) ?_
        refine Wl.done ?_
        refine Wx.blockEnd ?_
        refine Wx.at () ⟨hE2_8, hE3_8, hE5_8, hE8_8, hE9_8, hE10_8⟩ (fun w hs => by rw [hpk]; exact hs)
      ·
        have hpk : pk g0 0 = 1 := by rw [hb11]; rfl
        refine Wc.skip ?_
        refine Wx.blockEnd ?_
        refine Wx.at () ⟨hE2_8, hE3_8, hE5_8, hE8_8, hE9_8, hE10_8⟩ (fun w hs => by rw [hpk]; exact hs)
  · rintro _ E13 ⟨hE2_11, hE3_11, hE5_11, hE8_11, hE9_11, hE10_11⟩
    refine Wc.region ?_
    refine Wl.q (v := Value.int .i64 0) (q_move hE10_11) ?_
    refine Wl.q (v := Value.int .i64 1) (q_add (c := 1) rfl rfl (by decide)) ?_
    refine Wl.q (v := Value.int .i64 1) (q_assign rfl) ?_
    refine Wl.done ?_
    refine Wx.again ?_
    refine Wn.round ?_
    refine Wc.seq ?_
    refine Wc.seq ?_
    refine Wc.region ?_
    refine Wl.q (v := Value.int .i64 1) (q_move rfl) ?_
    refine Wl.q (v := Value.bool true) (q_lss (r := true) rfl rfl (decide_eq_true (by decide))) ?_
    refine Wl.done ?_
    refine Wx.go ?_
    refine Wc.yes rfl ?_
    refine Wc.skip ?_
    refine Wx.go ?_
    refine Wc.meet (X := Unit) (fun _ E => E 2 = Value.pointer (some ⟨b1, 0, none⟩) ∧ E 3 = Value.pointer (some ⟨b2, 0, none⟩) ∧ E 5 = Value.pointer (some ⟨b4, 0, none⟩) ∧ E 8 = Value.slice (some ⟨b6, 0, none⟩) 3 3 ∧ E 9 = Value.slice (some ⟨b7, 0, none⟩) 3 3 ∧ E 10 = Value.int .i64 1) (fun _ => (pt b7 3 [Value.int .i64 (pk g0 0), Value.int .i64 (pk g1 1), Value.int .i64 3]) :: (pt b6 3 [Value.int .i64 (pk f0 0), Value.int .i64 (pk f1 1), Value.int .i64 3]) :: (storeW b4 tl24_6) :: (pt b2 22 [Value.bool g0, Value.bool g1, Value.bool g2]) :: (pt b1 22 [Value.bool f0, Value.bool f1, Value.bool f2]) :: F) ?_ ?_
    ·
      refine Wc.block ?_
      refine Wc.meet (X := Unit) (fun _ E => E 2 = Value.pointer (some ⟨b1, 0, none⟩) ∧ E 3 = Value.pointer (some ⟨b2, 0, none⟩) ∧ E 5 = Value.pointer (some ⟨b4, 0, none⟩) ∧ E 8 = Value.slice (some ⟨b6, 0, none⟩) 3 3 ∧ E 9 = Value.slice (some ⟨b7, 0, none⟩) 3 3 ∧ E 10 = Value.int .i64 1) (fun _ => (pt b7 3 [Value.int .i64 (pk g0 0), Value.int .i64 2, Value.int .i64 3]) :: (pt b6 3 [Value.int .i64 (pk f0 0), Value.int .i64 (pk f1 1), Value.int .i64 3]) :: (storeW b4 tl24_6) :: (pt b2 22 [Value.bool g0, Value.bool g1, Value.bool g2]) :: (pt b1 22 [Value.bool f0, Value.bool f1, Value.bool f2]) :: F) ?_ ?_
      ·
        refine Wc.seq ?_
        refine Wc.region ?_
        refine Wl.q (v := Value.int .i64 1) (q_move rfl) ?_
        refine Wl.q (v := Value.pointer (some ⟨b1, 1, none⟩)) (q_idx_arr (m := 1) Tryd.underlying22 sz_4 hE2_11 rfl (by decide) (by decide) rfl) ?_
        refine Wl.q (v := Value.bool f1) (q_load sc_4 rfl (.cel (i := 4) rfl rfl)) ?_
        refine Wl.done ?_
        refine Wx.go ?_
        refine Wc.both (b := f1) rfl (fun hb14 => ?_) (fun hb14 => ?_)
        ·
          have hpk : pk f1 1 = 5 := by rw [hb14]; rfl
          refine Wc.region ?_
          refine Wl.q (v := Value.slice (some ⟨b6, 0, none⟩) 3 3) (q_move hE8_11) ?_
          refine Wl.q (v := Value.int .i64 1) (q_move rfl) ?_
          refine Wl.q (v := Value.int .i64 1) (q_move rfl) ?_
          refine Wl.q (v := Value.int .i64 5) (q_add (c := 5) rfl rfl (by decide)) ?_
          refine Wl.q (v := Value.pointer (some ⟨b6, 1, none⟩)) (q_idx (m := 1) se_31 rfl rfl (by omega) (by omega) rfl) ?_
          refine Wl.e (e_store (i := 1) (v := Value.int .i64 5) sz_3 rfl rfl (fun _ _ => rfl) rfl (by simp)) (fun _ _ => ?_)
          refine Wl.imp (L' := (pt b7 3 [Value.int .i64 (pk g0 0), Value.int .i64 2, Value.int .i64 3]) :: (pt b6 3 [Value.int .i64 (pk f0 0), Value.int .i64 5, Value.int .i64 3]) :: (storeW b4 tl24_6) :: (pt b2 22 [Value.bool g0, Value.bool g1, Value.bool g2]) :: (pt b1 22 [Value.bool f0, Value.bool f1, Value.bool f2]) :: F) (fun _ h => h) ?_
          refine Wl.done ?_
          refine Wx.at () ⟨hE2_11, hE3_11, hE5_11, hE8_11, hE9_11, rfl⟩ (fun w hs => by rw [hpk]; exact hs)
        ·
          have hpk : pk f1 1 = 2 := by rw [hb14]; rfl
          refine Wc.skip ?_
          refine Wx.at () ⟨hE2_11, hE3_11, hE5_11, hE8_11, hE9_11, rfl⟩ (fun w hs => by rw [hpk]; exact hs)
      · rintro _ E16 ⟨hE2_14, hE3_14, hE5_14, hE8_14, hE9_14, hE10_14⟩
        refine Wc.seq ?_
        refine Wc.region ?_
        refine Wl.q (v := Value.int .i64 1) (q_move hE10_14) ?_
        refine Wl.q (v := Value.pointer (some ⟨b2, 1, none⟩)) (q_idx_arr (m := 1) Tryd.underlying22 sz_4 hE3_14 rfl (by decide) (by decide) rfl) ?_
        refine Wl.q (v := Value.bool g1) (q_load sc_4 rfl (.cel (i := 3) rfl rfl)) ?_
        refine Wl.done ?_
        refine Wx.go ?_
        refine Wc.both (b := g1) rfl (fun hb17 => ?_) (fun hb17 => ?_)
        ·
          have hpk : pk g1 1 = 5 := by rw [hb17]; rfl
          refine Wc.region ?_
          refine Wl.q (v := Value.slice (some ⟨b7, 0, none⟩) 3 3) (q_move hE9_14) ?_
          refine Wl.q (v := Value.int .i64 1) (q_move hE10_14) ?_
          refine Wl.q (v := Value.int .i64 1) (q_move hE10_14) ?_
          refine Wl.q (v := Value.int .i64 5) (q_add (c := 5) rfl rfl (by decide)) ?_
          refine Wl.q (v := Value.pointer (some ⟨b7, 1, none⟩)) (q_idx (m := 1) se_31 rfl rfl (by omega) (by omega) rfl) ?_
          refine Wl.e (e_store (i := 0) (v := Value.int .i64 5) sz_3 rfl rfl (fun _ _ => rfl) rfl (by simp)) (fun _ _ => ?_)
          refine Wl.imp (L' := (pt b7 3 [Value.int .i64 (pk g0 0), Value.int .i64 5, Value.int .i64 3]) :: (pt b6 3 [Value.int .i64 (pk f0 0), Value.int .i64 (pk f1 1), Value.int .i64 3]) :: (storeW b4 tl24_6) :: (pt b2 22 [Value.bool g0, Value.bool g1, Value.bool g2]) :: (pt b1 22 [Value.bool f0, Value.bool f1, Value.bool f2]) :: F) (fun _ h => h) ?_
          refine Wl.done ?_
          refine Wx.blockEnd ?_
          refine Wx.at () ⟨hE2_14, hE3_14, hE5_14, hE8_14, hE9_14, hE10_14⟩ (fun w hs => by rw [hpk]; exact hs)
        ·
          have hpk : pk g1 1 = 2 := by rw [hb17]; rfl
          refine Wc.skip ?_
          refine Wx.blockEnd ?_
          refine Wx.at () ⟨hE2_14, hE3_14, hE5_14, hE8_14, hE9_14, hE10_14⟩ (fun w hs => by rw [hpk]; exact hs)
    · rintro _ E19 ⟨hE2_17, hE3_17, hE5_17, hE8_17, hE9_17, hE10_17⟩
      refine Wc.region ?_
      refine Wl.q (v := Value.int .i64 1) (q_move hE10_17) ?_
      refine Wl.q (v := Value.int .i64 2) (q_add (c := 2) rfl rfl (by decide)) ?_
      refine Wl.q (v := Value.int .i64 2) (q_assign rfl) ?_
      refine Wl.done ?_
      refine Wx.again ?_
      refine Wn.round ?_
      refine Wc.seq ?_
      refine Wc.seq ?_
      refine Wc.region ?_
      refine Wl.q (v := Value.int .i64 2) (q_move rfl) ?_
      refine Wl.q (v := Value.bool true) (q_lss (r := true) rfl rfl (decide_eq_true (by decide))) ?_
      refine Wl.done ?_
      refine Wx.go ?_
      refine Wc.yes rfl ?_
      refine Wc.skip ?_
      refine Wx.go ?_
      refine Wc.meet (X := Unit) (fun _ E => E 2 = Value.pointer (some ⟨b1, 0, none⟩) ∧ E 3 = Value.pointer (some ⟨b2, 0, none⟩) ∧ E 5 = Value.pointer (some ⟨b4, 0, none⟩) ∧ E 8 = Value.slice (some ⟨b6, 0, none⟩) 3 3 ∧ E 9 = Value.slice (some ⟨b7, 0, none⟩) 3 3 ∧ E 10 = Value.int .i64 2) (fun _ => (pt b7 3 [Value.int .i64 (pk g0 0), Value.int .i64 (pk g1 1), Value.int .i64 (pk g2 2)]) :: (pt b6 3 [Value.int .i64 (pk f0 0), Value.int .i64 (pk f1 1), Value.int .i64 (pk f2 2)]) :: (storeW b4 tl24_6) :: (pt b2 22 [Value.bool g0, Value.bool g1, Value.bool g2]) :: (pt b1 22 [Value.bool f0, Value.bool f1, Value.bool f2]) :: F) ?_ ?_
      ·
        refine Wc.block ?_
        refine Wc.meet (X := Unit) (fun _ E => E 2 = Value.pointer (some ⟨b1, 0, none⟩) ∧ E 3 = Value.pointer (some ⟨b2, 0, none⟩) ∧ E 5 = Value.pointer (some ⟨b4, 0, none⟩) ∧ E 8 = Value.slice (some ⟨b6, 0, none⟩) 3 3 ∧ E 9 = Value.slice (some ⟨b7, 0, none⟩) 3 3 ∧ E 10 = Value.int .i64 2) (fun _ => (pt b7 3 [Value.int .i64 (pk g0 0), Value.int .i64 (pk g1 1), Value.int .i64 3]) :: (pt b6 3 [Value.int .i64 (pk f0 0), Value.int .i64 (pk f1 1), Value.int .i64 (pk f2 2)]) :: (storeW b4 tl24_6) :: (pt b2 22 [Value.bool g0, Value.bool g1, Value.bool g2]) :: (pt b1 22 [Value.bool f0, Value.bool f1, Value.bool f2]) :: F) ?_ ?_
        ·
          refine Wc.seq ?_
          refine Wc.region ?_
          refine Wl.q (v := Value.int .i64 2) (q_move rfl) ?_
          refine Wl.q (v := Value.pointer (some ⟨b1, 2, none⟩)) (q_idx_arr (m := 2) Tryd.underlying22 sz_4 hE2_17 rfl (by decide) (by decide) rfl) ?_
          refine Wl.q (v := Value.bool f2) (q_load sc_4 rfl (.cel (i := 4) rfl rfl)) ?_
          refine Wl.done ?_
          refine Wx.go ?_
          refine Wc.both (b := f2) rfl (fun hb20 => ?_) (fun hb20 => ?_)
          ·
            have hpk : pk f2 2 = 6 := by rw [hb20]; rfl
            refine Wc.region ?_
            refine Wl.q (v := Value.slice (some ⟨b6, 0, none⟩) 3 3) (q_move hE8_17) ?_
            refine Wl.q (v := Value.int .i64 2) (q_move rfl) ?_
            refine Wl.q (v := Value.int .i64 2) (q_move rfl) ?_
            refine Wl.q (v := Value.int .i64 6) (q_add (c := 6) rfl rfl (by decide)) ?_
            refine Wl.q (v := Value.pointer (some ⟨b6, 2, none⟩)) (q_idx (m := 2) se_31 rfl rfl (by omega) (by omega) rfl) ?_
            refine Wl.e (e_store (i := 1) (v := Value.int .i64 6) sz_3 rfl rfl (fun _ _ => rfl) rfl (by simp)) (fun _ _ => ?_)
            refine Wl.imp (L' := (pt b7 3 [Value.int .i64 (pk g0 0), Value.int .i64 (pk g1 1), Value.int .i64 3]) :: (pt b6 3 [Value.int .i64 (pk f0 0), Value.int .i64 (pk f1 1), Value.int .i64 6]) :: (storeW b4 tl24_6) :: (pt b2 22 [Value.bool g0, Value.bool g1, Value.bool g2]) :: (pt b1 22 [Value.bool f0, Value.bool f1, Value.bool f2]) :: F) (fun _ h => h) ?_
            refine Wl.done ?_
            refine Wx.at () ⟨hE2_17, hE3_17, hE5_17, hE8_17, hE9_17, rfl⟩ (fun w hs => by rw [hpk]; exact hs)
          ·
            have hpk : pk f2 2 = 3 := by rw [hb20]; rfl
            refine Wc.skip ?_
            refine Wx.at () ⟨hE2_17, hE3_17, hE5_17, hE8_17, hE9_17, rfl⟩ (fun w hs => by rw [hpk]; exact hs)
        · rintro _ E22 ⟨hE2_20, hE3_20, hE5_20, hE8_20, hE9_20, hE10_20⟩
          refine Wc.seq ?_
          refine Wc.region ?_
          refine Wl.q (v := Value.int .i64 2) (q_move hE10_20) ?_
          refine Wl.q (v := Value.pointer (some ⟨b2, 2, none⟩)) (q_idx_arr (m := 2) Tryd.underlying22 sz_4 hE3_20 rfl (by decide) (by decide) rfl) ?_
          refine Wl.q (v := Value.bool g2) (q_load sc_4 rfl (.cel (i := 3) rfl rfl)) ?_
          refine Wl.done ?_
          refine Wx.go ?_
          refine Wc.both (b := g2) rfl (fun hb23 => ?_) (fun hb23 => ?_)
          ·
            have hpk : pk g2 2 = 6 := by rw [hb23]; rfl
            refine Wc.region ?_
            refine Wl.q (v := Value.slice (some ⟨b7, 0, none⟩) 3 3) (q_move hE9_20) ?_
            refine Wl.q (v := Value.int .i64 2) (q_move hE10_20) ?_
            refine Wl.q (v := Value.int .i64 2) (q_move hE10_20) ?_
            refine Wl.q (v := Value.int .i64 6) (q_add (c := 6) rfl rfl (by decide)) ?_
            refine Wl.q (v := Value.pointer (some ⟨b7, 2, none⟩)) (q_idx (m := 2) se_31 rfl rfl (by omega) (by omega) rfl) ?_
            refine Wl.e (e_store (i := 0) (v := Value.int .i64 6) sz_3 rfl rfl (fun _ _ => rfl) rfl (by simp)) (fun _ _ => ?_)
            refine Wl.imp (L' := (pt b7 3 [Value.int .i64 (pk g0 0), Value.int .i64 (pk g1 1), Value.int .i64 6]) :: (pt b6 3 [Value.int .i64 (pk f0 0), Value.int .i64 (pk f1 1), Value.int .i64 (pk f2 2)]) :: (storeW b4 tl24_6) :: (pt b2 22 [Value.bool g0, Value.bool g1, Value.bool g2]) :: (pt b1 22 [Value.bool f0, Value.bool f1, Value.bool f2]) :: F) (fun _ h => h) ?_
            refine Wl.done ?_
            refine Wx.blockEnd ?_
            refine Wx.at () ⟨hE2_20, hE3_20, hE5_20, hE8_20, hE9_20, hE10_20⟩ (fun w hs => by rw [hpk]; exact hs)
          ·
            have hpk : pk g2 2 = 3 := by rw [hb23]; rfl
            refine Wc.skip ?_
            refine Wx.blockEnd ?_
            refine Wx.at () ⟨hE2_20, hE3_20, hE5_20, hE8_20, hE9_20, hE10_20⟩ (fun w hs => by rw [hpk]; exact hs)
      · rintro _ E25 ⟨hE2_23, hE3_23, hE5_23, hE8_23, hE9_23, hE10_23⟩
        refine Wc.region ?_
        refine Wl.q (v := Value.int .i64 2) (q_move hE10_23) ?_
        refine Wl.q (v := Value.int .i64 3) (q_add (c := 3) rfl rfl (by decide)) ?_
        refine Wl.q (v := Value.int .i64 3) (q_assign rfl) ?_
        refine Wl.done ?_
        refine Wx.again ?_
        refine Wn.round ?_
        refine Wc.seq ?_
        refine Wc.seq ?_
        refine Wc.region ?_
        refine Wl.q (v := Value.int .i64 3) (q_move rfl) ?_
        refine Wl.q (v := Value.bool false) (q_lss (r := false) rfl rfl (decide_eq_false (by decide))) ?_
        refine Wl.done ?_
        refine Wx.go ?_
        refine Wc.no rfl ?_
        refine Wc.exit ?_
        refine Wx.thenExit ?_
        refine Wx.thenExit ?_
        refine Wx.out ?_
        refine Wx.go ?_
        refine Wc.seq ?_
        refine Wc.drawsS [10, 15] ((pt b7 3 [Value.int .i64 (pk g0 0), Value.int .i64 (pk g1 1), Value.int .i64 (pk g2 2)]) :: (pt b6 3 [Value.int .i64 (pk f0 0), Value.int .i64 (pk f1 1), Value.int .i64 (pk f2 2)]) :: (storeW b4 tl24_6) :: (pt b2 22 [Value.bool g0, Value.bool g1, Value.bool g2]) :: (pt b1 22 [Value.bool f0, Value.bool f1, Value.bool f2]) :: []) (by kernel_rfl) ?_
        refine Wr.pure (v := Value.pointer (some ⟨b4, 0, none⟩)) 0 rfl (by kernel_rfl) (.inr (fun _ h => st_take [0, 0, 0, 0, 0] h)) (.inl ⟨rfl, fun _ => q_move hE5_23⟩) ?_
        refine Wr.pure (v := Value.slice (some ⟨b6, 0, none⟩) 3 3) 1 rfl (by kernel_rfl) (.inr (fun _ h => st_take [0, 0, 0, 0, 0] h)) (.inl ⟨rfl, fun _ => q_move hE8_23⟩) ?_
        refine Wr.pure (v := Value.pointer (some ⟨b6, 0, none⟩)) 2 rfl (by kernel_rfl) (.inr (fun _ h => st_take [0, 0, 0, 0, 0] h)) (.inl ⟨rfl, fun _ => q_idx (m := 0) se_31 rfl rfl (by omega) (by omega) rfl⟩) ?_
        refine Wr.take (v := Value.int .i64 (pk f0 0)) 3 rfl (by kernel_rfl) (fun _ h => st_take [0, 0, 0, 0, 0] h) (.inl ⟨rfl, q_load sc_3 rfl (.cel (i := 1) rfl rfl)⟩) ?_
        refine Wr.pure (v := Value.slice (some ⟨b6, 0, none⟩) 3 3) 4 rfl (by kernel_rfl) (.inr (fun _ h => st_take [0, 0, 0, 0, 0] h)) (.inl ⟨rfl, fun _ => q_move hE8_23⟩) ?_
        refine Wr.pure (v := Value.pointer (some ⟨b6, 1, none⟩)) 5 rfl (by kernel_rfl) (.inr (fun _ h => st_take [0, 0, 0, 0, 0] h)) (.inl ⟨rfl, fun _ => q_idx (m := 1) se_31 rfl rfl (by omega) (by omega) rfl⟩) ?_
        refine Wr.take (v := Value.int .i64 (pk f1 1)) 6 rfl (by kernel_rfl) (fun _ h => st_take [0, 0, 0, 0, 0] h) (.inl ⟨rfl, q_load sc_3 rfl (.cel (i := 1) rfl rfl)⟩) ?_
        refine Wr.pure (v := Value.slice (some ⟨b6, 0, none⟩) 3 3) 7 rfl (by kernel_rfl) (.inr (fun _ h => st_take [0, 0, 0, 0, 0] h)) (.inl ⟨rfl, fun _ => q_move hE8_23⟩) ?_
        refine Wr.pure (v := Value.pointer (some ⟨b6, 2, none⟩)) 8 rfl (by kernel_rfl) (.inr (fun _ h => st_take [0, 0, 0, 0, 0] h)) (.inl ⟨rfl, fun _ => q_idx (m := 2) se_31 rfl rfl (by omega) (by omega) rfl⟩) ?_
        refine Wr.take (v := Value.int .i64 (pk f2 2)) 9 rfl (by kernel_rfl) (fun _ h => st_take [0, 0, 0, 0, 0] h) (.inl ⟨rfl, q_load sc_3 rfl (.cel (i := 1) rfl rfl)⟩) ?_
        refine Wr.some [10, 14] (by kernel_rfl) (by decide) (List.forall_mem_cons.2 ⟨?_, (List.forall_mem_cons.2 ⟨?_, (fun _ h => by cases h)⟩)⟩)
        ·
          refine Wo.imp (L' := (storeW b4 tl24_6) :: (pt b7 3 [Value.int .i64 (pk g0 0), Value.int .i64 (pk g1 1), Value.int .i64 (pk g2 2)]) :: (pt b6 3 [Value.int .i64 (pk f0 0), Value.int .i64 (pk f1 1), Value.int .i64 (pk f2 2)]) :: (pt b2 22 [Value.bool g0, Value.bool g1, Value.bool g2]) :: (pt b1 22 [Value.bool f0, Value.bool f1, Value.bool f2]) :: F) (fun _ h => st_pull [2] h) ?_
          refine Wo.e 10 rfl (e_call (F := (pt b7 3 [Value.int .i64 (pk g0 0), Value.int .i64 (pk g1 1), Value.int .i64 (pk g2 2)]) :: (pt b6 3 [Value.int .i64 (pk f0 0), Value.int .i64 (pk f1 1), Value.int .i64 (pk f2 2)]) :: (pt b2 22 [Value.bool g0, Value.bool g1, Value.bool g2]) :: (pt b1 22 [Value.bool f0, Value.bool f1, Value.bool f2]) :: F) (args := [Value.pointer (some ⟨b4, 0, none⟩), Value.int .i64 (pk f0 0), Value.int .i64 (pk f1 1), Value.int .i64 (pk f2 2)]) Tryd.call6 rfl (Con.eqs (val' := fun _ => .tuple #[Value.agg #[Value.int .i64 (((J1 f0 f1).2.1 : Nat) : Int), Value.int .i64 (((N1 f0 f1 f2).e.2.1 : Nat) : Int), Value.int .i64 (((N1 f0 f1 f2).a.2.1 : Nat) : Int), Value.int .i64 (((N1 f0 f1 f2).b.2.1 : Nat) : Int), Value.int .i64 (((N1 f0 f1 f2).c.2.1 : Nat) : Int), Value.int .i64 (((N1 f0 f1 f2).d.2.1 : Nat) : Int)], .int .i64 0]) (post' := fun _ => [storeW b4 (N1 f0 f1 f2).d.1]) (next_c W0 b4 T6 (pk f0 0) (pk f1 1) (pk f2 2) (pk_rng f0 0 (by omega)) (pk_rng f1 1 (by omega)) (pk_rng f2 2 (by omega)) (by decide)) (fun _ => by unfold N1 J1; rfl) (fun _ => by unfold N1; rfl))) (.inl (by kernel_rfl)) (fun _ _ => ?_)
          refine Wr.imp (L' := (storeW b4 (N1 f0 f1 f2).d.1) :: (pt b7 3 [Value.int .i64 (pk g0 0), Value.int .i64 (pk g1 1), Value.int .i64 (pk g2 2)]) :: (pt b6 3 [Value.int .i64 (pk f0 0), Value.int .i64 (pk f1 1), Value.int .i64 (pk f2 2)]) :: (pt b2 22 [Value.bool g0, Value.bool g1, Value.bool g2]) :: (pt b1 22 [Value.bool f0, Value.bool f1, Value.bool f2]) :: F) (fun _ h => h) ?_
          refine Wr.rebaseS [15] ((storeW b4 (N1 f0 f1 f2).d.1) :: (pt b7 3 [Value.int .i64 (pk g0 0), Value.int .i64 (pk g1 1), Value.int .i64 (pk g2 2)]) :: (pt b6 3 [Value.int .i64 (pk f0 0), Value.int .i64 (pk f1 1), Value.int .i64 (pk f2 2)]) :: (pt b2 22 [Value.bool g0, Value.bool g1, Value.bool g2]) :: (pt b1 22 [Value.bool f0, Value.bool f1, Value.bool f2]) :: []) (by kernel_rfl) ?_
          refine Wr.pure (v := Value.tuple #[Value.agg #[Value.int .i64 (((J1 f0 f1).2.1 : Nat) : Int), Value.int .i64 (((N1 f0 f1 f2).e.2.1 : Nat) : Int), Value.int .i64 (((N1 f0 f1 f2).a.2.1 : Nat) : Int), Value.int .i64 (((N1 f0 f1 f2).b.2.1 : Nat) : Int), Value.int .i64 (((N1 f0 f1 f2).c.2.1 : Nat) : Int), Value.int .i64 (((N1 f0 f1 f2).d.2.1 : Nat) : Int)], Value.int .i64 0]) 11 rfl (by kernel_rfl) (.inr (fun _ h => st_take [0, 0, 0, 0, 0] h)) (.inl ⟨rfl, fun _ => q_move rfl⟩) ?_
          refine Wr.pure (v := Value.agg #[Value.int .i64 (((J1 f0 f1).2.1 : Nat) : Int), Value.int .i64 (((N1 f0 f1 f2).e.2.1 : Nat) : Int), Value.int .i64 (((N1 f0 f1 f2).a.2.1 : Nat) : Int), Value.int .i64 (((N1 f0 f1 f2).b.2.1 : Nat) : Int), Value.int .i64 (((N1 f0 f1 f2).c.2.1 : Nat) : Int), Value.int .i64 (((N1 f0 f1 f2).d.2.1 : Nat) : Int)]) 12 rfl (by kernel_rfl) (.inr (fun _ h => st_take [0, 0, 0, 0, 0] h)) (.inl ⟨rfl, fun _ => q_extract (i := 0) rfl rfl⟩) ?_
          refine Wr.pure (v := Value.int .i64 0) 13 rfl (by kernel_rfl) (.inr (fun _ h => st_take [0, 0, 0, 0, 0] h)) (.inl ⟨rfl, fun _ => q_extract (i := 1) rfl rfl⟩) ?_
          refine Wr.e 14 (by kernel_rfl) rfl (e_alloc (vs := [Value.int .i64 0, Value.int .i64 0, Value.int .i64 0, Value.int .i64 0, Value.int .i64 0, Value.int .i64 0]) zo_33 rfl) (.inr fun _ _ _ h => st_take [1, 1, 1, 1, 1] h) (fun b26 _ => ?_)
          refine Wr.more (S' := (pt b26 33 [Value.int .i64 0, Value.int .i64 0, Value.int .i64 0, Value.int .i64 0, Value.int .i64 0, Value.int .i64 0]) :: (storeW b4 (N1 f0 f1 f2).d.1) :: (pt b7 3 [Value.int .i64 (pk g0 0), Value.int .i64 (pk g1 1), Value.int .i64 (pk g2 2)]) :: (pt b6 3 [Value.int .i64 (pk f0 0), Value.int .i64 (pk f1 1), Value.int .i64 (pk f2 2)]) :: (pt b2 22 [Value.bool g0, Value.bool g1, Value.bool g2]) :: (pt b1 22 [Value.bool f0, Value.bool f1, Value.bool f2]) :: []) (fun _ h => st_drop h) ?_
          refine Wr.e 15 (by kernel_rfl) rfl (e_storeAgg (i := 0) (vs := [Value.int .i64 (((J1 f0 f1).2.1 : Nat) : Int), Value.int .i64 (((N1 f0 f1 f2).e.2.1 : Nat) : Int), Value.int .i64 (((N1 f0 f1 f2).a.2.1 : Nat) : Int), Value.int .i64 (((N1 f0 f1 f2).b.2.1 : Nat) : Int), Value.int .i64 (((N1 f0 f1 f2).c.2.1 : Nat) : Int), Value.int .i64 (((N1 f0 f1 f2).d.2.1 : Nat) : Int)]) (c' := [Value.int .i64 (((J1 f0 f1).2.1 : Nat) : Int), Value.int .i64 (((N1 f0 f1 f2).e.2.1 : Nat) : Int), Value.int .i64 (((N1 f0 f1 f2).a.2.1 : Nat) : Int), Value.int .i64 (((N1 f0 f1 f2).b.2.1 : Nat) : Int), Value.int .i64 (((N1 f0 f1 f2).c.2.1 : Nat) : Int), Value.int .i64 (((N1 f0 f1 f2).d.2.1 : Nat) : Int)]) sz_33 rfl rfl rfl rfl (by simp) rfl) (.inl (by kernel_rfl)) (fun _ _ => ?_)
          refine Wr.imp (L' := (pt b26 33 [Value.int .i64 (((J1 f0 f1).2.1 : Nat) : Int), Value.int .i64 (((N1 f0 f1 f2).e.2.1 : Nat) : Int), Value.int .i64 (((N1 f0 f1 f2).a.2.1 : Nat) : Int), Value.int .i64 (((N1 f0 f1 f2).b.2.1 : Nat) : Int), Value.int .i64 (((N1 f0 f1 f2).c.2.1 : Nat) : Int), Value.int .i64 (((N1 f0 f1 f2).d.2.1 : Nat) : Int)]) :: (storeW b4 (N1 f0 f1 f2).d.1) :: (pt b7 3 [Value.int .i64 (pk g0 0), Value.int .i64 (pk g1 1), Value.int .i64 (pk g2 2)]) :: (pt b6 3 [Value.int .i64 (pk f0 0), Value.int .i64 (pk f1 1), Value.int .i64 (pk f2 2)]) :: (pt b2 22 [Value.bool g0, Value.bool g1, Value.bool g2]) :: (pt b1 22 [Value.bool f0, Value.bool f1, Value.bool f2]) :: F) (fun _ h => h) ?_
          refine Wr.rebaseS [] ((pt b26 33 [Value.int .i64 (((J1 f0 f1).2.1 : Nat) : Int), Value.int .i64 (((N1 f0 f1 f2).e.2.1 : Nat) : Int), Value.int .i64 (((N1 f0 f1 f2).a.2.1 : Nat) : Int), Value.int .i64 (((N1 f0 f1 f2).b.2.1 : Nat) : Int), Value.int .i64 (((N1 f0 f1 f2).c.2.1 : Nat) : Int), Value.int .i64 (((N1 f0 f1 f2).d.2.1 : Nat) : Int)]) :: (storeW b4 (N1 f0 f1 f2).d.1) :: (pt b7 3 [Value.int .i64 (pk g0 0), Value.int .i64 (pk g1 1), Value.int .i64 (pk g2 2)]) :: (pt b6 3 [Value.int .i64 (pk f0 0), Value.int .i64 (pk f1 1), Value.int .i64 (pk f2 2)]) :: (pt b2 22 [Value.bool g0, Value.bool g1, Value.bool g2]) :: (pt b1 22 [Value.bool f0, Value.bool f1, Value.bool f2]) :: []) (by kernel_rfl) ?_
          refine Wr.pure (v := Value.int .i64 0) 16 rfl (by kernel_rfl) (.inr (fun _ h => st_take [0, 0, 0, 0, 0, 0] h)) (.inl ⟨rfl, fun _ => q_assign rfl⟩) ?_
          refine Wr.done (by kernel_rfl) ?_
          refine Wx.go ?_
          refine Wc.seq ?_
          refine Wc.drawsS [10, 15] ((pt b26 33 [Value.int .i64 (((J1 f0 f1).2.1 : Nat) : Int), Value.int .i64 (((N1 f0 f1 f2).e.2.1 : Nat) : Int), Value.int .i64 (((N1 f0 f1 f2).a.2.1 : Nat) : Int), Value.int .i64 (((N1 f0 f1 f2).b.2.1 : Nat) : Int), Value.int .i64 (((N1 f0 f1 f2).c.2.1 : Nat) : Int), Value.int .i64 (((N1 f0 f1 f2).d.2.1 : Nat) : Int)]) :: (storeW b4 (N1 f0 f1 f2).d.1) :: (pt b7 3 [Value.int .i64 (pk g0 0), Value.int .i64 (pk g1 1), Value.int .i64 (pk g2 2)]) :: (pt b6 3 [Value.int .i64 (pk f0 0), Value.int .i64 (pk f1 1), Value.int .i64 (pk f2 2)]) :: (pt b2 22 [Value.bool g0, Value.bool g1, Value.bool g2]) :: (pt b1 22 [Value.bool f0, Value.bool f1, Value.bool f2]) :: []) (by kernel_rfl) ?_
          refine Wr.pure (v := Value.pointer (some ⟨b4, 0, none⟩)) 0 rfl (by kernel_rfl) (.inr (fun _ h => st_take [0, 0, 0, 0, 0, 0] h)) (.inl ⟨rfl, fun _ => q_move hE5_23⟩) ?_
          refine Wr.pure (v := Value.slice (some ⟨b7, 0, none⟩) 3 3) 1 rfl (by kernel_rfl) (.inr (fun _ h => st_take [0, 0, 0, 0, 0, 0] h)) (.inl ⟨rfl, fun _ => q_move hE9_23⟩) ?_
          refine Wr.pure (v := Value.pointer (some ⟨b7, 0, none⟩)) 2 rfl (by kernel_rfl) (.inr (fun _ h => st_take [0, 0, 0, 0, 0, 0] h)) (.inl ⟨rfl, fun _ => q_idx (m := 0) se_31 rfl rfl (by omega) (by omega) rfl⟩) ?_
          refine Wr.take (v := Value.int .i64 (pk g0 0)) 3 rfl (by kernel_rfl) (fun _ h => st_take [0, 0, 0, 0, 0, 0] h) (.inl ⟨rfl, q_load sc_3 rfl (.cel (i := 2) rfl rfl)⟩) ?_
          refine Wr.pure (v := Value.slice (some ⟨b7, 0, none⟩) 3 3) 4 rfl (by kernel_rfl) (.inr (fun _ h => st_take [0, 0, 0, 0, 0, 0] h)) (.inl ⟨rfl, fun _ => q_move hE9_23⟩) ?_
          refine Wr.pure (v := Value.pointer (some ⟨b7, 1, none⟩)) 5 rfl (by kernel_rfl) (.inr (fun _ h => st_take [0, 0, 0, 0, 0, 0] h)) (.inl ⟨rfl, fun _ => q_idx (m := 1) se_31 rfl rfl (by omega) (by omega) rfl⟩) ?_
          refine Wr.take (v := Value.int .i64 (pk g1 1)) 6 rfl (by kernel_rfl) (fun _ h => st_take [0, 0, 0, 0, 0, 0] h) (.inl ⟨rfl, q_load sc_3 rfl (.cel (i := 2) rfl rfl)⟩) ?_
          refine Wr.pure (v := Value.slice (some ⟨b7, 0, none⟩) 3 3) 7 rfl (by kernel_rfl) (.inr (fun _ h => st_take [0, 0, 0, 0, 0, 0] h)) (.inl ⟨rfl, fun _ => q_move hE9_23⟩) ?_
          refine Wr.pure (v := Value.pointer (some ⟨b7, 2, none⟩)) 8 rfl (by kernel_rfl) (.inr (fun _ h => st_take [0, 0, 0, 0, 0, 0] h)) (.inl ⟨rfl, fun _ => q_idx (m := 2) se_31 rfl rfl (by omega) (by omega) rfl⟩) ?_
          refine Wr.take (v := Value.int .i64 (pk g2 2)) 9 rfl (by kernel_rfl) (fun _ h => st_take [0, 0, 0, 0, 0, 0] h) (.inl ⟨rfl, q_load sc_3 rfl (.cel (i := 2) rfl rfl)⟩) ?_
          refine Wr.some [10, 14] (by kernel_rfl) (by decide) (List.forall_mem_cons.2 ⟨?_, (List.forall_mem_cons.2 ⟨?_, (fun _ h => by cases h)⟩)⟩)
          ·
            refine Wo.imp (L' := (storeW b4 (N1 f0 f1 f2).d.1) :: (pt b26 33 [Value.int .i64 (((J1 f0 f1).2.1 : Nat) : Int), Value.int .i64 (((N1 f0 f1 f2).e.2.1 : Nat) : Int), Value.int .i64 (((N1 f0 f1 f2).a.2.1 : Nat) : Int), Value.int .i64 (((N1 f0 f1 f2).b.2.1 : Nat) : Int), Value.int .i64 (((N1 f0 f1 f2).c.2.1 : Nat) : Int), Value.int .i64 (((N1 f0 f1 f2).d.2.1 : Nat) : Int)]) :: (pt b7 3 [Value.int .i64 (pk g0 0), Value.int .i64 (pk g1 1), Value.int .i64 (pk g2 2)]) :: (pt b6 3 [Value.int .i64 (pk f0 0), Value.int .i64 (pk f1 1), Value.int .i64 (pk f2 2)]) :: (pt b2 22 [Value.bool g0, Value.bool g1, Value.bool g2]) :: (pt b1 22 [Value.bool f0, Value.bool f1, Value.bool f2]) :: F) (fun _ h => st_pull [1] h) ?_
            refine Wo.e 10 rfl (e_call (F := (pt b26 33 [Value.int .i64 (((J1 f0 f1).2.1 : Nat) : Int), Value.int .i64 (((N1 f0 f1 f2).e.2.1 : Nat) : Int), Value.int .i64 (((N1 f0 f1 f2).a.2.1 : Nat) : Int), Value.int .i64 (((N1 f0 f1 f2).b.2.1 : Nat) : Int), Value.int .i64 (((N1 f0 f1 f2).c.2.1 : Nat) : Int), Value.int .i64 (((N1 f0 f1 f2).d.2.1 : Nat) : Int)]) :: (pt b7 3 [Value.int .i64 (pk g0 0), Value.int .i64 (pk g1 1), Value.int .i64 (pk g2 2)]) :: (pt b6 3 [Value.int .i64 (pk f0 0), Value.int .i64 (pk f1 1), Value.int .i64 (pk f2 2)]) :: (pt b2 22 [Value.bool g0, Value.bool g1, Value.bool g2]) :: (pt b1 22 [Value.bool f0, Value.bool f1, Value.bool f2]) :: F) (args := [Value.pointer (some ⟨b4, 0, none⟩), Value.int .i64 (pk g0 0), Value.int .i64 (pk g1 1), Value.int .i64 (pk g2 2)]) Tryd.call6 rfl (Con.eqs (val' := fun _ => .tuple #[Value.agg #[Value.int .i64 (((J2 f0 f1 f2 g0 g1).2.1 : Nat) : Int), Value.int .i64 (((N2 f0 f1 f2 g0 g1 g2).e.2.1 : Nat) : Int), Value.int .i64 (((N2 f0 f1 f2 g0 g1 g2).a.2.1 : Nat) : Int), Value.int .i64 (((N2 f0 f1 f2 g0 g1 g2).b.2.1 : Nat) : Int), Value.int .i64 (((N2 f0 f1 f2 g0 g1 g2).c.2.1 : Nat) : Int), Value.int .i64 (((N2 f0 f1 f2 g0 g1 g2).d.2.1 : Nat) : Int)], .int .i64 0]) (post' := fun _ => [storeW b4 (N2 f0 f1 f2 g0 g1 g2).d.1]) (next_c W0 b4 (N1 f0 f1 f2).d.1 (pk g0 0) (pk g1 1) (pk g2 2) ⟨(pk_rng g0 0 (by omega)).1, (by have := (pk_rng g0 0 (by omega)).2; have := unlike_len f0 f1 f2; omega)⟩ ⟨(pk_rng g1 1 (by omega)).1, (by have := (pk_rng g1 1 (by omega)).2; have := unlike_len f0 f1 f2; omega)⟩ ⟨(pk_rng g2 2 (by omega)).1, (by have := (pk_rng g2 2 (by omega)).2; have := unlike_len f0 f1 f2; omega)⟩ (by have := unlike_len f0 f1 f2; omega)) (fun _ => by unfold N2 J2; rfl) (fun _ => by unfold N2; rfl))) (.inl (by kernel_rfl)) (fun _ _ => ?_)
            refine Wr.imp (L' := (storeW b4 (N2 f0 f1 f2 g0 g1 g2).d.1) :: (pt b26 33 [Value.int .i64 (((J1 f0 f1).2.1 : Nat) : Int), Value.int .i64 (((N1 f0 f1 f2).e.2.1 : Nat) : Int), Value.int .i64 (((N1 f0 f1 f2).a.2.1 : Nat) : Int), Value.int .i64 (((N1 f0 f1 f2).b.2.1 : Nat) : Int), Value.int .i64 (((N1 f0 f1 f2).c.2.1 : Nat) : Int), Value.int .i64 (((N1 f0 f1 f2).d.2.1 : Nat) : Int)]) :: (pt b7 3 [Value.int .i64 (pk g0 0), Value.int .i64 (pk g1 1), Value.int .i64 (pk g2 2)]) :: (pt b6 3 [Value.int .i64 (pk f0 0), Value.int .i64 (pk f1 1), Value.int .i64 (pk f2 2)]) :: (pt b2 22 [Value.bool g0, Value.bool g1, Value.bool g2]) :: (pt b1 22 [Value.bool f0, Value.bool f1, Value.bool f2]) :: F) (fun _ h => h) ?_
            refine Wr.rebaseS [15] ((storeW b4 (N2 f0 f1 f2 g0 g1 g2).d.1) :: (pt b26 33 [Value.int .i64 (((J1 f0 f1).2.1 : Nat) : Int), Value.int .i64 (((N1 f0 f1 f2).e.2.1 : Nat) : Int), Value.int .i64 (((N1 f0 f1 f2).a.2.1 : Nat) : Int), Value.int .i64 (((N1 f0 f1 f2).b.2.1 : Nat) : Int), Value.int .i64 (((N1 f0 f1 f2).c.2.1 : Nat) : Int), Value.int .i64 (((N1 f0 f1 f2).d.2.1 : Nat) : Int)]) :: (pt b7 3 [Value.int .i64 (pk g0 0), Value.int .i64 (pk g1 1), Value.int .i64 (pk g2 2)]) :: (pt b6 3 [Value.int .i64 (pk f0 0), Value.int .i64 (pk f1 1), Value.int .i64 (pk f2 2)]) :: (pt b2 22 [Value.bool g0, Value.bool g1, Value.bool g2]) :: (pt b1 22 [Value.bool f0, Value.bool f1, Value.bool f2]) :: []) (by kernel_rfl) ?_
            refine Wr.pure (v := Value.tuple #[Value.agg #[Value.int .i64 (((J2 f0 f1 f2 g0 g1).2.1 : Nat) : Int), Value.int .i64 (((N2 f0 f1 f2 g0 g1 g2).e.2.1 : Nat) : Int), Value.int .i64 (((N2 f0 f1 f2 g0 g1 g2).a.2.1 : Nat) : Int), Value.int .i64 (((N2 f0 f1 f2 g0 g1 g2).b.2.1 : Nat) : Int), Value.int .i64 (((N2 f0 f1 f2 g0 g1 g2).c.2.1 : Nat) : Int), Value.int .i64 (((N2 f0 f1 f2 g0 g1 g2).d.2.1 : Nat) : Int)], Value.int .i64 0]) 11 rfl (by kernel_rfl) (.inr (fun _ h => st_take [0, 0, 0, 0, 0, 0] h)) (.inl ⟨rfl, fun _ => q_move rfl⟩) ?_
            refine Wr.pure (v := Value.agg #[Value.int .i64 (((J2 f0 f1 f2 g0 g1).2.1 : Nat) : Int), Value.int .i64 (((N2 f0 f1 f2 g0 g1 g2).e.2.1 : Nat) : Int), Value.int .i64 (((N2 f0 f1 f2 g0 g1 g2).a.2.1 : Nat) : Int), Value.int .i64 (((N2 f0 f1 f2 g0 g1 g2).b.2.1 : Nat) : Int), Value.int .i64 (((N2 f0 f1 f2 g0 g1 g2).c.2.1 : Nat) : Int), Value.int .i64 (((N2 f0 f1 f2 g0 g1 g2).d.2.1 : Nat) : Int)]) 12 rfl (by kernel_rfl) (.inr (fun _ h => st_take [0, 0, 0, 0, 0, 0] h)) (.inl ⟨rfl, fun _ => q_extract (i := 0) rfl rfl⟩) ?_
            refine Wr.pure (v := Value.int .i64 0) 13 rfl (by kernel_rfl) (.inr (fun _ h => st_take [0, 0, 0, 0, 0, 0] h)) (.inl ⟨rfl, fun _ => q_extract (i := 1) rfl rfl⟩) ?_
            refine Wr.e 14 (by kernel_rfl) rfl (e_alloc (vs := [Value.int .i64 0, Value.int .i64 0, Value.int .i64 0, Value.int .i64 0, Value.int .i64 0, Value.int .i64 0]) zo_33 rfl) (.inr fun _ _ _ h => st_take [1, 1, 1, 1, 1, 1] h) (fun b27 _ => ?_)
            refine Wr.more (S' := (pt b27 33 [Value.int .i64 0, Value.int .i64 0, Value.int .i64 0, Value.int .i64 0, Value.int .i64 0, Value.int .i64 0]) :: (storeW b4 (N2 f0 f1 f2 g0 g1 g2).d.1) :: (pt b26 33 [Value.int .i64 (((J1 f0 f1).2.1 : Nat) : Int), Value.int .i64 (((N1 f0 f1 f2).e.2.1 : Nat) : Int), Value.int .i64 (((N1 f0 f1 f2).a.2.1 : Nat) : Int), Value.int .i64 (((N1 f0 f1 f2).b.2.1 : Nat) : Int), Value.int .i64 (((N1 f0 f1 f2).c.2.1 : Nat) : Int), Value.int .i64 (((N1 f0 f1 f2).d.2.1 : Nat) : Int)]) :: (pt b7 3 [Value.int .i64 (pk g0 0), Value.int .i64 (pk g1 1), Value.int .i64 (pk g2 2)]) :: (pt b6 3 [Value.int .i64 (pk f0 0), Value.int .i64 (pk f1 1), Value.int .i64 (pk f2 2)]) :: (pt b2 22 [Value.bool g0, Value.bool g1, Value.bool g2]) :: (pt b1 22 [Value.bool f0, Value.bool f1, Value.bool f2]) :: []) (fun _ h => st_drop h) ?_
            refine Wr.e 15 (by kernel_rfl) rfl (e_storeAgg (i := 0) (vs := [Value.int .i64 (((J2 f0 f1 f2 g0 g1).2.1 : Nat) : Int), Value.int .i64 (((N2 f0 f1 f2 g0 g1 g2).e.2.1 : Nat) : Int), Value.int .i64 (((N2 f0 f1 f2 g0 g1 g2).a.2.1 : Nat) : Int), Value.int .i64 (((N2 f0 f1 f2 g0 g1 g2).b.2.1 : Nat) : Int), Value.int .i64 (((N2 f0 f1 f2 g0 g1 g2).c.2.1 : Nat) : Int), Value.int .i64 (((N2 f0 f1 f2 g0 g1 g2).d.2.1 : Nat) : Int)]) (c' := [Value.int .i64 (((J2 f0 f1 f2 g0 g1).2.1 : Nat) : Int), Value.int .i64 (((N2 f0 f1 f2 g0 g1 g2).e.2.1 : Nat) : Int), Value.int .i64 (((N2 f0 f1 f2 g0 g1 g2).a.2.1 : Nat) : Int), Value.int .i64 (((N2 f0 f1 f2 g0 g1 g2).b.2.1 : Nat) : Int), Value.int .i64 (((N2 f0 f1 f2 g0 g1 g2).c.2.1 : Nat) : Int), Value.int .i64 (((N2 f0 f1 f2 g0 g1 g2).d.2.1 : Nat) : Int)]) sz_33 rfl rfl rfl rfl (by simp) rfl) (.inl (by kernel_rfl)) (fun _ _ => ?_)
            refine Wr.imp (L' := (pt b27 33 [Value.int .i64 (((J2 f0 f1 f2 g0 g1).2.1 : Nat) : Int), Value.int .i64 (((N2 f0 f1 f2 g0 g1 g2).e.2.1 : Nat) : Int), Value.int .i64 (((N2 f0 f1 f2 g0 g1 g2).a.2.1 : Nat) : Int), Value.int .i64 (((N2 f0 f1 f2 g0 g1 g2).b.2.1 : Nat) : Int), Value.int .i64 (((N2 f0 f1 f2 g0 g1 g2).c.2.1 : Nat) : Int), Value.int .i64 (((N2 f0 f1 f2 g0 g1 g2).d.2.1 : Nat) : Int)]) :: (storeW b4 (N2 f0 f1 f2 g0 g1 g2).d.1) :: (pt b26 33 [Value.int .i64 (((J1 f0 f1).2.1 : Nat) : Int), Value.int .i64 (((N1 f0 f1 f2).e.2.1 : Nat) : Int), Value.int .i64 (((N1 f0 f1 f2).a.2.1 : Nat) : Int), Value.int .i64 (((N1 f0 f1 f2).b.2.1 : Nat) : Int), Value.int .i64 (((N1 f0 f1 f2).c.2.1 : Nat) : Int), Value.int .i64 (((N1 f0 f1 f2).d.2.1 : Nat) : Int)]) :: (pt b7 3 [Value.int .i64 (pk g0 0), Value.int .i64 (pk g1 1), Value.int .i64 (pk g2 2)]) :: (pt b6 3 [Value.int .i64 (pk f0 0), Value.int .i64 (pk f1 1), Value.int .i64 (pk f2 2)]) :: (pt b2 22 [Value.bool g0, Value.bool g1, Value.bool g2]) :: (pt b1 22 [Value.bool f0, Value.bool f1, Value.bool f2]) :: F) (fun _ h => h) ?_
            refine Wr.rebaseS [] ((pt b27 33 [Value.int .i64 (((J2 f0 f1 f2 g0 g1).2.1 : Nat) : Int), Value.int .i64 (((N2 f0 f1 f2 g0 g1 g2).e.2.1 : Nat) : Int), Value.int .i64 (((N2 f0 f1 f2 g0 g1 g2).a.2.1 : Nat) : Int), Value.int .i64 (((N2 f0 f1 f2 g0 g1 g2).b.2.1 : Nat) : Int), Value.int .i64 (((N2 f0 f1 f2 g0 g1 g2).c.2.1 : Nat) : Int), Value.int .i64 (((N2 f0 f1 f2 g0 g1 g2).d.2.1 : Nat) : Int)]) :: (storeW b4 (N2 f0 f1 f2 g0 g1 g2).d.1) :: (pt b26 33 [Value.int .i64 (((J1 f0 f1).2.1 : Nat) : Int), Value.int .i64 (((N1 f0 f1 f2).e.2.1 : Nat) : Int), Value.int .i64 (((N1 f0 f1 f2).a.2.1 : Nat) : Int), Value.int .i64 (((N1 f0 f1 f2).b.2.1 : Nat) : Int), Value.int .i64 (((N1 f0 f1 f2).c.2.1 : Nat) : Int), Value.int .i64 (((N1 f0 f1 f2).d.2.1 : Nat) : Int)]) :: (pt b7 3 [Value.int .i64 (pk g0 0), Value.int .i64 (pk g1 1), Value.int .i64 (pk g2 2)]) :: (pt b6 3 [Value.int .i64 (pk f0 0), Value.int .i64 (pk f1 1), Value.int .i64 (pk f2 2)]) :: (pt b2 22 [Value.bool g0, Value.bool g1, Value.bool g2]) :: (pt b1 22 [Value.bool f0, Value.bool f1, Value.bool f2]) :: []) (by kernel_rfl) ?_
            refine Wr.pure (v := Value.int .i64 0) 16 rfl (by kernel_rfl) (.inr (fun _ h => st_take [0, 0, 0, 0, 0, 0, 0] h)) (.inl ⟨rfl, fun _ => q_assign rfl⟩) ?_
            refine Wr.done (by kernel_rfl) ?_
            refine Wx.go ?_
            refine Wc.seq ?_
            refine Wc.seq ?_
            refine Wc.region ?_
            refine Wl.q (v := Value.int .i64 0) (q_move rfl) ?_
            refine Wl.q (v := Value.bool false) (q_neq (r := true) rfl rfl (decide_eq_true (by decide))) ?_
            refine Wl.q (v := Value.bool false) (q_move rfl) ?_
            refine Wl.q (v := Value.int .i64 0) (q_move rfl) ?_
            refine Wl.q (v := Value.bool false) (q_neq (r := true) rfl rfl (decide_eq_true (by decide))) ?_
            refine Wl.q (v := Value.bool false) (q_pick (t := false) rfl rfl) ?_
            refine Wl.done ?_
            refine Wx.go ?_
            refine Wc.no rfl ?_
            refine Wc.skip ?_
            refine Wx.go ?_
            refine Wc.seq ?_
            refine Wc.drawsS [52] ((pt b27 33 [Value.int .i64 (((J2 f0 f1 f2 g0 g1).2.1 : Nat) : Int), Value.int .i64 (((N2 f0 f1 f2 g0 g1 g2).e.2.1 : Nat) : Int), Value.int .i64 (((N2 f0 f1 f2 g0 g1 g2).a.2.1 : Nat) : Int), Value.int .i64 (((N2 f0 f1 f2 g0 g1 g2).b.2.1 : Nat) : Int), Value.int .i64 (((N2 f0 f1 f2 g0 g1 g2).c.2.1 : Nat) : Int), Value.int .i64 (((N2 f0 f1 f2 g0 g1 g2).d.2.1 : Nat) : Int)]) :: (storeW b4 (N2 f0 f1 f2 g0 g1 g2).d.1) :: (pt b26 33 [Value.int .i64 (((J1 f0 f1).2.1 : Nat) : Int), Value.int .i64 (((N1 f0 f1 f2).e.2.1 : Nat) : Int), Value.int .i64 (((N1 f0 f1 f2).a.2.1 : Nat) : Int), Value.int .i64 (((N1 f0 f1 f2).b.2.1 : Nat) : Int), Value.int .i64 (((N1 f0 f1 f2).c.2.1 : Nat) : Int), Value.int .i64 (((N1 f0 f1 f2).d.2.1 : Nat) : Int)]) :: (pt b7 3 [Value.int .i64 (pk g0 0), Value.int .i64 (pk g1 1), Value.int .i64 (pk g2 2)]) :: (pt b6 3 [Value.int .i64 (pk f0 0), Value.int .i64 (pk f1 1), Value.int .i64 (pk f2 2)]) :: (pt b2 22 [Value.bool g0, Value.bool g1, Value.bool g2]) :: (pt b1 22 [Value.bool f0, Value.bool f1, Value.bool f2]) :: []) (by kernel_rfl) ?_
            refine Wr.pure (v := Value.pointer (some ⟨b26, 1, none⟩)) 0 rfl (by kernel_rfl) (.inr (fun _ h => st_take [0, 0, 0, 0, 0, 0, 0] h)) (.inl ⟨rfl, fun _ => q_field (m := 1) fo_33_1 rfl rfl⟩) ?_
            refine Wr.take (v := Value.int .i64 (((N1 f0 f1 f2).e.2.1 : Nat) : Int)) 1 rfl (by kernel_rfl) (fun _ h => st_take [0, 0, 0, 0, 0, 0, 0] h) (.inl ⟨rfl, q_load sc_3 rfl (.cel (i := 2) rfl rfl)⟩) ?_
            refine Wr.pure (v := Value.pointer (some ⟨b27, 1, none⟩)) 2 rfl (by kernel_rfl) (.inr (fun _ h => st_take [0, 0, 0, 0, 0, 0, 0] h)) (.inl ⟨rfl, fun _ => q_field (m := 1) fo_33_1 rfl rfl⟩) ?_
            refine Wr.take (v := Value.int .i64 (((N2 f0 f1 f2 g0 g1 g2).e.2.1 : Nat) : Int)) 3 rfl (by kernel_rfl) (fun _ h => st_take [0, 0, 0, 0, 0, 0, 0] h) (.inl ⟨rfl, q_load sc_3 rfl (.cel (i := 0) rfl rfl)⟩) ?_
            refine Wr.pure (v := Value.bool (decide ((((N1 f0 f1 f2).e.2.1 : Nat) : Int) = (((N2 f0 f1 f2 g0 g1 g2).e.2.1 : Nat) : Int)))) 4 rfl (by kernel_rfl) (.inr (fun _ h => st_take [0, 0, 0, 0, 0, 0, 0] h)) (.inl ⟨rfl, fun _ => q_eql rfl rfl rfl⟩) ?_
            refine Wr.take (v := Value.agg #[Value.bool f0, Value.bool f1, Value.bool f2]) 5 rfl (by kernel_rfl) (fun _ h => st_take [0, 0, 0, 0, 0, 0, 0] h) (.inl ⟨rfl, q_loadAgg (vs := [Value.bool f0, Value.bool f1, Value.bool f2]) ag_22 hE2_23 (Has.of_pt (i := 6) rfl rfl)⟩) ?_
            refine Wr.take (v := Value.agg #[Value.bool g0, Value.bool g1, Value.bool g2]) 6 rfl (by kernel_rfl) (fun _ h => st_take [0, 0, 0, 0, 0, 0, 0] h) (.inl ⟨rfl, q_loadAgg (vs := [Value.bool g0, Value.bool g1, Value.bool g2]) ag_22 hE3_23 (Has.of_pt (i := 5) rfl rfl)⟩) ?_
            refine Wr.pure (v := Value.bool (f0 == g0 && (f1 == g1 && f2 == g2))) 7 rfl (by kernel_rfl) (.inr (fun _ h => st_take [0, 0, 0, 0, 0, 0, 0] h)) (.inl ⟨rfl, fun _ => q_eql_agg (r := (f0 == g0 && (f1 == g1 && f2 == g2))) rfl rfl eg_22 (eqB3 f0 f1 f2 g0 g1 g2)⟩) ?_
            refine Wr.pure (v := Value.bool true) 8 rfl (by kernel_rfl) (.inr (fun _ h => st_take [0, 0, 0, 0, 0, 0, 0] h)) (.inl ⟨rfl, fun _ => q_eql_bool (r := true) rfl rfl Tryd.underlying4 (beq_iff_eq.2 (unlike_e f0 f1 f2 g0 g1 g2))⟩) ?_
            refine Wr.pure (v := Value.bool true) 9 rfl (by kernel_rfl) (.inr (fun _ h => st_take [0, 0, 0, 0, 0, 0, 0] h)) (.inl ⟨rfl, fun _ => q_move rfl⟩) ?_
            refine Wr.pure (v := Value.pointer (some ⟨b26, 2, none⟩)) 10 rfl (by kernel_rfl) (.inr (fun _ h => st_take [0, 0, 0, 0, 0, 0, 0] h)) (.inl ⟨rfl, fun _ => q_field (m := 2) fo_33_2 rfl rfl⟩) ?_
            refine Wr.take (v := Value.int .i64 (((N1 f0 f1 f2).a.2.1 : Nat) : Int)) 11 rfl (by kernel_rfl) (fun _ h => st_take [0, 0, 0, 0, 0, 0, 0] h) (.inl ⟨rfl, q_load sc_3 rfl (.cel (i := 2) rfl rfl)⟩) ?_
            refine Wr.pure (v := Value.pointer (some ⟨b27, 2, none⟩)) 12 rfl (by kernel_rfl) (.inr (fun _ h => st_take [0, 0, 0, 0, 0, 0, 0] h)) (.inl ⟨rfl, fun _ => q_field (m := 2) fo_33_2 rfl rfl⟩) ?_
            refine Wr.take (v := Value.int .i64 (((N2 f0 f1 f2 g0 g1 g2).a.2.1 : Nat) : Int)) 13 rfl (by kernel_rfl) (fun _ h => st_take [0, 0, 0, 0, 0, 0, 0] h) (.inl ⟨rfl, q_load sc_3 rfl (.cel (i := 0) rfl rfl)⟩) ?_
            refine Wr.pure (v := Value.bool (decide ((((N1 f0 f1 f2).a.2.1 : Nat) : Int) = (((N2 f0 f1 f2 g0 g1 g2).a.2.1 : Nat) : Int)))) 14 rfl (by kernel_rfl) (.inr (fun _ h => st_take [0, 0, 0, 0, 0, 0, 0] h)) (.inl ⟨rfl, fun _ => q_eql rfl rfl rfl⟩) ?_
            refine Wr.take (v := Value.agg #[Value.bool f0, Value.bool f1, Value.bool f2]) 15 rfl (by kernel_rfl) (fun _ h => st_take [0, 0, 0, 0, 0, 0, 0] h) (.inl ⟨rfl, q_loadAgg (vs := [Value.bool f0, Value.bool f1, Value.bool f2]) ag_22 hE2_23 (Has.of_pt (i := 6) rfl rfl)⟩) ?_
            refine Wr.take (v := Value.agg #[Value.bool g0, Value.bool g1, Value.bool g2]) 16 rfl (by kernel_rfl) (fun _ h => st_take [0, 0, 0, 0, 0, 0, 0] h) (.inl ⟨rfl, q_loadAgg (vs := [Value.bool g0, Value.bool g1, Value.bool g2]) ag_22 hE3_23 (Has.of_pt (i := 5) rfl rfl)⟩) ?_
            refine Wr.pure (v := Value.bool (f0 == g0 && (f1 == g1 && f2 == g2))) 17 rfl (by kernel_rfl) (.inr (fun _ h => st_take [0, 0, 0, 0, 0, 0, 0] h)) (.inl ⟨rfl, fun _ => q_eql_agg (r := (f0 == g0 && (f1 == g1 && f2 == g2))) rfl rfl eg_22 (eqB3 f0 f1 f2 g0 g1 g2)⟩) ?_
            refine Wr.pure (v := Value.bool true) 18 rfl (by kernel_rfl) (.inr (fun _ h => st_take [0, 0, 0, 0, 0, 0, 0] h)) (.inl ⟨rfl, fun _ => q_eql_bool (r := true) rfl rfl Tryd.underlying4 (beq_iff_eq.2 (unlike_a f0 f1 f2 g0 g1 g2))⟩) ?_
            refine Wr.pure (v := Value.bool true) 19 rfl (by kernel_rfl) (.inr (fun _ h => st_take [0, 0, 0, 0, 0, 0, 0] h)) (.inl ⟨rfl, fun _ => q_pick (t := true) rfl rfl⟩) ?_
            refine Wr.pure (v := Value.bool true) 20 rfl (by kernel_rfl) (.inr (fun _ h => st_take [0, 0, 0, 0, 0, 0, 0] h)) (.inl ⟨rfl, fun _ => q_move rfl⟩) ?_
            refine Wr.pure (v := Value.pointer (some ⟨b26, 5, none⟩)) 21 rfl (by kernel_rfl) (.inr (fun _ h => st_take [0, 0, 0, 0, 0, 0, 0] h)) (.inl ⟨rfl, fun _ => q_field (m := 5) fo_33_5 rfl rfl⟩) ?_
            refine Wr.take (v := Value.int .i64 (((N1 f0 f1 f2).d.2.1 : Nat) : Int)) 22 rfl (by kernel_rfl) (fun _ h => st_take [0, 0, 0, 0, 0, 0, 0] h) (.inl ⟨rfl, q_load sc_3 rfl (.cel (i := 2) rfl rfl)⟩) ?_
            refine Wr.pure (v := Value.pointer (some ⟨b27, 5, none⟩)) 23 rfl (by kernel_rfl) (.inr (fun _ h => st_take [0, 0, 0, 0, 0, 0, 0] h)) (.inl ⟨rfl, fun _ => q_field (m := 5) fo_33_5 rfl rfl⟩) ?_
            refine Wr.take (v := Value.int .i64 (((N2 f0 f1 f2 g0 g1 g2).d.2.1 : Nat) : Int)) 24 rfl (by kernel_rfl) (fun _ h => st_take [0, 0, 0, 0, 0, 0, 0] h) (.inl ⟨rfl, q_load sc_3 rfl (.cel (i := 0) rfl rfl)⟩) ?_
            refine Wr.pure (v := Value.bool (decide ((((N1 f0 f1 f2).d.2.1 : Nat) : Int) = (((N2 f0 f1 f2 g0 g1 g2).d.2.1 : Nat) : Int)))) 25 rfl (by kernel_rfl) (.inr (fun _ h => st_take [0, 0, 0, 0, 0, 0, 0] h)) (.inl ⟨rfl, fun _ => q_eql rfl rfl rfl⟩) ?_
            refine Wr.take (v := Value.agg #[Value.bool f0, Value.bool f1, Value.bool f2]) 26 rfl (by kernel_rfl) (fun _ h => st_take [0, 0, 0, 0, 0, 0, 0] h) (.inl ⟨rfl, q_loadAgg (vs := [Value.bool f0, Value.bool f1, Value.bool f2]) ag_22 hE2_23 (Has.of_pt (i := 6) rfl rfl)⟩) ?_
            refine Wr.take (v := Value.agg #[Value.bool g0, Value.bool g1, Value.bool g2]) 27 rfl (by kernel_rfl) (fun _ h => st_take [0, 0, 0, 0, 0, 0, 0] h) (.inl ⟨rfl, q_loadAgg (vs := [Value.bool g0, Value.bool g1, Value.bool g2]) ag_22 hE3_23 (Has.of_pt (i := 5) rfl rfl)⟩) ?_
            refine Wr.pure (v := Value.bool (f0 == g0 && (f1 == g1 && f2 == g2))) 28 rfl (by kernel_rfl) (.inr (fun _ h => st_take [0, 0, 0, 0, 0, 0, 0] h)) (.inl ⟨rfl, fun _ => q_eql_agg (r := (f0 == g0 && (f1 == g1 && f2 == g2))) rfl rfl eg_22 (eqB3 f0 f1 f2 g0 g1 g2)⟩) ?_
            refine Wr.pure (v := Value.bool true) 29 rfl (by kernel_rfl) (.inr (fun _ h => st_take [0, 0, 0, 0, 0, 0, 0] h)) (.inl ⟨rfl, fun _ => q_eql_bool (r := true) rfl rfl Tryd.underlying4 (beq_iff_eq.2 (unlike_d f0 f1 f2 g0 g1 g2))⟩) ?_
            refine Wr.pure (v := Value.bool true) 30 rfl (by kernel_rfl) (.inr (fun _ h => st_take [0, 0, 0, 0, 0, 0, 0] h)) (.inl ⟨rfl, fun _ => q_pick (t := true) rfl rfl⟩) ?_
            refine Wr.pure (v := Value.bool true) 31 rfl (by kernel_rfl) (.inr (fun _ h => st_take [0, 0, 0, 0, 0, 0, 0] h)) (.inl ⟨rfl, fun _ => q_move rfl⟩) ?_
            refine Wr.pure (v := Value.pointer (some ⟨b26, 0, none⟩)) 32 rfl (by kernel_rfl) (.inr (fun _ h => st_take [0, 0, 0, 0, 0, 0, 0] h)) (.inl ⟨rfl, fun _ => q_field (m := 0) fo_33_0 rfl rfl⟩) ?_
            refine Wr.take (v := Value.int .i64 (((J1 f0 f1).2.1 : Nat) : Int)) 33 rfl (by kernel_rfl) (fun _ h => st_take [0, 0, 0, 0, 0, 0, 0] h) (.inl ⟨rfl, q_load sc_3 rfl (.cel (i := 2) rfl rfl)⟩) ?_
            refine Wr.pure (v := Value.pointer (some ⟨b27, 0, none⟩)) 34 rfl (by kernel_rfl) (.inr (fun _ h => st_take [0, 0, 0, 0, 0, 0, 0] h)) (.inl ⟨rfl, fun _ => q_field (m := 0) fo_33_0 rfl rfl⟩) ?_
            refine Wr.take (v := Value.int .i64 (((J2 f0 f1 f2 g0 g1).2.1 : Nat) : Int)) 35 rfl (by kernel_rfl) (fun _ h => st_take [0, 0, 0, 0, 0, 0, 0] h) (.inl ⟨rfl, q_load sc_3 rfl (.cel (i := 0) rfl rfl)⟩) ?_
            refine Wr.pure (v := Value.bool (decide ((((J1 f0 f1).2.1 : Nat) : Int) = (((J2 f0 f1 f2 g0 g1).2.1 : Nat) : Int)))) 36 rfl (by kernel_rfl) (.inr (fun _ h => st_take [0, 0, 0, 0, 0, 0, 0] h)) (.inl ⟨rfl, fun _ => q_eql rfl rfl rfl⟩) ?_
            refine Wr.pure (v := Value.pointer (some ⟨b1, 0, none⟩)) 37 rfl (by kernel_rfl) (.inr (fun _ h => st_take [0, 0, 0, 0, 0, 0, 0] h)) (.inl ⟨rfl, fun _ => q_idx_arr (m := 0) Tryd.underlying22 sz_4 hE2_23 rfl (by decide) (by decide) rfl⟩) ?_
            refine Wr.take (v := Value.bool f0) 38 rfl (by kernel_rfl) (fun _ h => st_take [0, 0, 0, 0, 0, 0, 0] h) (.inl ⟨rfl, q_load sc_4 rfl (.cel (i := 6) rfl rfl)⟩) ?_
            refine Wr.pure (v := Value.pointer (some ⟨b2, 0, none⟩)) 39 rfl (by kernel_rfl) (.inr (fun _ h => st_take [0, 0, 0, 0, 0, 0, 0] h)) (.inl ⟨rfl, fun _ => q_idx_arr (m := 0) Tryd.underlying22 sz_4 hE3_23 rfl (by decide) (by decide) rfl⟩) ?_
            refine Wr.take (v := Value.bool g0) 40 rfl (by kernel_rfl) (fun _ h => st_take [0, 0, 0, 0, 0, 0, 0] h) (.inl ⟨rfl, q_load sc_4 rfl (.cel (i := 5) rfl rfl)⟩) ?_
            by_cases hab : f0 = g0
            ·
              refine Wr.pure (v := Value.bool true) 41 rfl (by kernel_rfl) (.inr (fun _ h => st_take [0, 0, 0, 0, 0, 0, 0] h)) (.inl ⟨rfl, fun _ => q_eql_bool (r := true) rfl rfl Tryd.underlying4 (beq_iff_eq.2 hab)⟩) ?_
              refine Wr.pure (v := Value.bool true) 42 rfl (by kernel_rfl) (.inr (fun _ h => st_take [0, 0, 0, 0, 0, 0, 0] h)) (.inl ⟨rfl, fun _ => q_move rfl⟩) ?_
              refine Wr.pure (v := Value.pointer (some ⟨b1, 1, none⟩)) 43 rfl (by kernel_rfl) (.inr (fun _ h => st_take [0, 0, 0, 0, 0, 0, 0] h)) (.inl ⟨rfl, fun _ => q_idx_arr (m := 1) Tryd.underlying22 sz_4 hE2_23 rfl (by decide) (by decide) rfl⟩) ?_
              refine Wr.take (v := Value.bool f1) 44 rfl (by kernel_rfl) (fun _ h => st_take [0, 0, 0, 0, 0, 0, 0] h) (.inl ⟨rfl, q_load sc_4 rfl (.cel (i := 6) rfl rfl)⟩) ?_
              refine Wr.pure (v := Value.pointer (some ⟨b2, 1, none⟩)) 45 rfl (by kernel_rfl) (.inr (fun _ h => st_take [0, 0, 0, 0, 0, 0, 0] h)) (.inl ⟨rfl, fun _ => q_idx_arr (m := 1) Tryd.underlying22 sz_4 hE3_23 rfl (by decide) (by decide) rfl⟩) ?_
              refine Wr.take (v := Value.bool g1) 46 rfl (by kernel_rfl) (fun _ h => st_take [0, 0, 0, 0, 0, 0, 0] h) (.inl ⟨rfl, q_load sc_4 rfl (.cel (i := 5) rfl rfl)⟩) ?_
              refine Wr.pure (v := Value.bool (f1 == g1)) 47 rfl (by kernel_rfl) (.inr (fun _ h => st_take [0, 0, 0, 0, 0, 0, 0] h)) (.inl ⟨rfl, fun _ => q_eql_bool (r := (f1 == g1)) rfl rfl Tryd.underlying4 rfl⟩) ?_
              refine Wr.pure (v := Value.bool (f1 == g1)) 48 rfl (by kernel_rfl) (.inr (fun _ h => st_take [0, 0, 0, 0, 0, 0, 0] h)) (.inl ⟨rfl, fun _ => q_pick (t := true) rfl rfl⟩) ?_
              refine Wr.pure (v := Value.bool true) 49 rfl (by kernel_rfl) (.inr (fun _ h => st_take [0, 0, 0, 0, 0, 0, 0] h)) (.inl ⟨rfl, fun _ => q_eql_bool (r := true) rfl rfl Tryd.underlying4 (beq_iff_eq.2 ((by rw [unlike_j f0 f1 f2 g0 g1 g2]; simp [hab])))⟩) ?_
              refine Wr.pure (v := Value.bool true) 50 rfl (by kernel_rfl) (.inr (fun _ h => st_take [0, 0, 0, 0, 0, 0, 0] h)) (.inl ⟨rfl, fun _ => q_pick (t := true) rfl rfl⟩) ?_
              refine Wr.pure (v := Value.bool true) 51 rfl (by kernel_rfl) (.inr (fun _ h => st_take [0, 0, 0, 0, 0, 0, 0] h)) (.inl ⟨rfl, fun _ => q_move rfl⟩) ?_
              refine Wr.e 52 (by kernel_rfl) rfl (e_call (F := (pt b27 33 [Value.int .i64 (((J2 f0 f1 f2 g0 g1).2.1 : Nat) : Int), Value.int .i64 (((N2 f0 f1 f2 g0 g1 g2).e.2.1 : Nat) : Int), Value.int .i64 (((N2 f0 f1 f2 g0 g1 g2).a.2.1 : Nat) : Int), Value.int .i64 (((N2 f0 f1 f2 g0 g1 g2).b.2.1 : Nat) : Int), Value.int .i64 (((N2 f0 f1 f2 g0 g1 g2).c.2.1 : Nat) : Int), Value.int .i64 (((N2 f0 f1 f2 g0 g1 g2).d.2.1 : Nat) : Int)]) :: (storeW b4 (N2 f0 f1 f2 g0 g1 g2).d.1) :: (pt b26 33 [Value.int .i64 (((J1 f0 f1).2.1 : Nat) : Int), Value.int .i64 (((N1 f0 f1 f2).e.2.1 : Nat) : Int), Value.int .i64 (((N1 f0 f1 f2).a.2.1 : Nat) : Int), Value.int .i64 (((N1 f0 f1 f2).b.2.1 : Nat) : Int), Value.int .i64 (((N1 f0 f1 f2).c.2.1 : Nat) : Int), Value.int .i64 (((N1 f0 f1 f2).d.2.1 : Nat) : Int)]) :: (pt b7 3 [Value.int .i64 (pk g0 0), Value.int .i64 (pk g1 1), Value.int .i64 (pk g2 2)]) :: (pt b6 3 [Value.int .i64 (pk f0 0), Value.int .i64 (pk f1 1), Value.int .i64 (pk f2 2)]) :: (pt b2 22 [Value.bool g0, Value.bool g1, Value.bool g2]) :: (pt b1 22 [Value.bool f0, Value.bool f1, Value.bool f2]) :: F) (args := []) Tryd.call7 rfl (au1_lives W0)) (.inl (by kernel_rfl)) (fun _ _ => ?_)
              refine Wr.imp (L' := (pt b27 33 [Value.int .i64 (((J2 f0 f1 f2 g0 g1).2.1 : Nat) : Int), Value.int .i64 (((N2 f0 f1 f2 g0 g1 g2).e.2.1 : Nat) : Int), Value.int .i64 (((N2 f0 f1 f2 g0 g1 g2).a.2.1 : Nat) : Int), Value.int .i64 (((N2 f0 f1 f2 g0 g1 g2).b.2.1 : Nat) : Int), Value.int .i64 (((N2 f0 f1 f2 g0 g1 g2).c.2.1 : Nat) : Int), Value.int .i64 (((N2 f0 f1 f2 g0 g1 g2).d.2.1 : Nat) : Int)]) :: (storeW b4 (N2 f0 f1 f2 g0 g1 g2).d.1) :: (pt b26 33 [Value.int .i64 (((J1 f0 f1).2.1 : Nat) : Int), Value.int .i64 (((N1 f0 f1 f2).e.2.1 : Nat) : Int), Value.int .i64 (((N1 f0 f1 f2).a.2.1 : Nat) : Int), Value.int .i64 (((N1 f0 f1 f2).b.2.1 : Nat) : Int), Value.int .i64 (((N1 f0 f1 f2).c.2.1 : Nat) : Int), Value.int .i64 (((N1 f0 f1 f2).d.2.1 : Nat) : Int)]) :: (pt b7 3 [Value.int .i64 (pk g0 0), Value.int .i64 (pk g1 1), Value.int .i64 (pk g2 2)]) :: (pt b6 3 [Value.int .i64 (pk f0 0), Value.int .i64 (pk f1 1), Value.int .i64 (pk f2 2)]) :: (pt b2 22 [Value.bool g0, Value.bool g1, Value.bool g2]) :: (pt b1 22 [Value.bool f0, Value.bool f1, Value.bool f2]) :: F) (fun _ h => h) ?_
              refine Wr.rebaseS [] ((pt b27 33 [Value.int .i64 (((J2 f0 f1 f2 g0 g1).2.1 : Nat) : Int), Value.int .i64 (((N2 f0 f1 f2 g0 g1 g2).e.2.1 : Nat) : Int), Value.int .i64 (((N2 f0 f1 f2 g0 g1 g2).a.2.1 : Nat) : Int), Value.int .i64 (((N2 f0 f1 f2 g0 g1 g2).b.2.1 : Nat) : Int), Value.int .i64 (((N2 f0 f1 f2 g0 g1 g2).c.2.1 : Nat) : Int), Value.int .i64 (((N2 f0 f1 f2 g0 g1 g2).d.2.1 : Nat) : Int)]) :: (storeW b4 (N2 f0 f1 f2 g0 g1 g2).d.1) :: (pt b26 33 [Value.int .i64 (((J1 f0 f1).2.1 : Nat) : Int), Value.int .i64 (((N1 f0 f1 f2).e.2.1 : Nat) : Int), Value.int .i64 (((N1 f0 f1 f2).a.2.1 : Nat) : Int), Value.int .i64 (((N1 f0 f1 f2).b.2.1 : Nat) : Int), Value.int .i64 (((N1 f0 f1 f2).c.2.1 : Nat) : Int), Value.int .i64 (((N1 f0 f1 f2).d.2.1 : Nat) : Int)]) :: (pt b7 3 [Value.int .i64 (pk g0 0), Value.int .i64 (pk g1 1), Value.int .i64 (pk g2 2)]) :: (pt b6 3 [Value.int .i64 (pk f0 0), Value.int .i64 (pk f1 1), Value.int .i64 (pk f2 2)]) :: (pt b2 22 [Value.bool g0, Value.bool g1, Value.bool g2]) :: (pt b1 22 [Value.bool f0, Value.bool f1, Value.bool f2]) :: []) (by kernel_rfl) ?_
              refine Wr.pure (v := Value.bool true) 53 rfl (by kernel_rfl) (.inr (fun _ h => st_take [0, 0, 0, 0, 0, 0, 0] h)) (.inl ⟨rfl, fun _ => q_pick (t := true) rfl rfl⟩) ?_
              refine Wr.pure (v := Value.bool true) 54 rfl (by kernel_rfl) (.inr (fun _ h => st_take [0, 0, 0, 0, 0, 0, 0] h)) (.inl ⟨rfl, fun _ => q_assign rfl⟩) ?_
              refine Wr.done (by kernel_rfl) ?_
              refine Wx.go ?_
              refine Wc.ret ?_
              refine Wx.fin1 rfl (.inl rfl) (fun w hs => ?_)
              have hs : st W0 w (F) := (st_drop (st_drop (st_drop (st_drop (st_drop (st_drop (st_drop (st_pull [0, 0, 0, 0, 0, 0, 0] hs))))))))
              exact ⟨(), trivial, rfl, hs⟩
            ·
              refine Wr.pure (v := Value.bool false) 41 rfl (by kernel_rfl) (.inr (fun _ h => st_take [0, 0, 0, 0, 0, 0, 0] h)) (.inl ⟨rfl, fun _ => q_eql_bool (r := false) rfl rfl Tryd.underlying4 (beq_eq_false_iff_ne.2 hab)⟩) ?_
              refine Wr.pure (v := Value.bool false) 42 rfl (by kernel_rfl) (.inr (fun _ h => st_take [0, 0, 0, 0, 0, 0, 0] h)) (.inl ⟨rfl, fun _ => q_move rfl⟩) ?_
              refine Wr.pure (v := undef) 43 rfl (by kernel_rfl) (.inr (fun _ h => st_take [0, 0, 0, 0, 0, 0, 0] h)) (.inr ⟨rfl, rfl⟩) ?_
              refine Wr.pure (v := undef) 44 rfl (by kernel_rfl) (.inr (fun _ h => st_take [0, 0, 0, 0, 0, 0, 0] h)) (.inr ⟨rfl, rfl⟩) ?_
              refine Wr.pure (v := undef) 45 rfl (by kernel_rfl) (.inr (fun _ h => st_take [0, 0, 0, 0, 0, 0, 0] h)) (.inr ⟨rfl, rfl⟩) ?_
              refine Wr.pure (v := undef) 46 rfl (by kernel_rfl) (.inr (fun _ h => st_take [0, 0, 0, 0, 0, 0, 0] h)) (.inr ⟨rfl, rfl⟩) ?_
              refine Wr.pure (v := undef) 47 rfl (by kernel_rfl) (.inr (fun _ h => st_take [0, 0, 0, 0, 0, 0, 0] h)) (.inr ⟨rfl, rfl⟩) ?_
              refine Wr.pure (v := Value.bool false) 48 rfl (by kernel_rfl) (.inr (fun _ h => st_take [0, 0, 0, 0, 0, 0, 0] h)) (.inl ⟨rfl, fun _ => q_pick (t := false) rfl rfl⟩) ?_
              refine Wr.pure (v := Value.bool true) 49 rfl (by kernel_rfl) (.inr (fun _ h => st_take [0, 0, 0, 0, 0, 0, 0] h)) (.inl ⟨rfl, fun _ => q_eql_bool (r := true) rfl rfl Tryd.underlying4 (beq_iff_eq.2 ((by rw [unlike_j f0 f1 f2 g0 g1 g2]; simp [hab])))⟩) ?_
              refine Wr.pure (v := Value.bool true) 50 rfl (by kernel_rfl) (.inr (fun _ h => st_take [0, 0, 0, 0, 0, 0, 0] h)) (.inl ⟨rfl, fun _ => q_pick (t := true) rfl rfl⟩) ?_
              refine Wr.pure (v := Value.bool true) 51 rfl (by kernel_rfl) (.inr (fun _ h => st_take [0, 0, 0, 0, 0, 0, 0] h)) (.inl ⟨rfl, fun _ => q_move rfl⟩) ?_
              refine Wr.e 52 (by kernel_rfl) rfl (e_call (F := (pt b27 33 [Value.int .i64 (((J2 f0 f1 f2 g0 g1).2.1 : Nat) : Int), Value.int .i64 (((N2 f0 f1 f2 g0 g1 g2).e.2.1 : Nat) : Int), Value.int .i64 (((N2 f0 f1 f2 g0 g1 g2).a.2.1 : Nat) : Int), Value.int .i64 (((N2 f0 f1 f2 g0 g1 g2).b.2.1 : Nat) : Int), Value.int .i64 (((N2 f0 f1 f2 g0 g1 g2).c.2.1 : Nat) : Int), Value.int .i64 (((N2 f0 f1 f2 g0 g1 g2).d.2.1 : Nat) : Int)]) :: (storeW b4 (N2 f0 f1 f2 g0 g1 g2).d.1) :: (pt b26 33 [Value.int .i64 (((J1 f0 f1).2.1 : Nat) : Int), Value.int .i64 (((N1 f0 f1 f2).e.2.1 : Nat) : Int), Value.int .i64 (((N1 f0 f1 f2).a.2.1 : Nat) : Int), Value.int .i64 (((N1 f0 f1 f2).b.2.1 : Nat) : Int), Value.int .i64 (((N1 f0 f1 f2).c.2.1 : Nat) : Int), Value.int .i64 (((N1 f0 f1 f2).d.2.1 : Nat) : Int)]) :: (pt b7 3 [Value.int .i64 (pk g0 0), Value.int .i64 (pk g1 1), Value.int .i64 (pk g2 2)]) :: (pt b6 3 [Value.int .i64 (pk f0 0), Value.int .i64 (pk f1 1), Value.int .i64 (pk f2 2)]) :: (pt b2 22 [Value.bool g0, Value.bool g1, Value.bool g2]) :: (pt b1 22 [Value.bool f0, Value.bool f1, Value.bool f2]) :: F) (args := []) Tryd.call7 rfl (au1_lives W0)) (.inl (by kernel_rfl)) (fun _ _ => ?_)
              refine Wr.imp (L' := (pt b27 33 [Value.int .i64 (((J2 f0 f1 f2 g0 g1).2.1 : Nat) : Int), Value.int .i64 (((N2 f0 f1 f2 g0 g1 g2).e.2.1 : Nat) : Int), Value.int .i64 (((N2 f0 f1 f2 g0 g1 g2).a.2.1 : Nat) : Int), Value.int .i64 (((N2 f0 f1 f2 g0 g1 g2).b.2.1 : Nat) : Int), Value.int .i64 (((N2 f0 f1 f2 g0 g1 g2).c.2.1 : Nat) : Int), Value.int .i64 (((N2 f0 f1 f2 g0 g1 g2).d.2.1 : Nat) : Int)]) :: (storeW b4 (N2 f0 f1 f2 g0 g1 g2).d.1) :: (pt b26 33 [Value.int .i64 (((J1 f0 f1).2.1 : Nat) : Int), Value.int .i64 (((N1 f0 f1 f2).e.2.1 : Nat) : Int), Value.int .i64 (((N1 f0 f1 f2).a.2.1 : Nat) : Int), Value.int .i64 (((N1 f0 f1 f2).b.2.1 : Nat) : Int), Value.int .i64 (((N1 f0 f1 f2).c.2.1 : Nat) : Int), Value.int .i64 (((N1 f0 f1 f2).d.2.1 : Nat) : Int)]) :: (pt b7 3 [Value.int .i64 (pk g0 0), Value.int .i64 (pk g1 1), Value.int .i64 (pk g2 2)]) :: (pt b6 3 [Value.int .i64 (pk f0 0), Value.int .i64 (pk f1 1), Value.int .i64 (pk f2 2)]) :: (pt b2 22 [Value.bool g0, Value.bool g1, Value.bool g2]) :: (pt b1 22 [Value.bool f0, Value.bool f1, Value.bool f2]) :: F) (fun _ h => h) ?_
              refine Wr.rebaseS [] ((pt b27 33 [Value.int .i64 (((J2 f0 f1 f2 g0 g1).2.1 : Nat) : Int), Value.int .i64 (((N2 f0 f1 f2 g0 g1 g2).e.2.1 : Nat) : Int), Value.int .i64 (((N2 f0 f1 f2 g0 g1 g2).a.2.1 : Nat) : Int), Value.int .i64 (((N2 f0 f1 f2 g0 g1 g2).b.2.1 : Nat) : Int), Value.int .i64 (((N2 f0 f1 f2 g0 g1 g2).c.2.1 : Nat) : Int), Value.int .i64 (((N2 f0 f1 f2 g0 g1 g2).d.2.1 : Nat) : Int)]) :: (storeW b4 (N2 f0 f1 f2 g0 g1 g2).d.1) :: (pt b26 33 [Value.int .i64 (((J1 f0 f1).2.1 : Nat) : Int), Value.int .i64 (((N1 f0 f1 f2).e.2.1 : Nat) : Int), Value.int .i64 (((N1 f0 f1 f2).a.2.1 : Nat) : Int), Value.int .i64 (((N1 f0 f1 f2).b.2.1 : Nat) : Int), Value.int .i64 (((N1 f0 f1 f2).c.2.1 : Nat) : Int), Value.int .i64 (((N1 f0 f1 f2).d.2.1 : Nat) : Int)]) :: (pt b7 3 [Value.int .i64 (pk g0 0), Value.int .i64 (pk g1 1), Value.int .i64 (pk g2 2)]) :: (pt b6 3 [Value.int .i64 (pk f0 0), Value.int .i64 (pk f1 1), Value.int .i64 (pk f2 2)]) :: (pt b2 22 [Value.bool g0, Value.bool g1, Value.bool g2]) :: (pt b1 22 [Value.bool f0, Value.bool f1, Value.bool f2]) :: []) (by kernel_rfl) ?_
              refine Wr.pure (v := Value.bool true) 53 rfl (by kernel_rfl) (.inr (fun _ h => st_take [0, 0, 0, 0, 0, 0, 0] h)) (.inl ⟨rfl, fun _ => q_pick (t := true) rfl rfl⟩) ?_
              refine Wr.pure (v := Value.bool true) 54 rfl (by kernel_rfl) (.inr (fun _ h => st_take [0, 0, 0, 0, 0, 0, 0] h)) (.inl ⟨rfl, fun _ => q_assign rfl⟩) ?_
              refine Wr.done (by kernel_rfl) ?_
              refine Wx.go ?_
              refine Wc.ret ?_
              refine Wx.fin1 rfl (.inl rfl) (fun w hs => ?_)
              have hs : st W0 w (F) := (st_drop (st_drop (st_drop (st_drop (st_drop (st_drop (st_drop (st_pull [0, 0, 0, 0, 0, 0, 0] hs))))))))
              exact ⟨(), trivial, rfl, hs⟩
          ·
            refine Wo.e 14 rfl (e_alloc (vs := [Value.int .i64 0, Value.int .i64 0, Value.int .i64 0, Value.int .i64 0, Value.int .i64 0, Value.int .i64 0]) zo_33 rfl) (.inr fun _ _ _ h => st_take [1, 1, 1, 1, 1, 1] h) (fun b28 _ => ?_)
            refine Wr.more (S' := (pt b28 33 [Value.int .i64 0, Value.int .i64 0, Value.int .i64 0, Value.int .i64 0, Value.int .i64 0, Value.int .i64 0]) :: (pt b26 33 [Value.int .i64 (((J1 f0 f1).2.1 : Nat) : Int), Value.int .i64 (((N1 f0 f1 f2).e.2.1 : Nat) : Int), Value.int .i64 (((N1 f0 f1 f2).a.2.1 : Nat) : Int), Value.int .i64 (((N1 f0 f1 f2).b.2.1 : Nat) : Int), Value.int .i64 (((N1 f0 f1 f2).c.2.1 : Nat) : Int), Value.int .i64 (((N1 f0 f1 f2).d.2.1 : Nat) : Int)]) :: (storeW b4 (N1 f0 f1 f2).d.1) :: (pt b7 3 [Value.int .i64 (pk g0 0), Value.int .i64 (pk g1 1), Value.int .i64 (pk g2 2)]) :: (pt b6 3 [Value.int .i64 (pk f0 0), Value.int .i64 (pk f1 1), Value.int .i64 (pk f2 2)]) :: (pt b2 22 [Value.bool g0, Value.bool g1, Value.bool g2]) :: (pt b1 22 [Value.bool f0, Value.bool f1, Value.bool f2]) :: []) (fun _ h => st_drop h) ?_
            refine Wr.imp (L' := (storeW b4 (N1 f0 f1 f2).d.1) :: (pt b28 33 [Value.int .i64 0, Value.int .i64 0, Value.int .i64 0, Value.int .i64 0, Value.int .i64 0, Value.int .i64 0]) :: (pt b26 33 [Value.int .i64 (((J1 f0 f1).2.1 : Nat) : Int), Value.int .i64 (((N1 f0 f1 f2).e.2.1 : Nat) : Int), Value.int .i64 (((N1 f0 f1 f2).a.2.1 : Nat) : Int), Value.int .i64 (((N1 f0 f1 f2).b.2.1 : Nat) : Int), Value.int .i64 (((N1 f0 f1 f2).c.2.1 : Nat) : Int), Value.int .i64 (((N1 f0 f1 f2).d.2.1 : Nat) : Int)]) :: (pt b7 3 [Value.int .i64 (pk g0 0), Value.int .i64 (pk g1 1), Value.int .i64 (pk g2 2)]) :: (pt b6 3 [Value.int .i64 (pk f0 0), Value.int .i64 (pk f1 1), Value.int .i64 (pk f2 2)]) :: (pt b2 22 [Value.bool g0, Value.bool g1, Value.bool g2]) :: (pt b1 22 [Value.bool f0, Value.bool f1, Value.bool f2]) :: F) (fun _ h => st_pull [2] h) ?_
            refine Wr.e 10 (by kernel_rfl) rfl (e_call (F := (pt b28 33 [Value.int .i64 0, Value.int .i64 0, Value.int .i64 0, Value.int .i64 0, Value.int .i64 0, Value.int .i64 0]) :: (pt b26 33 [Value.int .i64 (((J1 f0 f1).2.1 : Nat) : Int), Value.int .i64 (((N1 f0 f1 f2).e.2.1 : Nat) : Int), Value.int .i64 (((N1 f0 f1 f2).a.2.1 : Nat) : Int), Value.int .i64 (((N1 f0 f1 f2).b.2.1 : Nat) : Int), Value.int .i64 (((N1 f0 f1 f2).c.2.1 : Nat) : Int), Value.int .i64 (((N1 f0 f1 f2).d.2.1 : Nat) : Int)]) :: (pt b7 3 [Value.int .i64 (pk g0 0), Value.int .i64 (pk g1 1), Value.int .i64 (pk g2 2)]) :: (pt b6 3 [Value.int .i64 (pk f0 0), Value.int .i64 (pk f1 1), Value.int .i64 (pk f2 2)]) :: (pt b2 22 [Value.bool g0, Value.bool g1, Value.bool g2]) :: (pt b1 22 [Value.bool f0, Value.bool f1, Value.bool f2]) :: F) (args := [Value.pointer (some ⟨b4, 0, none⟩), Value.int .i64 (pk g0 0), Value.int .i64 (pk g1 1), Value.int .i64 (pk g2 2)]) Tryd.call6 rfl (Con.eqs (val' := fun _ => .tuple #[Value.agg #[Value.int .i64 (((J2 f0 f1 f2 g0 g1).2.1 : Nat) : Int), Value.int .i64 (((N2 f0 f1 f2 g0 g1 g2).e.2.1 : Nat) : Int), Value.int .i64 (((N2 f0 f1 f2 g0 g1 g2).a.2.1 : Nat) : Int), Value.int .i64 (((N2 f0 f1 f2 g0 g1 g2).b.2.1 : Nat) : Int), Value.int .i64 (((N2 f0 f1 f2 g0 g1 g2).c.2.1 : Nat) : Int), Value.int .i64 (((N2 f0 f1 f2 g0 g1 g2).d.2.1 : Nat) : Int)], .int .i64 0]) (post' := fun _ => [storeW b4 (N2 f0 f1 f2 g0 g1 g2).d.1]) (next_c W0 b4 (N1 f0 f1 f2).d.1 (pk g0 0) (pk g1 1) (pk g2 2) ⟨(pk_rng g0 0 (by omega)).1, (by have := (pk_rng g0 0 (by omega)).2; have := unlike_len f0 f1 f2; omega)⟩ ⟨(pk_rng g1 1 (by omega)).1, (by have := (pk_rng g1 1 (by omega)).2; have := unlike_len f0 f1 f2; omega)⟩ ⟨(pk_rng g2 2 (by omega)).1, (by have := (pk_rng g2 2 (by omega)).2; have := unlike_len f0 f1 f2; omega)⟩ (by have := unlike_len f0 f1 f2; omega)) (fun _ => by unfold N2 J2; rfl) (fun _ => by unfold N2; rfl))) (.inl (by kernel_rfl)) (fun _ _ => ?_)
            refine Wr.imp (L' := (storeW b4 (N2 f0 f1 f2 g0 g1 g2).d.1) :: (pt b28 33 [Value.int .i64 0, Value.int .i64 0, Value.int .i64 0, Value.int .i64 0, Value.int .i64 0, Value.int .i64 0]) :: (pt b26 33 [Value.int .i64 (((J1 f0 f1).2.1 : Nat) : Int), Value.int .i64 (((N1 f0 f1 f2).e.2.1 : Nat) : Int), Value.int .i64 (((N1 f0 f1 f2).a.2.1 : Nat) : Int), Value.int .i64 (((N1 f0 f1 f2).b.2.1 : Nat) : Int), Value.int .i64 (((N1 f0 f1 f2).c.2.1 : Nat) : Int), Value.int .i64 (((N1 f0 f1 f2).d.2.1 : Nat) : Int)]) :: (pt b7 3 [Value.int .i64 (pk g0 0), Value.int .i64 (pk g1 1), Value.int .i64 (pk g2 2)]) :: (pt b6 3 [Value.int .i64 (pk f0 0), Value.int .i64 (pk f1 1), Value.int .i64 (pk f2 2)]) :: (pt b2 22 [Value.bool g0, Value.bool g1, Value.bool g2]) :: (pt b1 22 [Value.bool f0, Value.bool f1, Value.bool f2]) :: F) (fun _ h => h) ?_
            refine Wr.rebaseS [15] ((storeW b4 (N2 f0 f1 f2 g0 g1 g2).d.1) :: (pt b28 33 [Value.int .i64 0, Value.int .i64 0, Value.int .i64 0, Value.int .i64 0, Value.int .i64 0, Value.int .i64 0]) :: (pt b26 33 [Value.int .i64 (((J1 f0 f1).2.1 : Nat) : Int), Value.int .i64 (((N1 f0 f1 f2).e.2.1 : Nat) : Int), Value.int .i64 (((N1 f0 f1 f2).a.2.1 : Nat) : Int), Value.int .i64 (((N1 f0 f1 f2).b.2.1 : Nat) : Int), Value.int .i64 (((N1 f0 f1 f2).c.2.1 : Nat) : Int), Value.int .i64 (((N1 f0 f1 f2).d.2.1 : Nat) : Int)]) :: (pt b7 3 [Value.int .i64 (pk g0 0), Value.int .i64 (pk g1 1), Value.int .i64 (pk g2 2)]) :: (pt b6 3 [Value.int .i64 (pk f0 0), Value.int .i64 (pk f1 1), Value.int .i64 (pk f2 2)]) :: (pt b2 22 [Value.bool g0, Value.bool g1, Value.bool g2]) :: (pt b1 22 [Value.bool f0, Value.bool f1, Value.bool f2]) :: []) (by kernel_rfl) ?_
            refine Wr.pure (v := Value.tuple #[Value.agg #[Value.int .i64 (((J2 f0 f1 f2 g0 g1).2.1 : Nat) : Int), Value.int .i64 (((N2 f0 f1 f2 g0 g1 g2).e.2.1 : Nat) : Int), Value.int .i64 (((N2 f0 f1 f2 g0 g1 g2).a.2.1 : Nat) : Int), Value.int .i64 (((N2 f0 f1 f2 g0 g1 g2).b.2.1 : Nat) : Int), Value.int .i64 (((N2 f0 f1 f2 g0 g1 g2).c.2.1 : Nat) : Int), Value.int .i64 (((N2 f0 f1 f2 g0 g1 g2).d.2.1 : Nat) : Int)], Value.int .i64 0]) 11 rfl (by kernel_rfl) (.inr (fun _ h => st_take [0, 0, 0, 0, 0, 0, 0] h)) (.inl ⟨rfl, fun _ => q_move rfl⟩) ?_
            refine Wr.pure (v := Value.agg #[Value.int .i64 (((J2 f0 f1 f2 g0 g1).2.1 : Nat) : Int), Value.int .i64 (((N2 f0 f1 f2 g0 g1 g2).e.2.1 : Nat) : Int), Value.int .i64 (((N2 f0 f1 f2 g0 g1 g2).a.2.1 : Nat) : Int), Value.int .i64 (((N2 f0 f1 f2 g0 g1 g2).b.2.1 : Nat) : Int), Value.int .i64 (((N2 f0 f1 f2 g0 g1 g2).c.2.1 : Nat) : Int), Value.int .i64 (((N2 f0 f1 f2 g0 g1 g2).d.2.1 : Nat) : Int)]) 12 rfl (by kernel_rfl) (.inr (fun _ h => st_take [0, 0, 0, 0, 0, 0, 0] h)) (.inl ⟨rfl, fun _ => q_extract (i := 0) rfl rfl⟩) ?_
            refine Wr.pure (v := Value.int .i64 0) 13 rfl (by kernel_rfl) (.inr (fun _ h => st_take [0, 0, 0, 0, 0, 0, 0] h)) (.inl ⟨rfl, fun _ => q_extract (i := 1) rfl rfl⟩) ?_
            refine Wr.e 15 (by kernel_rfl) rfl (e_storeAgg (i := 1) (vs := [Value.int .i64 (((J2 f0 f1 f2 g0 g1).2.1 : Nat) : Int), Value.int .i64 (((N2 f0 f1 f2 g0 g1 g2).e.2.1 : Nat) : Int), Value.int .i64 (((N2 f0 f1 f2 g0 g1 g2).a.2.1 : Nat) : Int), Value.int .i64 (((N2 f0 f1 f2 g0 g1 g2).b.2.1 : Nat) : Int), Value.int .i64 (((N2 f0 f1 f2 g0 g1 g2).c.2.1 : Nat) : Int), Value.int .i64 (((N2 f0 f1 f2 g0 g1 g2).d.2.1 : Nat) : Int)]) (c' := [Value.int .i64 (((J2 f0 f1 f2 g0 g1).2.1 : Nat) : Int), Value.int .i64 (((N2 f0 f1 f2 g0 g1 g2).e.2.1 : Nat) : Int), Value.int .i64 (((N2 f0 f1 f2 g0 g1 g2).a.2.1 : Nat) : Int), Value.int .i64 (((N2 f0 f1 f2 g0 g1 g2).b.2.1 : Nat) : Int), Value.int .i64 (((N2 f0 f1 f2 g0 g1 g2).c.2.1 : Nat) : Int), Value.int .i64 (((N2 f0 f1 f2 g0 g1 g2).d.2.1 : Nat) : Int)]) sz_33 rfl rfl rfl rfl (by simp) rfl) (.inl (by kernel_rfl)) (fun _ _ => ?_)
            refine Wr.imp (L' := (storeW b4 (N2 f0 f1 f2 g0 g1 g2).d.1) :: (pt b28 33 [Value.int .i64 (((J2 f0 f1 f2 g0 g1).2.1 : Nat) : Int), Value.int .i64 (((N2 f0 f1 f2 g0 g1 g2).e.2.1 : Nat) : Int), Value.int .i64 (((N2 f0 f1 f2 g0 g1 g2).a.2.1 : Nat) : Int), Value.int .i64 (((N2 f0 f1 f2 g0 g1 g2).b.2.1 : Nat) : Int), Value.int .i64 (((N2 f0 f1 f2 g0 g1 g2).c.2.1 : Nat) : Int), Value.int .i64 (((N2 f0 f1 f2 g0 g1 g2).d.2.1 : Nat) : Int)]) :: (pt b26 33 [Value.int .i64 (((J1 f0 f1).2.1 : Nat) : Int), Value.int .i64 (((N1 f0 f1 f2).e.2.1 : Nat) : Int), Value.int .i64 (((N1 f0 f1 f2).a.2.1 : Nat) : Int), Value.int .i64 (((N1 f0 f1 f2).b.2.1 : Nat) : Int), Value.int .i64 (((N1 f0 f1 f2).c.2.1 : Nat) : Int), Value.int .i64 (((N1 f0 f1 f2).d.2.1 : Nat) : Int)]) :: (pt b7 3 [Value.int .i64 (pk g0 0), Value.int .i64 (pk g1 1), Value.int .i64 (pk g2 2)]) :: (pt b6 3 [Value.int .i64 (pk f0 0), Value.int .i64 (pk f1 1), Value.int .i64 (pk f2 2)]) :: (pt b2 22 [Value.bool g0, Value.bool g1, Value.bool g2]) :: (pt b1 22 [Value.bool f0, Value.bool f1, Value.bool f2]) :: F) (fun _ h => h) ?_
            refine Wr.rebaseS [] ((storeW b4 (N2 f0 f1 f2 g0 g1 g2).d.1) :: (pt b28 33 [Value.int .i64 (((J2 f0 f1 f2 g0 g1).2.1 : Nat) : Int), Value.int .i64 (((N2 f0 f1 f2 g0 g1 g2).e.2.1 : Nat) : Int), Value.int .i64 (((N2 f0 f1 f2 g0 g1 g2).a.2.1 : Nat) : Int), Value.int .i64 (((N2 f0 f1 f2 g0 g1 g2).b.2.1 : Nat) : Int), Value.int .i64 (((N2 f0 f1 f2 g0 g1 g2).c.2.1 : Nat) : Int), Value.int .i64 (((N2 f0 f1 f2 g0 g1 g2).d.2.1 : Nat) : Int)]) :: (pt b26 33 [Value.int .i64 (((J1 f0 f1).2.1 : Nat) : Int), Value.int .i64 (((N1 f0 f1 f2).e.2.1 : Nat) : Int), Value.int .i64 (((N1 f0 f1 f2).a.2.1 : Nat) : Int), Value.int .i64 (((N1 f0 f1 f2).b.2.1 : Nat) : Int), Value.int .i64 (((N1 f0 f1 f2).c.2.1 : Nat) : Int), Value.int .i64 (((N1 f0 f1 f2).d.2.1 : Nat) : Int)]) :: (pt b7 3 [Value.int .i64 (pk g0 0), Value.int .i64 (pk g1 1), Value.int .i64 (pk g2 2)]) :: (pt b6 3 [Value.int .i64 (pk f0 0), Value.int .i64 (pk f1 1), Value.int .i64 (pk f2 2)]) :: (pt b2 22 [Value.bool g0, Value.bool g1, Value.bool g2]) :: (pt b1 22 [Value.bool f0, Value.bool f1, Value.bool f2]) :: []) (by kernel_rfl) ?_
            refine Wr.pure (v := Value.int .i64 0) 16 rfl (by kernel_rfl) (.inr (fun _ h => st_take [0, 0, 0, 0, 0, 0, 0] h)) (.inl ⟨rfl, fun _ => q_assign rfl⟩) ?_
            refine Wr.done (by kernel_rfl) ?_
            refine Wx.go ?_
            refine Wc.seq ?_
            refine Wc.seq ?_
            refine Wc.region ?_
            refine Wl.q (v := Value.int .i64 0) (q_move rfl) ?_
            refine Wl.q (v := Value.bool false) (q_neq (r := true) rfl rfl (decide_eq_true (by decide))) ?_
            refine Wl.q (v := Value.bool false) (q_move rfl) ?_
            refine Wl.q (v := Value.int .i64 0) (q_move rfl) ?_
            refine Wl.q (v := Value.bool false) (q_neq (r := true) rfl rfl (decide_eq_true (by decide))) ?_
            refine Wl.q (v := Value.bool false) (q_pick (t := false) rfl rfl) ?_
            refine Wl.done ?_
            refine Wx.go ?_
            refine Wc.no rfl ?_
            refine Wc.skip ?_
            refine Wx.go ?_
            refine Wc.seq ?_
            refine Wc.drawsS [52] ((storeW b4 (N2 f0 f1 f2 g0 g1 g2).d.1) :: (pt b28 33 [Value.int .i64 (((J2 f0 f1 f2 g0 g1).2.1 : Nat) : Int), Value.int .i64 (((N2 f0 f1 f2 g0 g1 g2).e.2.1 : Nat) : Int), Value.int .i64 (((N2 f0 f1 f2 g0 g1 g2).a.2.1 : Nat) : Int), Value.int .i64 (((N2 f0 f1 f2 g0 g1 g2).b.2.1 : Nat) : Int), Value.int .i64 (((N2 f0 f1 f2 g0 g1 g2).c.2.1 : Nat) : Int), Value.int .i64 (((N2 f0 f1 f2 g0 g1 g2).d.2.1 : Nat) : Int)]) :: (pt b26 33 [Value.int .i64 (((J1 f0 f1).2.1 : Nat) : Int), Value.int .i64 (((N1 f0 f1 f2).e.2.1 : Nat) : Int), Value.int .i64 (((N1 f0 f1 f2).a.2.1 : Nat) : Int), Value.int .i64 (((N1 f0 f1 f2).b.2.1 : Nat) : Int), Value.int .i64 (((N1 f0 f1 f2).c.2.1 : Nat) : Int), Value.int .i64 (((N1 f0 f1 f2).d.2.1 : Nat) : Int)]) :: (pt b7 3 [Value.int .i64 (pk g0 0), Value.int .i64 (pk g1 1), Value.int .i64 (pk g2 2)]) :: (pt b6 3 [Value.int .i64 (pk f0 0), Value.int .i64 (pk f1 1), Value.int .i64 (pk f2 2)]) :: (pt b2 22 [Value.bool g0, Value.bool g1, Value.bool g2]) :: (pt b1 22 [Value.bool f0, Value.bool f1, Value.bool f2]) :: []) (by kernel_rfl) ?_
            refine Wr.pure (v := Value.pointer (some ⟨b26, 1, none⟩)) 0 rfl (by kernel_rfl) (.inr (fun _ h => st_take [0, 0, 0, 0, 0, 0, 0] h)) (.inl ⟨rfl, fun _ => q_field (m := 1) fo_33_1 rfl rfl⟩) ?_
            refine Wr.take (v := Value.int .i64 (((N1 f0 f1 f2).e.2.1 : Nat) : Int)) 1 rfl (by kernel_rfl) (fun _ h => st_take [0, 0, 0, 0, 0, 0, 0] h) (.inl ⟨rfl, q_load sc_3 rfl (.cel (i := 2) rfl rfl)⟩) ?_
            refine Wr.pure (v := Value.pointer (some ⟨b28, 1, none⟩)) 2 rfl (by kernel_rfl) (.inr (fun _ h => st_take [0, 0, 0, 0, 0, 0, 0] h)) (.inl ⟨rfl, fun _ => q_field (m := 1) fo_33_1 rfl rfl⟩) ?_
            refine Wr.take (v := Value.int .i64 (((N2 f0 f1 f2 g0 g1 g2).e.2.1 : Nat) : Int)) 3 rfl (by kernel_rfl) (fun _ h => st_take [0, 0, 0, 0, 0, 0, 0] h) (.inl ⟨rfl, q_load sc_3 rfl (.cel (i := 1) rfl rfl)⟩) ?_
            refine Wr.pure (v := Value.bool (decide ((((N1 f0 f1 f2).e.2.1 : Nat) : Int) = (((N2 f0 f1 f2 g0 g1 g2).e.2.1 : Nat) : Int)))) 4 rfl (by kernel_rfl) (.inr (fun _ h => st_take [0, 0, 0, 0, 0, 0, 0] h)) (.inl ⟨rfl, fun _ => q_eql rfl rfl rfl⟩) ?_
            refine Wr.take (v := Value.agg #[Value.bool f0, Value.bool f1, Value.bool f2]) 5 rfl (by kernel_rfl) (fun _ h => st_take [0, 0, 0, 0, 0, 0, 0] h) (.inl ⟨rfl, q_loadAgg (vs := [Value.bool f0, Value.bool f1, Value.bool f2]) ag_22 hE2_23 (Has.of_pt (i := 6) rfl rfl)⟩) ?_
            refine Wr.take (v := Value.agg #[Value.bool g0, Value.bool g1, Value.bool g2]) 6 rfl (by kernel_rfl) (fun _ h => st_take [0, 0, 0, 0, 0, 0, 0] h) (.inl ⟨rfl, q_loadAgg (vs := [Value.bool g0, Value.bool g1, Value.bool g2]) ag_22 hE3_23 (Has.of_pt (i := 5) rfl rfl)⟩) ?_
            refine Wr.pure (v := Value.bool (f0 == g0 && (f1 == g1 && f2 == g2))) 7 rfl (by kernel_rfl) (.inr (fun _ h => st_take [0, 0, 0, 0, 0, 0, 0] h)) (.inl ⟨rfl, fun _ => q_eql_agg (r := (f0 == g0 && (f1 == g1 && f2 == g2))) rfl rfl eg_22 (eqB3 f0 f1 f2 g0 g1 g2)⟩) ?_
            refine Wr.pure (v := Value.bool true) 8 rfl (by kernel_rfl) (.inr (fun _ h => st_take [0, 0, 0, 0, 0, 0, 0] h)) (.inl ⟨rfl, fun _ => q_eql_bool (r := true) rfl rfl Tryd.underlying4 (beq_iff_eq.2 (unlike_e f0 f1 f2 g0 g1 g2))⟩) ?_
            refine Wr.pure (v := Value.bool true) 9 rfl (by kernel_rfl) (.inr (fun _ h => st_take [0, 0, 0, 0, 0, 0, 0] h)) (.inl ⟨rfl, fun _ => q_move rfl⟩) ?_
            refine Wr.pure (v := Value.pointer (some ⟨b26, 2, none⟩)) 10 rfl (by kernel_rfl) (.inr (fun _ h => st_take [0, 0, 0, 0, 0, 0, 0] h)) (.inl ⟨rfl, fun _ => q_field (m := 2) fo_33_2 rfl rfl⟩) ?_
            refine Wr.take (v := Value.int .i64 (((N1 f0 f1 f2).a.2.1 : Nat) : Int)) 11 rfl (by kernel_rfl) (fun _ h => st_take [0, 0, 0, 0, 0, 0, 0] h) (.inl ⟨rfl, q_load sc_3 rfl (.cel (i := 2) rfl rfl)⟩) ?_
            refine Wr.pure (v := Value.pointer (some ⟨b28, 2, none⟩)) 12 rfl (by kernel_rfl) (.inr (fun _ h => st_take [0, 0, 0, 0, 0, 0, 0] h)) (.inl ⟨rfl, fun _ => q_field (m := 2) fo_33_2 rfl rfl⟩) ?_
            refine Wr.take (v := Value.int .i64 (((N2 f0 f1 f2 g0 g1 g2).a.2.1 : Nat) : Int)) 13 rfl (by kernel_rfl) (fun _ h => st_take [0, 0, 0, 0, 0, 0, 0] h) (.inl ⟨rfl, q_load sc_3 rfl (.cel (i := 1) rfl rfl)⟩) ?_
            refine Wr.pure (v := Value.bool (decide ((((N1 f0 f1 f2).a.2.1 : Nat) : Int) = (((N2 f0 f1 f2 g0 g1 g2).a.2.1 : Nat) : Int)))) 14 rfl (by kernel_rfl) (.inr (fun _ h => st_take [0, 0, 0, 0, 0, 0, 0] h)) (.inl ⟨rfl, fun _ => q_eql rfl rfl rfl⟩) ?_
            refine Wr.take (v := Value.agg #[Value.bool f0, Value.bool f1, Value.bool f2]) 15 rfl (by kernel_rfl) (fun _ h => st_take [0, 0, 0, 0, 0, 0, 0] h) (.inl ⟨rfl, q_loadAgg (vs := [Value.bool f0, Value.bool f1, Value.bool f2]) ag_22 hE2_23 (Has.of_pt (i := 6) rfl rfl)⟩) ?_
            refine Wr.take (v := Value.agg #[Value.bool g0, Value.bool g1, Value.bool g2]) 16 rfl (by kernel_rfl) (fun _ h => st_take [0, 0, 0, 0, 0, 0, 0] h) (.inl ⟨rfl, q_loadAgg (vs := [Value.bool g0, Value.bool g1, Value.bool g2]) ag_22 hE3_23 (Has.of_pt (i := 5) rfl rfl)⟩) ?_
            refine Wr.pure (v := Value.bool (f0 == g0 && (f1 == g1 && f2 == g2))) 17 rfl (by kernel_rfl) (.inr (fun _ h => st_take [0, 0, 0, 0, 0, 0, 0] h)) (.inl ⟨rfl, fun _ => q_eql_agg (r := (f0 == g0 && (f1 == g1 && f2 == g2))) rfl rfl eg_22 (eqB3 f0 f1 f2 g0 g1 g2)⟩) ?_
            refine Wr.pure (v := Value.bool true) 18 rfl (by kernel_rfl) (.inr (fun _ h => st_take [0, 0, 0, 0, 0, 0, 0] h)) (.inl ⟨rfl, fun _ => q_eql_bool (r := true) rfl rfl Tryd.underlying4 (beq_iff_eq.2 (unlike_a f0 f1 f2 g0 g1 g2))⟩) ?_
            refine Wr.pure (v := Value.bool true) 19 rfl (by kernel_rfl) (.inr (fun _ h => st_take [0, 0, 0, 0, 0, 0, 0] h)) (.inl ⟨rfl, fun _ => q_pick (t := true) rfl rfl⟩) ?_
            refine Wr.pure (v := Value.bool true) 20 rfl (by kernel_rfl) (.inr (fun _ h => st_take [0, 0, 0, 0, 0, 0, 0] h)) (.inl ⟨rfl, fun _ => q_move rfl⟩) ?_
            refine Wr.pure (v := Value.pointer (some ⟨b26, 5, none⟩)) 21 rfl (by kernel_rfl) (.inr (fun _ h => st_take [0, 0, 0, 0, 0, 0, 0] h)) (.inl ⟨rfl, fun _ => q_field (m := 5) fo_33_5 rfl rfl⟩) ?_
            refine Wr.take (v := Value.int .i64 (((N1 f0 f1 f2).d.2.1 : Nat) : Int)) 22 rfl (by kernel_rfl) (fun _ h => st_take [0, 0, 0, 0, 0, 0, 0] h) (.inl ⟨rfl, q_load sc_3 rfl (.cel (i := 2) rfl rfl)⟩) ?_
            refine Wr.pure (v := Value.pointer (some ⟨b28, 5, none⟩)) 23 rfl (by kernel_rfl) (.inr (fun _ h => st_take [0, 0, 0, 0, 0, 0, 0] h)) (.inl ⟨rfl, fun _ => q_field (m := 5) fo_33_5 rfl rfl⟩) ?_
            refine Wr.take (v := Value.int .i64 (((N2 f0 f1 f2 g0 g1 g2).d.2.1 : Nat) : Int)) 24 rfl (by kernel_rfl) (fun _ h => st_take [0, 0, 0, 0, 0, 0, 0] h) (.inl ⟨rfl, q_load sc_3 rfl (.cel (i := 1) rfl rfl)⟩) ?_
            refine Wr.pure (v := Value.bool (decide ((((N1 f0 f1 f2).d.2.1 : Nat) : Int) = (((N2 f0 f1 f2 g0 g1 g2).d.2.1 : Nat) : Int)))) 25 rfl (by kernel_rfl) (.inr (fun _ h => st_take [0, 0, 0, 0, 0, 0, 0] h)) (.inl ⟨rfl, fun _ => q_eql rfl rfl rfl⟩) ?_
            refine Wr.take (v := Value.agg #[Value.bool f0, Value.bool f1, Value.bool f2]) 26 rfl (by kernel_rfl) (fun _ h => st_take [0, 0, 0, 0, 0, 0, 0] h) (.inl ⟨rfl, q_loadAgg (vs := [Value.bool f0, Value.bool f1, Value.bool f2]) ag_22 hE2_23 (Has.of_pt (i := 6) rfl rfl)⟩) ?_
            refine Wr.take (v := Value.agg #[Value.bool g0, Value.bool g1, Value.bool g2]) 27 rfl (by kernel_rfl) (fun _ h => st_take [0, 0, 0, 0, 0, 0, 0] h) (.inl ⟨rfl, q_loadAgg (vs := [Value.bool g0, Value.bool g1, Value.bool g2]) ag_22 hE3_23 (Has.of_pt (i := 5) rfl rfl)⟩) ?_
            refine Wr.pure (v := Value.bool (f0 == g0 && (f1 == g1 && f2 == g2))) 28 rfl (by kernel_rfl) (.inr (fun _ h => st_take [0, 0, 0, 0, 0, 0, 0] h)) (.inl ⟨rfl, fun _ => q_eql_agg (r := (f0 == g0 && (f1 == g1 && f2 == g2))) rfl rfl eg_22 (eqB3 f0 f1 f2 g0 g1 g2)⟩) ?_
            refine Wr.pure (v := Value.bool true) 29 rfl (by kernel_rfl) (.inr (fun _ h => st_take [0, 0, 0, 0, 0, 0, 0] h)) (.inl ⟨rfl, fun _ => q_eql_bool (r := true) rfl rfl Tryd.underlying4 (beq_iff_eq.2 (unlike_d f0 f1 f2 g0 g1 g2))⟩) ?_
            refine Wr.pure (v := Value.bool true) 30 rfl (by kernel_rfl) (.inr (fun _ h => st_take [0, 0, 0, 0, 0, 0, 0] h)) (.inl ⟨rfl, fun _ => q_pick (t := true) rfl rfl⟩) ?_
            refine Wr.pure (v := Value.bool true) 31 rfl (by kernel_rfl) (.inr (fun _ h => st_take [0, 0, 0, 0, 0, 0, 0] h)) (.inl ⟨rfl, fun _ => q_move rfl⟩) ?_
            refine Wr.pure (v := Value.pointer (some ⟨b26, 0, none⟩)) 32 rfl (by kernel_rfl) (.inr (fun _ h => st_take [0, 0, 0, 0, 0, 0, 0] h)) (.inl ⟨rfl, fun _ => q_field (m := 0) fo_33_0 rfl rfl⟩) ?_
            refine Wr.take (v := Value.int .i64 (((J1 f0 f1).2.1 : Nat) : Int)) 33 rfl (by kernel_rfl) (fun _ h => st_take [0, 0, 0, 0, 0, 0, 0] h) (.inl ⟨rfl, q_load sc_3 rfl (.cel (i := 2) rfl rfl)⟩) ?_
            refine Wr.pure (v := Value.pointer (some ⟨b28, 0, none⟩)) 34 rfl (by kernel_rfl) (.inr (fun _ h => st_take [0, 0, 0, 0, 0, 0, 0] h)) (.inl ⟨rfl, fun _ => q_field (m := 0) fo_33_0 rfl rfl⟩) ?_
            refine Wr.take (v := Value.int .i64 (((J2 f0 f1 f2 g0 g1).2.1 : Nat) : Int)) 35 rfl (by kernel_rfl) (fun _ h => st_take [0, 0, 0, 0, 0, 0, 0] h) (.inl ⟨rfl, q_load sc_3 rfl (.cel (i := 1) rfl rfl)⟩) ?_
            refine Wr.pure (v := Value.bool (decide ((((J1 f0 f1).2.1 : Nat) : Int) = (((J2 f0 f1 f2 g0 g1).2.1 : Nat) : Int)))) 36 rfl (by kernel_rfl) (.inr (fun _ h => st_take [0, 0, 0, 0, 0, 0, 0] h)) (.inl ⟨rfl, fun _ => q_eql rfl rfl rfl⟩) ?_
            refine Wr.pure (v := Value.pointer (some ⟨b1, 0, none⟩)) 37 rfl (by kernel_rfl) (.inr (fun _ h => st_take [0, 0, 0, 0, 0, 0, 0] h)) (.inl ⟨rfl, fun _ => q_idx_arr (m := 0) Tryd.underlying22 sz_4 hE2_23 rfl (by decide) (by decide) rfl⟩) ?_
            refine Wr.take (v := Value.bool f0) 38 rfl (by kernel_rfl) (fun _ h => st_take [0, 0, 0, 0, 0, 0, 0] h) (.inl ⟨rfl, q_load sc_4 rfl (.cel (i := 6) rfl rfl)⟩) ?_
            refine Wr.pure (v := Value.pointer (some ⟨b2, 0, none⟩)) 39 rfl (by kernel_rfl) (.inr (fun _ h => st_take [0, 0, 0, 0, 0, 0, 0] h)) (.inl ⟨rfl, fun _ => q_idx_arr (m := 0) Tryd.underlying22 sz_4 hE3_23 rfl (by decide) (by decide) rfl⟩) ?_
            refine Wr.take (v := Value.bool g0) 40 rfl (by kernel_rfl) (fun _ h => st_take [0, 0, 0, 0, 0, 0, 0] h) (.inl ⟨rfl, q_load sc_4 rfl (.cel (i := 5) rfl rfl)⟩) ?_
            by_cases hab : f0 = g0
            ·
              refine Wr.pure (v := Value.bool true) 41 rfl (by kernel_rfl) (.inr (fun _ h => st_take [0, 0, 0, 0, 0, 0, 0] h)) (.inl ⟨rfl, fun _ => q_eql_bool (r := true) rfl rfl Tryd.underlying4 (beq_iff_eq.2 hab)⟩) ?_
              refine Wr.pure (v := Value.bool true) 42 rfl (by kernel_rfl) (.inr (fun _ h => st_take [0, 0, 0, 0, 0, 0, 0] h)) (.inl ⟨rfl, fun _ => q_move rfl⟩) ?_
              refine Wr.pure (v := Value.pointer (some ⟨b1, 1, none⟩)) 43 rfl (by kernel_rfl) (.inr (fun _ h => st_take [0, 0, 0, 0, 0, 0, 0] h)) (.inl ⟨rfl, fun _ => q_idx_arr (m := 1) Tryd.underlying22 sz_4 hE2_23 rfl (by decide) (by decide) rfl⟩) ?_
              refine Wr.take (v := Value.bool f1) 44 rfl (by kernel_rfl) (fun _ h => st_take [0, 0, 0, 0, 0, 0, 0] h) (.inl ⟨rfl, q_load sc_4 rfl (.cel (i := 6) rfl rfl)⟩) ?_
              refine Wr.pure (v := Value.pointer (some ⟨b2, 1, none⟩)) 45 rfl (by kernel_rfl) (.inr (fun _ h => st_take [0, 0, 0, 0, 0, 0, 0] h)) (.inl ⟨rfl, fun _ => q_idx_arr (m := 1) Tryd.underlying22 sz_4 hE3_23 rfl (by decide) (by decide) rfl⟩) ?_
              refine Wr.take (v := Value.bool g1) 46 rfl (by kernel_rfl) (fun _ h => st_take [0, 0, 0, 0, 0, 0, 0] h) (.inl ⟨rfl, q_load sc_4 rfl (.cel (i := 5) rfl rfl)⟩) ?_
              refine Wr.pure (v := Value.bool (f1 == g1)) 47 rfl (by kernel_rfl) (.inr (fun _ h => st_take [0, 0, 0, 0, 0, 0, 0] h)) (.inl ⟨rfl, fun _ => q_eql_bool (r := (f1 == g1)) rfl rfl Tryd.underlying4 rfl⟩) ?_
              refine Wr.pure (v := Value.bool (f1 == g1)) 48 rfl (by kernel_rfl) (.inr (fun _ h => st_take [0, 0, 0, 0, 0, 0, 0] h)) (.inl ⟨rfl, fun _ => q_pick (t := true) rfl rfl⟩) ?_
              refine Wr.pure (v := Value.bool true) 49 rfl (by kernel_rfl) (.inr (fun _ h => st_take [0, 0, 0, 0, 0, 0, 0] h)) (.inl ⟨rfl, fun _ => q_eql_bool (r := true) rfl rfl Tryd.underlying4 (beq_iff_eq.2 ((by rw [unlike_j f0 f1 f2 g0 g1 g2]; simp [hab])))⟩) ?_
              refine Wr.pure (v := Value.bool true) 50 rfl (by kernel_rfl) (.inr (fun _ h => st_take [0, 0, 0, 0, 0, 0, 0] h)) (.inl ⟨rfl, fun _ => q_pick (t := true) rfl rfl⟩) ?_
              refine Wr.pure (v := Value.bool true) 51 rfl (by kernel_rfl) (.inr (fun _ h => st_take [0, 0, 0, 0, 0, 0, 0] h)) (.inl ⟨rfl, fun _ => q_move rfl⟩) ?_
              refine Wr.e 52 (by kernel_rfl) rfl (e_call (F := (storeW b4 (N2 f0 f1 f2 g0 g1 g2).d.1) :: (pt b28 33 [Value.int .i64 (((J2 f0 f1 f2 g0 g1).2.1 : Nat) : Int), Value.int .i64 (((N2 f0 f1 f2 g0 g1 g2).e.2.1 : Nat) : Int), Value.int .i64 (((N2 f0 f1 f2 g0 g1 g2).a.2.1 : Nat) : Int), Value.int .i64 (((N2 f0 f1 f2 g0 g1 g2).b.2.1 : Nat) : Int), Value.int .i64 (((N2 f0 f1 f2 g0 g1 g2).c.2.1 : Nat) : Int), Value.int .i64 (((N2 f0 f1 f2 g0 g1 g2).d.2.1 : Nat) : Int)]) :: (pt b26 33 [Value.int .i64 (((J1 f0 f1).2.1 : Nat) : Int), Value.int .i64 (((N1 f0 f1 f2).e.2.1 : Nat) : Int), Value.int .i64 (((N1 f0 f1 f2).a.2.1 : Nat) : Int), Value.int .i64 (((N1 f0 f1 f2).b.2.1 : Nat) : Int), Value.int .i64 (((N1 f0 f1 f2).c.2.1 : Nat) : Int), Value.int .i64 (((N1 f0 f1 f2).d.2.1 : Nat) : Int)]) :: (pt b7 3 [Value.int .i64 (pk g0 0), Value.int .i64 (pk g1 1), Value.int .i64 (pk g2 2)]) :: (pt b6 3 [Value.int .i64 (pk f0 0), Value.int .i64 (pk f1 1), Value.int .i64 (pk f2 2)]) :: (pt b2 22 [Value.bool g0, Value.bool g1, Value.bool g2]) :: (pt b1 22 [Value.bool f0, Value.bool f1, Value.bool f2]) :: F) (args := []) Tryd.call7 rfl (au1_lives W0)) (.inl (by kernel_rfl)) (fun _ _ => ?_)
              refine Wr.imp (L' := (storeW b4 (N2 f0 f1 f2 g0 g1 g2).d.1) :: (pt b28 33 [Value.int .i64 (((J2 f0 f1 f2 g0 g1).2.1 : Nat) : Int), Value.int .i64 (((N2 f0 f1 f2 g0 g1 g2).e.2.1 : Nat) : Int), Value.int .i64 (((N2 f0 f1 f2 g0 g1 g2).a.2.1 : Nat) : Int), Value.int .i64 (((N2 f0 f1 f2 g0 g1 g2).b.2.1 : Nat) : Int), Value.int .i64 (((N2 f0 f1 f2 g0 g1 g2).c.2.1 : Nat) : Int), Value.int .i64 (((N2 f0 f1 f2 g0 g1 g2).d.2.1 : Nat) : Int)]) :: (pt b26 33 [Value.int .i64 (((J1 f0 f1).2.1 : Nat) : Int), Value.int .i64 (((N1 f0 f1 f2).e.2.1 : Nat) : Int), Value.int .i64 (((N1 f0 f1 f2).a.2.1 : Nat) : Int), Value.int .i64 (((N1 f0 f1 f2).b.2.1 : Nat) : Int), Value.int .i64 (((N1 f0 f1 f2).c.2.1 : Nat) : Int), Value.int .i64 (((N1 f0 f1 f2).d.2.1 : Nat) : Int)]) :: (pt b7 3 [Value.int .i64 (pk g0 0), Value.int .i64 (pk g1 1), Value.int .i64 (pk g2 2)]) :: (pt b6 3 [Value.int .i64 (pk f0 0), Value.int .i64 (pk f1 1), Value.int .i64 (pk f2 2)]) :: (pt b2 22 [Value.bool g0, Value.bool g1, Value.bool g2]) :: (pt b1 22 [Value.bool f0, Value.bool f1, Value.bool f2]) :: F) (fun _ h => h) ?_
              refine Wr.rebaseS [] ((storeW b4 (N2 f0 f1 f2 g0 g1 g2).d.1) :: (pt b28 33 [Value.int .i64 (((J2 f0 f1 f2 g0 g1).2.1 : Nat) : Int), Value.int .i64 (((N2 f0 f1 f2 g0 g1 g2).e.2.1 : Nat) : Int), Value.int .i64 (((N2 f0 f1 f2 g0 g1 g2).a.2.1 : Nat) : Int), Value.int .i64 (((N2 f0 f1 f2 g0 g1 g2).b.2.1 : Nat) : Int), Value.int .i64 (((N2 f0 f1 f2 g0 g1 g2).c.2.1 : Nat) : Int), Value.int .i64 (((N2 f0 f1 f2 g0 g1 g2).d.2.1 : Nat) : Int)]) :: (pt b26 33 [Value.int .i64 (((J1 f0 f1).2.1 : Nat) : Int), Value.int .i64 (((N1 f0 f1 f2).e.2.1 : Nat) : Int), Value.int .i64 (((N1 f0 f1 f2).a.2.1 : Nat) : Int), Value.int .i64 (((N1 f0 f1 f2).b.2.1 : Nat) : Int), Value.int .i64 (((N1 f0 f1 f2).c.2.1 : Nat) : Int), Value.int .i64 (((N1 f0 f1 f2).d.2.1 : Nat) : Int)]) :: (pt b7 3 [Value.int .i64 (pk g0 0), Value.int .i64 (pk g1 1), Value.int .i64 (pk g2 2)]) :: (pt b6 3 [Value.int .i64 (pk f0 0), Value.int .i64 (pk f1 1), Value.int .i64 (pk f2 2)]) :: (pt b2 22 [Value.bool g0, Value.bool g1, Value.bool g2]) :: (pt b1 22 [Value.bool f0, Value.bool f1, Value.bool f2]) :: []) (by kernel_rfl) ?_
              refine Wr.pure (v := Value.bool true) 53 rfl (by kernel_rfl) (.inr (fun _ h => st_take [0, 0, 0, 0, 0, 0, 0] h)) (.inl ⟨rfl, fun _ => q_pick (t := true) rfl rfl⟩) ?_
              refine Wr.pure (v := Value.bool true) 54 rfl (by kernel_rfl) (.inr (fun _ h => st_take [0, 0, 0, 0, 0, 0, 0] h)) (.inl ⟨rfl, fun _ => q_assign rfl⟩) ?_
              refine Wr.done (by kernel_rfl) ?_
              refine Wx.go ?_
              refine Wc.ret ?_
              refine Wx.fin1 rfl (.inl rfl) (fun w hs => ?_)
              have hs : st W0 w (F) := (st_drop (st_drop (st_drop (st_drop (st_drop (st_drop (st_drop (st_pull [0, 0, 0, 0, 0, 0, 0] hs))))))))
              exact ⟨(), trivial, rfl, hs⟩
            ·
              refine Wr.pure (v := Value.bool false) 41 rfl (by kernel_rfl) (.inr (fun _ h => st_take [0, 0, 0, 0, 0, 0, 0] h)) (.inl ⟨rfl, fun _ => q_eql_bool (r := false) rfl rfl Tryd.underlying4 (beq_eq_false_iff_ne.2 hab)⟩) ?_
              refine Wr.pure (v := Value.bool false) 42 rfl (by kernel_rfl) (.inr (fun _ h => st_take [0, 0, 0, 0, 0, 0, 0] h)) (.inl ⟨rfl, fun _ => q_move rfl⟩) ?_
              refine Wr.pure (v := undef) 43 rfl (by kernel_rfl) (.inr (fun _ h => st_take [0, 0, 0, 0, 0, 0, 0] h)) (.inr ⟨rfl, rfl⟩) ?_
              refine Wr.pure (v := undef) 44 rfl (by kernel_rfl) (.inr (fun _ h => st_take [0, 0, 0, 0, 0, 0, 0] h)) (.inr ⟨rfl, rfl⟩) ?_
              refine Wr.pure (v := undef) 45 rfl (by kernel_rfl) (.inr (fun _ h => st_take [0, 0, 0, 0, 0, 0, 0] h)) (.inr ⟨rfl, rfl⟩) ?_
              refine Wr.pure (v := undef) 46 rfl (by kernel_rfl) (.inr (fun _ h => st_take [0, 0, 0, 0, 0, 0, 0] h)) (.inr ⟨rfl, rfl⟩) ?_
              refine Wr.pure (v := undef) 47 rfl (by kernel_rfl) (.inr (fun _ h => st_take [0, 0, 0, 0, 0, 0, 0] h)) (.inr ⟨rfl, rfl⟩) ?_
              refine Wr.pure (v := Value.bool false) 48 rfl (by kernel_rfl) (.inr (fun _ h => st_take [0, 0, 0, 0, 0, 0, 0] h)) (.inl ⟨rfl, fun _ => q_pick (t := false) rfl rfl⟩) ?_
              refine Wr.pure (v := Value.bool true) 49 rfl (by kernel_rfl) (.inr (fun _ h => st_take [0, 0, 0, 0, 0, 0, 0] h)) (.inl ⟨rfl, fun _ => q_eql_bool (r := true) rfl rfl Tryd.underlying4 (beq_iff_eq.2 ((by rw [unlike_j f0 f1 f2 g0 g1 g2]; simp [hab])))⟩) ?_
              refine Wr.pure (v := Value.bool true) 50 rfl (by kernel_rfl) (.inr (fun _ h => st_take [0, 0, 0, 0, 0, 0, 0] h)) (.inl ⟨rfl, fun _ => q_pick (t := true) rfl rfl⟩) ?_
              refine Wr.pure (v := Value.bool true) 51 rfl (by kernel_rfl) (.inr (fun _ h => st_take [0, 0, 0, 0, 0, 0, 0] h)) (.inl ⟨rfl, fun _ => q_move rfl⟩) ?_
              refine Wr.e 52 (by kernel_rfl) rfl (e_call (F := (storeW b4 (N2 f0 f1 f2 g0 g1 g2).d.1) :: (pt b28 33 [Value.int .i64 (((J2 f0 f1 f2 g0 g1).2.1 : Nat) : Int), Value.int .i64 (((N2 f0 f1 f2 g0 g1 g2).e.2.1 : Nat) : Int), Value.int .i64 (((N2 f0 f1 f2 g0 g1 g2).a.2.1 : Nat) : Int), Value.int .i64 (((N2 f0 f1 f2 g0 g1 g2).b.2.1 : Nat) : Int), Value.int .i64 (((N2 f0 f1 f2 g0 g1 g2).c.2.1 : Nat) : Int), Value.int .i64 (((N2 f0 f1 f2 g0 g1 g2).d.2.1 : Nat) : Int)]) :: (pt b26 33 [Value.int .i64 (((J1 f0 f1).2.1 : Nat) : Int), Value.int .i64 (((N1 f0 f1 f2).e.2.1 : Nat) : Int), Value.int .i64 (((N1 f0 f1 f2).a.2.1 : Nat) : Int), Value.int .i64 (((N1 f0 f1 f2).b.2.1 : Nat) : Int), Value.int .i64 (((N1 f0 f1 f2).c.2.1 : Nat) : Int), Value.int .i64 (((N1 f0 f1 f2).d.2.1 : Nat) : Int)]) :: (pt b7 3 [Value.int .i64 (pk g0 0), Value.int .i64 (pk g1 1), Value.int .i64 (pk g2 2)]) :: (pt b6 3 [Value.int .i64 (pk f0 0), Value.int .i64 (pk f1 1), Value.int .i64 (pk f2 2)]) :: (pt b2 22 [Value.bool g0, Value.bool g1, Value.bool g2]) :: (pt b1 22 [Value.bool f0, Value.bool f1, Value.bool f2]) :: F) (args := []) Tryd.call7 rfl (au1_lives W0)) (.inl (by kernel_rfl)) (fun _ _ => ?_)
              refine Wr.imp (L' := (storeW b4 (N2 f0 f1 f2 g0 g1 g2).d.1) :: (pt b28 33 [Value.int .i64 (((J2 f0 f1 f2 g0 g1).2.1 : Nat) : Int), Value.int .i64 (((N2 f0 f1 f2 g0 g1 g2).e.2.1 : Nat) : Int), Value.int .i64 (((N2 f0 f1 f2 g0 g1 g2).a.2.1 : Nat) : Int), Value.int .i64 (((N2 f0 f1 f2 g0 g1 g2).b.2.1 : Nat) : Int), Value.int .i64 (((N2 f0 f1 f2 g0 g1 g2).c.2.1 : Nat) : Int), Value.int .i64 (((N2 f0 f1 f2 g0 g1 g2).d.2.1 : Nat) : Int)]) :: (pt b26 33 [Value.int .i64 (((J1 f0 f1).2.1 : Nat) : Int), Value.int .i64 (((N1 f0 f1 f2).e.2.1 : Nat) : Int), Value.int .i64 (((N1 f0 f1 f2).a.2.1 : Nat) : Int), Value.int .i64 (((N1 f0 f1 f2).b.2.1 : Nat) : Int), Value.int .i64 (((N1 f0 f1 f2).c.2.1 : Nat) : Int), Value.int .i64 (((N1 f0 f1 f2).d.2.1 : Nat) : Int)]) :: (pt b7 3 [Value.int .i64 (pk g0 0), Value.int .i64 (pk g1 1), Value.int .i64 (pk g2 2)]) :: (pt b6 3 [Value.int .i64 (pk f0 0), Value.int .i64 (pk f1 1), Value.int .i64 (pk f2 2)]) :: (pt b2 22 [Value.bool g0, Value.bool g1, Value.bool g2]) :: (pt b1 22 [Value.bool f0, Value.bool f1, Value.bool f2]) :: F) (fun _ h => h) ?_
              refine Wr.rebaseS [] ((storeW b4 (N2 f0 f1 f2 g0 g1 g2).d.1) :: (pt b28 33 [Value.int .i64 (((J2 f0 f1 f2 g0 g1).2.1 : Nat) : Int), Value.int .i64 (((N2 f0 f1 f2 g0 g1 g2).e.2.1 : Nat) : Int), Value.int .i64 (((N2 f0 f1 f2 g0 g1 g2).a.2.1 : Nat) : Int), Value.int .i64 (((N2 f0 f1 f2 g0 g1 g2).b.2.1 : Nat) : Int), Value.int .i64 (((N2 f0 f1 f2 g0 g1 g2).c.2.1 : Nat) : Int), Value.int .i64 (((N2 f0 f1 f2 g0 g1 g2).d.2.1 : Nat) : Int)]) :: (pt b26 33 [Value.int .i64 (((J1 f0 f1).2.1 : Nat) : Int), Value.int .i64 (((N1 f0 f1 f2).e.2.1 : Nat) : Int), Value.int .i64 (((N1 f0 f1 f2).a.2.1 : Nat) : Int), Value.int .i64 (((N1 f0 f1 f2).b.2.1 : Nat) : Int), Value.int .i64 (((N1 f0 f1 f2).c.2.1 : Nat) : Int), Value.int .i64 (((N1 f0 f1 f2).d.2.1 : Nat) : Int)]) :: (pt b7 3 [Value.int .i64 (pk g0 0), Value.int .i64 (pk g1 1), Value.int .i64 (pk g2 2)]) :: (pt b6 3 [Value.int .i64 (pk f0 0), Value.int .i64 (pk f1 1), Value.int .i64 (pk f2 2)]) :: (pt b2 22 [Value.bool g0, Value.bool g1, Value.bool g2]) :: (pt b1 22 [Value.bool f0, Value.bool f1, Value.bool f2]) :: []) (by kernel_rfl) ?_
              refine Wr.pure (v := Value.bool true) 53 rfl (by kernel_rfl) (.inr (fun _ h => st_take [0, 0, 0, 0, 0, 0, 0] h)) (.inl ⟨rfl, fun _ => q_pick (t := true) rfl rfl⟩) ?_
              refine Wr.pure (v := Value.bool true) 54 rfl (by kernel_rfl) (.inr (fun _ h => st_take [0, 0, 0, 0, 0, 0, 0] h)) (.inl ⟨rfl, fun _ => q_assign rfl⟩) ?_
              refine Wr.done (by kernel_rfl) ?_
              refine Wx.go ?_
              refine Wc.ret ?_
              refine Wx.fin1 rfl (.inl rfl) (fun w hs => ?_)
              have hs : st W0 w (F) := (st_drop (st_drop (st_drop (st_drop (st_drop (st_drop (st_drop (st_pull [0, 0, 0, 0, 0, 0, 0] hs))))))))
              exact ⟨(), trivial, rfl, hs⟩
        ·
          refine Wo.e 14 rfl (e_alloc (vs := [Value.int .i64 0, Value.int .i64 0, Value.int .i64 0, Value.int .i64 0, Value.int .i64 0, Value.int .i64 0]) zo_33 rfl) (.inr fun _ _ _ h => st_take [1, 1, 1, 1, 1] h) (fun b29 _ => ?_)
          refine Wr.more (S' := (pt b29 33 [Value.int .i64 0, Value.int .i64 0, Value.int .i64 0, Value.int .i64 0, Value.int .i64 0, Value.int .i64 0]) :: (pt b7 3 [Value.int .i64 (pk g0 0), Value.int .i64 (pk g1 1), Value.int .i64 (pk g2 2)]) :: (pt b6 3 [Value.int .i64 (pk f0 0), Value.int .i64 (pk f1 1), Value.int .i64 (pk f2 2)]) :: (storeW b4 tl24_6) :: (pt b2 22 [Value.bool g0, Value.bool g1, Value.bool g2]) :: (pt b1 22 [Value.bool f0, Value.bool f1, Value.bool f2]) :: []) (fun _ h => st_drop h) ?_
          refine Wr.imp (L' := (storeW b4 tl24_6) :: (pt b29 33 [Value.int .i64 0, Value.int .i64 0, Value.int .i64 0, Value.int .i64 0, Value.int .i64 0, Value.int .i64 0]) :: (pt b7 3 [Value.int .i64 (pk g0 0), Value.int .i64 (pk g1 1), Value.int .i64 (pk g2 2)]) :: (pt b6 3 [Value.int .i64 (pk f0 0), Value.int .i64 (pk f1 1), Value.int .i64 (pk f2 2)]) :: (pt b2 22 [Value.bool g0, Value.bool g1, Value.bool g2]) :: (pt b1 22 [Value.bool f0, Value.bool f1, Value.bool f2]) :: F) (fun _ h => st_pull [3] h) ?_
          refine Wr.e 10 (by kernel_rfl) rfl (e_call (F := (pt b29 33 [Value.int .i64 0, Value.int .i64 0, Value.int .i64 0, Value.int .i64 0, Value.int .i64 0, Value.int .i64 0]) :: (pt b7 3 [Value.int .i64 (pk g0 0), Value.int .i64 (pk g1 1), Value.int .i64 (pk g2 2)]) :: (pt b6 3 [Value.int .i64 (pk f0 0), Value.int .i64 (pk f1 1), Value.int .i64 (pk f2 2)]) :: (pt b2 22 [Value.bool g0, Value.bool g1, Value.bool g2]) :: (pt b1 22 [Value.bool f0, Value.bool f1, Value.bool f2]) :: F) (args := [Value.pointer (some ⟨b4, 0, none⟩), Value.int .i64 (pk f0 0), Value.int .i64 (pk f1 1), Value.int .i64 (pk f2 2)]) Tryd.call6 rfl (Con.eqs (val' := fun _ => .tuple #[Value.agg #[Value.int .i64 (((J1 f0 f1).2.1 : Nat) : Int), Value.int .i64 (((N1 f0 f1 f2).e.2.1 : Nat) : Int), Value.int .i64 (((N1 f0 f1 f2).a.2.1 : Nat) : Int), Value.int .i64 (((N1 f0 f1 f2).b.2.1 : Nat) : Int), Value.int .i64 (((N1 f0 f1 f2).c.2.1 : Nat) : Int), Value.int .i64 (((N1 f0 f1 f2).d.2.1 : Nat) : Int)], .int .i64 0]) (post' := fun _ => [storeW b4 (N1 f0 f1 f2).d.1]) (next_c W0 b4 T6 (pk f0 0) (pk f1 1) (pk f2 2) (pk_rng f0 0 (by omega)) (pk_rng f1 1 (by omega)) (pk_rng f2 2 (by omega)) (by decide)) (fun _ => by unfold N1 J1; rfl) (fun _ => by unfold N1; rfl))) (.inl (by kernel_rfl)) (fun _ _ => ?_)
          refine Wr.imp (L' := (storeW b4 (N1 f0 f1 f2).d.1) :: (pt b29 33 [Value.int .i64 0, Value.int .i64 0, Value.int .i64 0, Value.int .i64 0, Value.int .i64 0, Value.int .i64 0]) :: (pt b7 3 [Value.int .i64 (pk g0 0), Value.int .i64 (pk g1 1), Value.int .i64 (pk g2 2)]) :: (pt b6 3 [Value.int .i64 (pk f0 0), Value.int .i64 (pk f1 1), Value.int .i64 (pk f2 2)]) :: (pt b2 22 [Value.bool g0, Value.bool g1, Value.bool g2]) :: (pt b1 22 [Value.bool f0, Value.bool f1, Value.bool f2]) :: F) (fun _ h => h) ?_
          refine Wr.rebaseS [15] ((storeW b4 (N1 f0 f1 f2).d.1) :: (pt b29 33 [Value.int .i64 0, Value.int .i64 0, Value.int .i64 0, Value.int .i64 0, Value.int .i64 0, Value.int .i64 0]) :: (pt b7 3 [Value.int .i64 (pk g0 0), Value.int .i64 (pk g1 1), Value.int .i64 (pk g2 2)]) :: (pt b6 3 [Value.int .i64 (pk f0 0), Value.int .i64 (pk f1 1), Value.int .i64 (pk f2 2)]) :: (pt b2 22 [Value.bool g0, Value.bool g1, Value.bool g2]) :: (pt b1 22 [Value.bool f0, Value.bool f1, Value.bool f2]) :: []) (by kernel_rfl) ?_
          refine Wr.pure (v := Value.tuple #[Value.agg #[Value.int .i64 (((J1 f0 f1).2.1 : Nat) : Int), Value.int .i64 (((N1 f0 f1 f2).e.2.1 : Nat) : Int), Value.int .i64 (((N1 f0 f1 f2).a.2.1 : Nat) : Int), Value.int .i64 (((N1 f0 f1 f2).b.2.1 : Nat) : Int), Value.int .i64 (((N1 f0 f1 f2).c.2.1 : Nat) : Int), Value.int .i64 (((N1 f0 f1 f2).d.2.1 : Nat) : Int)], Value.int .i64 0]) 11 rfl (by kernel_rfl) (.inr (fun _ h => st_take [0, 0, 0, 0, 0, 0] h)) (.inl ⟨rfl, fun _ => q_move rfl⟩) ?_
          refine Wr.pure (v := Value.agg #[Value.int .i64 (((J1 f0 f1).2.1 : Nat) : Int), Value.int .i64 (((N1 f0 f1 f2).e.2.1 : Nat) : Int), Value.int .i64 (((N1 f0 f1 f2).a.2.1 : Nat) : Int), Value.int .i64 (((N1 f0 f1 f2).b.2.1 : Nat) : Int), Value.int .i64 (((N1 f0 f1 f2).c.2.1 : Nat) : Int), Value.int .i64 (((N1 f0 f1 f2).d.2.1 : Nat) : Int)]) 12 rfl (by kernel_rfl) (.inr (fun _ h => st_take [0, 0, 0, 0, 0, 0] h)) (.inl ⟨rfl, fun _ => q_extract (i := 0) rfl rfl⟩) ?_
          refine Wr.pure (v := Value.int .i64 0) 13 rfl (by kernel_rfl) (.inr (fun _ h => st_take [0, 0, 0, 0, 0, 0] h)) (.inl ⟨rfl, fun _ => q_extract (i := 1) rfl rfl⟩) ?_
          refine Wr.e 15 (by kernel_rfl) rfl (e_storeAgg (i := 1) (vs := [Value.int .i64 (((J1 f0 f1).2.1 : Nat) : Int), Value.int .i64 (((N1 f0 f1 f2).e.2.1 : Nat) : Int), Value.int .i64 (((N1 f0 f1 f2).a.2.1 : Nat) : Int), Value.int .i64 (((N1 f0 f1 f2).b.2.1 : Nat) : Int), Value.int .i64 (((N1 f0 f1 f2).c.2.1 : Nat) : Int), Value.int .i64 (((N1 f0 f1 f2).d.2.1 : Nat) : Int)]) (c' := [Value.int .i64 (((J1 f0 f1).2.1 : Nat) : Int), Value.int .i64 (((N1 f0 f1 f2).e.2.1 : Nat) : Int), Value.int .i64 (((N1 f0 f1 f2).a.2.1 : Nat) : Int), Value.int .i64 (((N1 f0 f1 f2).b.2.1 : Nat) : Int), Value.int .i64 (((N1 f0 f1 f2).c.2.1 : Nat) : Int), Value.int .i64 (((N1 f0 f1 f2).d.2.1 : Nat) : Int)]) sz_33 rfl rfl rfl rfl (by simp) rfl) (.inl (by kernel_rfl)) (fun _ _ => ?_)
          refine Wr.imp (L' := (storeW b4 (N1 f0 f1 f2).d.1) :: (pt b29 33 [Value.int .i64 (((J1 f0 f1).2.1 : Nat) : Int), Value.int .i64 (((N1 f0 f1 f2).e.2.1 : Nat) : Int), Value.int .i64 (((N1 f0 f1 f2).a.2.1 : Nat) : Int), Value.int .i64 (((N1 f0 f1 f2).b.2.1 : Nat) : Int), Value.int .i64 (((N1 f0 f1 f2).c.2.1 : Nat) : Int), Value.int .i64 (((N1 f0 f1 f2).d.2.1 : Nat) : Int)]) :: (pt b7 3 [Value.int .i64 (pk g0 0), Value.int .i64 (pk g1 1), Value.int .i64 (pk g2 2)]) :: (pt b6 3 [Value.int .i64 (pk f0 0), Value.int .i64 (pk f1 1), Value.int .i64 (pk f2 2)]) :: (pt b2 22 [Value.bool g0, Value.bool g1, Value.bool g2]) :: (pt b1 22 [Value.bool f0, Value.bool f1, Value.bool f2]) :: F) (fun _ h => h) ?_
          refine Wr.rebaseS [] ((storeW b4 (N1 f0 f1 f2).d.1) :: (pt b29 33 [Value.int .i64 (((J1 f0 f1).2.1 : Nat) : Int), Value.int .i64 (((N1 f0 f1 f2).e.2.1 : Nat) : Int), Value.int .i64 (((N1 f0 f1 f2).a.2.1 : Nat) : Int), Value.int .i64 (((N1 f0 f1 f2).b.2.1 : Nat) : Int), Value.int .i64 (((N1 f0 f1 f2).c.2.1 : Nat) : Int), Value.int .i64 (((N1 f0 f1 f2).d.2.1 : Nat) : Int)]) :: (pt b7 3 [Value.int .i64 (pk g0 0), Value.int .i64 (pk g1 1), Value.int .i64 (pk g2 2)]) :: (pt b6 3 [Value.int .i64 (pk f0 0), Value.int .i64 (pk f1 1), Value.int .i64 (pk f2 2)]) :: (pt b2 22 [Value.bool g0, Value.bool g1, Value.bool g2]) :: (pt b1 22 [Value.bool f0, Value.bool f1, Value.bool f2]) :: []) (by kernel_rfl) ?_
          refine Wr.pure (v := Value.int .i64 0) 16 rfl (by kernel_rfl) (.inr (fun _ h => st_take [0, 0, 0, 0, 0, 0] h)) (.inl ⟨rfl, fun _ => q_assign rfl⟩) ?_
          refine Wr.done (by kernel_rfl) ?_
          refine Wx.go ?_
          refine Wc.seq ?_
          refine Wc.drawsS [10, 15] ((storeW b4 (N1 f0 f1 f2).d.1) :: (pt b29 33 [Value.int .i64 (((J1 f0 f1).2.1 : Nat) : Int), Value.int .i64 (((N1 f0 f1 f2).e.2.1 : Nat) : Int), Value.int .i64 (((N1 f0 f1 f2).a.2.1 : Nat) : Int), Value.int .i64 (((N1 f0 f1 f2).b.2.1 : Nat) : Int), Value.int .i64 (((N1 f0 f1 f2).c.2.1 : Nat) : Int), Value.int .i64 (((N1 f0 f1 f2).d.2.1 : Nat) : Int)]) :: (pt b7 3 [Value.int .i64 (pk g0 0), Value.int .i64 (pk g1 1), Value.int .i64 (pk g2 2)]) :: (pt b6 3 [Value.int .i64 (pk f0 0), Value.int .i64 (pk f1 1), Value.int .i64 (pk f2 2)]) :: (pt b2 22 [Value.bool g0, Value.bool g1, Value.bool g2]) :: (pt b1 22 [Value.bool f0, Value.bool f1, Value.bool f2]) :: []) (by kernel_rfl) ?_
          refine Wr.pure (v := Value.pointer (some ⟨b4, 0, none⟩)) 0 rfl (by kernel_rfl) (.inr (fun _ h => st_take [0, 0, 0, 0, 0, 0] h)) (.inl ⟨rfl, fun _ => q_move hE5_23⟩) ?_
          refine Wr.pure (v := Value.slice (some ⟨b7, 0, none⟩) 3 3) 1 rfl (by kernel_rfl) (.inr (fun _ h => st_take [0, 0, 0, 0, 0, 0] h)) (.inl ⟨rfl, fun _ => q_move hE9_23⟩) ?_
          refine Wr.pure (v := Value.pointer (some ⟨b7, 0, none⟩)) 2 rfl (by kernel_rfl) (.inr (fun _ h => st_take [0, 0, 0, 0, 0, 0] h)) (.inl ⟨rfl, fun _ => q_idx (m := 0) se_31 rfl rfl (by omega) (by omega) rfl⟩) ?_
          refine Wr.take (v := Value.int .i64 (pk g0 0)) 3 rfl (by kernel_rfl) (fun _ h => st_take [0, 0, 0, 0, 0, 0] h) (.inl ⟨rfl, q_load sc_3 rfl (.cel (i := 2) rfl rfl)⟩) ?_
          refine Wr.pure (v := Value.slice (some ⟨b7, 0, none⟩) 3 3) 4 rfl (by kernel_rfl) (.inr (fun _ h => st_take [0, 0, 0, 0, 0, 0] h)) (.inl ⟨rfl, fun _ => q_move hE9_23⟩) ?_
          refine Wr.pure (v := Value.pointer (some ⟨b7, 1, none⟩)) 5 rfl (by kernel_rfl) (.inr (fun _ h => st_take [0, 0, 0, 0, 0, 0] h)) (.inl ⟨rfl, fun _ => q_idx (m := 1) se_31 rfl rfl (by omega) (by omega) rfl⟩) ?_
          refine Wr.take (v := Value.int .i64 (pk g1 1)) 6 rfl (by kernel_rfl) (fun _ h => st_take [0, 0, 0, 0, 0, 0] h) (.inl ⟨rfl, q_load sc_3 rfl (.cel (i := 2) rfl rfl)⟩) ?_
          refine Wr.pure (v := Value.slice (some ⟨b7, 0, none⟩) 3 3) 7 rfl (by kernel_rfl) (.inr (fun _ h => st_take [0, 0, 0, 0, 0, 0] h)) (.inl ⟨rfl, fun _ => q_move hE9_23⟩) ?_
          refine Wr.pure (v := Value.pointer (some ⟨b7, 2, none⟩)) 8 rfl (by kernel_rfl) (.inr (fun _ h => st_take [0, 0, 0, 0, 0, 0] h)) (.inl ⟨rfl, fun _ => q_idx (m := 2) se_31 rfl rfl (by omega) (by omega) rfl⟩) ?_
          refine Wr.take (v := Value.int .i64 (pk g2 2)) 9 rfl (by kernel_rfl) (fun _ h => st_take [0, 0, 0, 0, 0, 0] h) (.inl ⟨rfl, q_load sc_3 rfl (.cel (i := 2) rfl rfl)⟩) ?_
          refine Wr.some [10, 14] (by kernel_rfl) (by decide) (List.forall_mem_cons.2 ⟨?_, (List.forall_mem_cons.2 ⟨?_, (fun _ h => by cases h)⟩)⟩)
          ·
            refine Wo.e 10 rfl (e_call (F := (pt b29 33 [Value.int .i64 (((J1 f0 f1).2.1 : Nat) : Int), Value.int .i64 (((N1 f0 f1 f2).e.2.1 : Nat) : Int), Value.int .i64 (((N1 f0 f1 f2).a.2.1 : Nat) : Int), Value.int .i64 (((N1 f0 f1 f2).b.2.1 : Nat) : Int), Value.int .i64 (((N1 f0 f1 f2).c.2.1 : Nat) : Int), Value.int .i64 (((N1 f0 f1 f2).d.2.1 : Nat) : Int)]) :: (pt b7 3 [Value.int .i64 (pk g0 0), Value.int .i64 (pk g1 1), Value.int .i64 (pk g2 2)]) :: (pt b6 3 [Value.int .i64 (pk f0 0), Value.int .i64 (pk f1 1), Value.int .i64 (pk f2 2)]) :: (pt b2 22 [Value.bool g0, Value.bool g1, Value.bool g2]) :: (pt b1 22 [Value.bool f0, Value.bool f1, Value.bool f2]) :: F) (args := [Value.pointer (some ⟨b4, 0, none⟩), Value.int .i64 (pk g0 0), Value.int .i64 (pk g1 1), Value.int .i64 (pk g2 2)]) Tryd.call6 rfl (Con.eqs (val' := fun _ => .tuple #[Value.agg #[Value.int .i64 (((J2 f0 f1 f2 g0 g1).2.1 : Nat) : Int), Value.int .i64 (((N2 f0 f1 f2 g0 g1 g2).e.2.1 : Nat) : Int), Value.int .i64 (((N2 f0 f1 f2 g0 g1 g2).a.2.1 : Nat) : Int), Value.int .i64 (((N2 f0 f1 f2 g0 g1 g2).b.2.1 : Nat) : Int), Value.int .i64 (((N2 f0 f1 f2 g0 g1 g2).c.2.1 : Nat) : Int), Value.int .i64 (((N2 f0 f1 f2 g0 g1 g2).d.2.1 : Nat) : Int)], .int .i64 0]) (post' := fun _ => [storeW b4 (N2 f0 f1 f2 g0 g1 g2).d.1]) (next_c W0 b4 (N1 f0 f1 f2).d.1 (pk g0 0) (pk g1 1) (pk g2 2) ⟨(pk_rng g0 0 (by omega)).1, (by have := (pk_rng g0 0 (by omega)).2; have := unlike_len f0 f1 f2; omega)⟩ ⟨(pk_rng g1 1 (by omega)).1, (by have := (pk_rng g1 1 (by omega)).2; have := unlike_len f0 f1 f2; omega)⟩ ⟨(pk_rng g2 2 (by omega)).1, (by have := (pk_rng g2 2 (by omega)).2; have := unlike_len f0 f1 f2; omega)⟩ (by have := unlike_len f0 f1 f2; omega)) (fun _ => by unfold N2 J2; rfl) (fun _ => by unfold N2; rfl))) (.inl (by kernel_rfl)) (fun _ _ => ?_)
            refine Wr.imp (L' := (storeW b4 (N2 f0 f1 f2 g0 g1 g2).d.1) :: (pt b29 33 [Value.int .i64 (((J1 f0 f1).2.1 : Nat) : Int), Value.int .i64 (((N1 f0 f1 f2).e.2.1 : Nat) : Int), Value.int .i64 (((N1 f0 f1 f2).a.2.1 : Nat) : Int), Value.int .i64 (((N1 f0 f1 f2).b.2.1 : Nat) : Int), Value.int .i64 (((N1 f0 f1 f2).c.2.1 : Nat) : Int), Value.int .i64 (((N1 f0 f1 f2).d.2.1 : Nat) : Int)]) :: (pt b7 3 [Value.int .i64 (pk g0 0), Value.int .i64 (pk g1 1), Value.int .i64 (pk g2 2)]) :: (pt b6 3 [Value.int .i64 (pk f0 0), Value.int .i64 (pk f1 1), Value.int .i64 (pk f2 2)]) :: (pt b2 22 [Value.bool g0, Value.bool g1, Value.bool g2]) :: (pt b1 22 [Value.bool f0, Value.bool f1, Value.bool f2]) :: F) (fun _ h => h) ?_
            refine Wr.rebaseS [15] ((storeW b4 (N2 f0 f1 f2 g0 g1 g2).d.1) :: (pt b29 33 [Value.int .i64 (((J1 f0 f1).2.1 : Nat) : Int), Value.int .i64 (((N1 f0 f1 f2).e.2.1 : Nat) : Int), Value.int .i64 (((N1 f0 f1 f2).a.2.1 : Nat) : Int), Value.int .i64 (((N1 f0 f1 f2).b.2.1 : Nat) : Int), Value.int .i64 (((N1 f0 f1 f2).c.2.1 : Nat) : Int), Value.int .i64 (((N1 f0 f1 f2).d.2.1 : Nat) : Int)]) :: (pt b7 3 [Value.int .i64 (pk g0 0), Value.int .i64 (pk g1 1), Value.int .i64 (pk g2 2)]) :: (pt b6 3 [Value.int .i64 (pk f0 0), Value.int .i64 (pk f1 1), Value.int .i64 (pk f2 2)]) :: (pt b2 22 [Value.bool g0, Value.bool g1, Value.bool g2]) :: (pt b1 22 [Value.bool f0, Value.bool f1, Value.bool f2]) :: []) (by kernel_rfl) ?_
            refine Wr.pure (v := Value.tuple #[Value.agg #[Value.int .i64 (((J2 f0 f1 f2 g0 g1).2.1 : Nat) : Int), Value.int .i64 (((N2 f0 f1 f2 g0 g1 g2).e.2.1 : Nat) : Int), Value.int .i64 (((N2 f0 f1 f2 g0 g1 g2).a.2.1 : Nat) : Int), Value.int .i64 (((N2 f0 f1 f2 g0 g1 g2).b.2.1 : Nat) : Int), Value.int .i64 (((N2 f0 f1 f2 g0 g1 g2).c.2.1 : Nat) : Int), Value.int .i64 (((N2 f0 f1 f2 g0 g1 g2).d.2.1 : Nat) : Int)], Value.int .i64 0]) 11 rfl (by kernel_rfl) (.inr (fun _ h => st_take [0, 0, 0, 0, 0, 0] h)) (.inl ⟨rfl, fun _ => q_move rfl⟩) ?_
            refine Wr.pure (v := Value.agg #[Value.int .i64 (((J2 f0 f1 f2 g0 g1).2.1 : Nat) : Int), Value.int .i64 (((N2 f0 f1 f2 g0 g1 g2).e.2.1 : Nat) : Int), Value.int .i64 (((N2 f0 f1 f2 g0 g1 g2).a.2.1 : Nat) : Int), Value.int .i64 (((N2 f0 f1 f2 g0 g1 g2).b.2.1 : Nat) : Int), Value.int .i64 (((N2 f0 f1 f2 g0 g1 g2).c.2.1 : Nat) : Int), Value.int .i64 (((N2 f0 f1 f2 g0 g1 g2).d.2.1 : Nat) : Int)]) 12 rfl (by kernel_rfl) (.inr (fun _ h => st_take [0, 0, 0, 0, 0, 0] h)) (.inl ⟨rfl, fun _ => q_extract (i := 0) rfl rfl⟩) ?_
            refine Wr.pure (v := Value.int .i64 0) 13 rfl (by kernel_rfl) (.inr (fun _ h => st_take [0, 0, 0, 0, 0, 0] h)) (.inl ⟨rfl, fun _ => q_extract (i := 1) rfl rfl⟩) ?_
            refine Wr.e 14 (by kernel_rfl) rfl (e_alloc (vs := [Value.int .i64 0, Value.int .i64 0, Value.int .i64 0, Value.int .i64 0, Value.int .i64 0, Value.int .i64 0]) zo_33 rfl) (.inr fun _ _ _ h => st_take [1, 1, 1, 1, 1, 1] h) (fun b30 _ => ?_)
            refine Wr.more (S' := (pt b30 33 [Value.int .i64 0, Value.int .i64 0, Value.int .i64 0, Value.int .i64 0, Value.int .i64 0, Value.int .i64 0]) :: (storeW b4 (N2 f0 f1 f2 g0 g1 g2).d.1) :: (pt b29 33 [Value.int .i64 (((J1 f0 f1).2.1 : Nat) : Int), Value.int .i64 (((N1 f0 f1 f2).e.2.1 : Nat) : Int), Value.int .i64 (((N1 f0 f1 f2).a.2.1 : Nat) : Int), Value.int .i64 (((N1 f0 f1 f2).b.2.1 : Nat) : Int), Value.int .i64 (((N1 f0 f1 f2).c.2.1 : Nat) : Int), Value.int .i64 (((N1 f0 f1 f2).d.2.1 : Nat) : Int)]) :: (pt b7 3 [Value.int .i64 (pk g0 0), Value.int .i64 (pk g1 1), Value.int .i64 (pk g2 2)]) :: (pt b6 3 [Value.int .i64 (pk f0 0), Value.int .i64 (pk f1 1), Value.int .i64 (pk f2 2)]) :: (pt b2 22 [Value.bool g0, Value.bool g1, Value.bool g2]) :: (pt b1 22 [Value.bool f0, Value.bool f1, Value.bool f2]) :: []) (fun _ h => st_drop h) ?_
            refine Wr.e 15 (by kernel_rfl) rfl (e_storeAgg (i := 0) (vs := [Value.int .i64 (((J2 f0 f1 f2 g0 g1).2.1 : Nat) : Int), Value.int .i64 (((N2 f0 f1 f2 g0 g1 g2).e.2.1 : Nat) : Int), Value.int .i64 (((N2 f0 f1 f2 g0 g1 g2).a.2.1 : Nat) : Int), Value.int .i64 (((N2 f0 f1 f2 g0 g1 g2).b.2.1 : Nat) : Int), Value.int .i64 (((N2 f0 f1 f2 g0 g1 g2).c.2.1 : Nat) : Int), Value.int .i64 (((N2 f0 f1 f2 g0 g1 g2).d.2.1 : Nat) : Int)]) (c' := [Value.int .i64 (((J2 f0 f1 f2 g0 g1).2.1 : Nat) : Int), Value.int .i64 (((N2 f0 f1 f2 g0 g1 g2).e.2.1 : Nat) : Int), Value.int .i64 (((N2 f0 f1 f2 g0 g1 g2).a.2.1 : Nat) : Int), Value.int .i64 (((N2 f0 f1 f2 g0 g1 g2).b.2.1 : Nat) : Int), Value.int .i64 (((N2 f0 f1 f2 g0 g1 g2).c.2.1 : Nat) : Int), Value.int .i64 (((N2 f0 f1 f2 g0 g1 g2).d.2.1 : Nat) : Int)]) sz_33 rfl rfl rfl rfl (by simp) rfl) (.inl (by kernel_rfl)) (fun _ _ => ?_)
            refine Wr.imp (L' := (pt b30 33 [Value.int .i64 (((J2 f0 f1 f2 g0 g1).2.1 : Nat) : Int), Value.int .i64 (((N2 f0 f1 f2 g0 g1 g2).e.2.1 : Nat) : Int), Value.int .i64 (((N2 f0 f1 f2 g0 g1 g2).a.2.1 : Nat) : Int), Value.int .i64 (((N2 f0 f1 f2 g0 g1 g2).b.2.1 : Nat) : Int), Value.int .i64 (((N2 f0 f1 f2 g0 g1 g2).c.2.1 : Nat) : Int), Value.int .i64 (((N2 f0 f1 f2 g0 g1 g2).d.2.1 : Nat) : Int)]) :: (storeW b4 (N2 f0 f1 f2 g0 g1 g2).d.1) :: (pt b29 33 [Value.int .i64 (((J1 f0 f1).2.1 : Nat) : Int), Value.int .i64 (((N1 f0 f1 f2).e.2.1 : Nat) : Int), Value.int .i64 (((N1 f0 f1 f2).a.2.1 : Nat) : Int), Value.int .i64 (((N1 f0 f1 f2).b.2.1 : Nat) : Int), Value.int .i64 (((N1 f0 f1 f2).c.2.1 : Nat) : Int), Value.int .i64 (((N1 f0 f1 f2).d.2.1 : Nat) : Int)]) :: (pt b7 3 [Value.int .i64 (pk g0 0), Value.int .i64 (pk g1 1), Value.int .i64 (pk g2 2)]) :: (pt b6 3 [Value.int .i64 (pk f0 0), Value.int .i64 (pk f1 1), Value.int .i64 (pk f2 2)]) :: (pt b2 22 [Value.bool g0, Value.bool g1, Value.bool g2]) :: (pt b1 22 [Value.bool f0, Value.bool f1, Value.bool f2]) :: F) (fun _ h => h) ?_
            refine Wr.rebaseS [] ((pt b30 33 [Value.int .i64 (((J2 f0 f1 f2 g0 g1).2.1 : Nat) : Int), Value.int .i64 (((N2 f0 f1 f2 g0 g1 g2).e.2.1 : Nat) : Int), Value.int .i64 (((N2 f0 f1 f2 g0 g1 g2).a.2.1 : Nat) : Int), Value.int .i64 (((N2 f0 f1 f2 g0 g1 g2).b.2.1 : Nat) : Int), Value.int .i64 (((N2 f0 f1 f2 g0 g1 g2).c.2.1 : Nat) : Int), Value.int .i64 (((N2 f0 f1 f2 g0 g1 g2).d.2.1 : Nat) : Int)]) :: (storeW b4 (N2 f0 f1 f2 g0 g1 g2).d.1) :: (pt b29 33 [Value.int .i64 (((J1 f0 f1).2.1 : Nat) : Int), Value.int .i64 (((N1 f0 f1 f2).e.2.1 : Nat) : Int), Value.int .i64 (((N1 f0 f1 f2).a.2.1 : Nat) : Int), Value.int .i64 (((N1 f0 f1 f2).b.2.1 : Nat) : Int), Value.int .i64 (((N1 f0 f1 f2).c.2.1 : Nat) : Int), Value.int .i64 (((N1 f0 f1 f2).d.2.1 : Nat) : Int)]) :: (pt b7 3 [Value.int .i64 (pk g0 0), Value.int .i64 (pk g1 1), Value.int .i64 (pk g2 2)]) :: (pt b6 3 [Value.int .i64 (pk f0 0), Value.int .i64 (pk f1 1), Value.int .i64 (pk f2 2)]) :: (pt b2 22 [Value.bool g0, Value.bool g1, Value.bool g2]) :: (pt b1 22 [Value.bool f0, Value.bool f1, Value.bool f2]) :: []) (by kernel_rfl) ?_
            refine Wr.pure (v := Value.int .i64 0) 16 rfl (by kernel_rfl) (.inr (fun _ h => st_take [0, 0, 0, 0, 0, 0, 0] h)) (.inl ⟨rfl, fun _ => q_assign rfl⟩) ?_
            refine Wr.done (by kernel_rfl) ?_
            refine Wx.go ?_
            refine Wc.seq ?_
            refine Wc.seq ?_
            refine Wc.region ?_
            refine Wl.q (v := Value.int .i64 0) (q_move rfl) ?_
            refine Wl.q (v := Value.bool false) (q_neq (r := true) rfl rfl (decide_eq_true (by decide))) ?_
            refine Wl.q (v := Value.bool false) (q_move rfl) ?_
            refine Wl.q (v := Value.int .i64 0) (q_move rfl) ?_
            refine Wl.q (v := Value.bool false) (q_neq (r := true) rfl rfl (decide_eq_true (by decide))) ?_
            refine Wl.q (v := Value.bool false) (q_pick (t := false) rfl rfl) ?_
            refine Wl.done ?_
            refine Wx.go ?_
            refine Wc.no rfl ?_
            refine Wc.skip ?_
            refine Wx.go ?_
            refine Wc.seq ?_
            refine Wc.drawsS [52] ((pt b30 33 [Value.int .i64 (((J2 f0 f1 f2 g0 g1).2.1 : Nat) : Int), Value.int .i64 (((N2 f0 f1 f2 g0 g1 g2).e.2.1 : Nat) : Int), Value.int .i64 (((N2 f0 f1 f2 g0 g1 g2).a.2.1 : Nat) : Int), Value.int .i64 (((N2 f0 f1 f2 g0 g1 g2).b.2.1 : Nat) : Int), Value.int .i64 (((N2 f0 f1 f2 g0 g1 g2).c.2.1 : Nat) : Int), Value.int .i64 (((N2 f0 f1 f2 g0 g1 g2).d.2.1 : Nat) : Int)]) :: (storeW b4 (N2 f0 f1 f2 g0 g1 g2).d.1) :: (pt b29 33 [Value.int .i64 (((J1 f0 f1).2.1 : Nat) : Int), Value.int .i64 (((N1 f0 f1 f2).e.2.1 : Nat) : Int), Value.int .i64 (((N1 f0 f1 f2).a.2.1 : Nat) : Int), Value.int .i64 (((N1 f0 f1 f2).b.2.1 : Nat) : Int), Value.int .i64 (((N1 f0 f1 f2).c.2.1 : Nat) : Int), Value.int .i64 (((N1 f0 f1 f2).d.2.1 : Nat) : Int)]) :: (pt b7 3 [Value.int .i64 (pk g0 0), Value.int .i64 (pk g1 1), Value.int .i64 (pk g2 2)]) :: (pt b6 3 [Value.int .i64 (pk f0 0), Value.int .i64 (pk f1 1), Value.int .i64 (pk f2 2)]) :: (pt b2 22 [Value.bool g0, Value.bool g1, Value.bool g2]) :: (pt b1 22 [Value.bool f0, Value.bool f1, Value.bool f2]) :: []) (by kernel_rfl) ?_
            refine Wr.pure (v := Value.pointer (some ⟨b29, 1, none⟩)) 0 rfl (by kernel_rfl) (.inr (fun _ h => st_take [0, 0, 0, 0, 0, 0, 0] h)) (.inl ⟨rfl, fun _ => q_field (m := 1) fo_33_1 rfl rfl⟩) ?_
            refine Wr.take (v := Value.int .i64 (((N1 f0 f1 f2).e.2.1 : Nat) : Int)) 1 rfl (by kernel_rfl) (fun _ h => st_take [0, 0, 0, 0, 0, 0, 0] h) (.inl ⟨rfl, q_load sc_3 rfl (.cel (i := 2) rfl rfl)⟩) ?_
            refine Wr.pure (v := Value.pointer (some ⟨b30, 1, none⟩)) 2 rfl (by kernel_rfl) (.inr (fun _ h => st_take [0, 0, 0, 0, 0, 0, 0] h)) (.inl ⟨rfl, fun _ => q_field (m := 1) fo_33_1 rfl rfl⟩) ?_
            refine Wr.take (v := Value.int .i64 (((N2 f0 f1 f2 g0 g1 g2).e.2.1 : Nat) : Int)) 3 rfl (by kernel_rfl) (fun _ h => st_take [0, 0, 0, 0, 0, 0, 0] h) (.inl ⟨rfl, q_load sc_3 rfl (.cel (i := 0) rfl rfl)⟩) ?_
            refine Wr.pure (v := Value.bool (decide ((((N1 f0 f1 f2).e.2.1 : Nat) : Int) = (((N2 f0 f1 f2 g0 g1 g2).e.2.1 : Nat) : Int)))) 4 rfl (by kernel_rfl) (.inr (fun _ h => st_take [0, 0, 0, 0, 0, 0, 0] h)) (.inl ⟨rfl, fun _ => q_eql rfl rfl rfl⟩) ?_
            refine Wr.take (v := Value.agg #[Value.bool f0, Value.bool f1, Value.bool f2]) 5 rfl (by kernel_rfl) (fun _ h => st_take [0, 0, 0, 0, 0, 0, 0] h) (.inl ⟨rfl, q_loadAgg (vs := [Value.bool f0, Value.bool f1, Value.bool f2]) ag_22 hE2_23 (Has.of_pt (i := 6) rfl rfl)⟩) ?_
            refine Wr.take (v := Value.agg #[Value.bool g0, Value.bool g1, Value.bool g2]) 6 rfl (by kernel_rfl) (fun _ h => st_take [0, 0, 0, 0, 0, 0, 0] h) (.inl ⟨rfl, q_loadAgg (vs := [Value.bool g0, Value.bool g1, Value.bool g2]) ag_22 hE3_23 (Has.of_pt (i := 5) rfl rfl)⟩) ?_
            refine Wr.pure (v := Value.bool (f0 == g0 && (f1 == g1 && f2 == g2))) 7 rfl (by kernel_rfl) (.inr (fun _ h => st_take [0, 0, 0, 0, 0, 0, 0] h)) (.inl ⟨rfl, fun _ => q_eql_agg (r := (f0 == g0 && (f1 == g1 && f2 == g2))) rfl rfl eg_22 (eqB3 f0 f1 f2 g0 g1 g2)⟩) ?_
            refine Wr.pure (v := Value.bool true) 8 rfl (by kernel_rfl) (.inr (fun _ h => st_take [0, 0, 0, 0, 0, 0, 0] h)) (.inl ⟨rfl, fun _ => q_eql_bool (r := true) rfl rfl Tryd.underlying4 (beq_iff_eq.2 (unlike_e f0 f1 f2 g0 g1 g2))⟩) ?_
            refine Wr.pure (v := Value.bool true) 9 rfl (by kernel_rfl) (.inr (fun _ h => st_take [0, 0, 0, 0, 0, 0, 0] h)) (.inl ⟨rfl, fun _ => q_move rfl⟩) ?_
            refine Wr.pure (v := Value.pointer (some ⟨b29, 2, none⟩)) 10 rfl (by kernel_rfl) (.inr (fun _ h => st_take [0, 0, 0, 0, 0, 0, 0] h)) (.inl ⟨rfl, fun _ => q_field (m := 2) fo_33_2 rfl rfl⟩) ?_
            refine Wr.take (v := Value.int .i64 (((N1 f0 f1 f2).a.2.1 : Nat) : Int)) 11 rfl (by kernel_rfl) (fun _ h => st_take [0, 0, 0, 0, 0, 0, 0] h) (.inl ⟨rfl, q_load sc_3 rfl (.cel (i := 2) rfl rfl)⟩) ?_
            refine Wr.pure (v := Value.pointer (some ⟨b30, 2, none⟩)) 12 rfl (by kernel_rfl) (.inr (fun _ h => st_take [0, 0, 0, 0, 0, 0, 0] h)) (.inl ⟨rfl, fun _ => q_field (m := 2) fo_33_2 rfl rfl⟩) ?_
            refine Wr.take (v := Value.int .i64 (((N2 f0 f1 f2 g0 g1 g2).a.2.1 : Nat) : Int)) 13 rfl (by kernel_rfl) (fun _ h => st_take [0, 0, 0, 0, 0, 0, 0] h) (.inl ⟨rfl, q_load sc_3 rfl (.cel (i := 0) rfl rfl)⟩) ?_
            refine Wr.pure (v := Value.bool (decide ((((N1 f0 f1 f2).a.2.1 : Nat) : Int) = (((N2 f0 f1 f2 g0 g1 g2).a.2.1 : Nat) : Int)))) 14 rfl (by kernel_rfl) (.inr (fun _ h => st_take [0, 0, 0, 0, 0, 0, 0] h)) (.inl ⟨rfl, fun _ => q_eql rfl rfl rfl⟩) ?_
            refine Wr.take (v := Value.agg #[Value.bool f0, Value.bool f1, Value.bool f2]) 15 rfl (by kernel_rfl) (fun _ h => st_take [0, 0, 0, 0, 0, 0, 0] h) (.inl ⟨rfl, q_loadAgg (vs := [Value.bool f0, Value.bool f1, Value.bool f2]) ag_22 hE2_23 (Has.of_pt (i := 6) rfl rfl)⟩) ?_
            refine Wr.take (v := Value.agg #[Value.bool g0, Value.bool g1, Value.bool g2]) 16 rfl (by kernel_rfl) (fun _ h => st_take [0, 0, 0, 0, 0, 0, 0] h) (.inl ⟨rfl, q_loadAgg (vs := [Value.bool g0, Value.bool g1, Value.bool g2]) ag_22 hE3_23 (Has.of_pt (i := 5) rfl rfl)⟩) ?_
            refine Wr.pure (v := Value.bool (f0 == g0 && (f1 == g1 && f2 == g2))) 17 rfl (by kernel_rfl) (.inr (fun _ h => st_take [0, 0, 0, 0, 0, 0, 0] h)) (.inl ⟨rfl, fun _ => q_eql_agg (r := (f0 == g0 && (f1 == g1 && f2 == g2))) rfl rfl eg_22 (eqB3 f0 f1 f2 g0 g1 g2)⟩) ?_
            refine Wr.pure (v := Value.bool true) 18 rfl (by kernel_rfl) (.inr (fun _ h => st_take [0, 0, 0, 0, 0, 0, 0] h)) (.inl ⟨rfl, fun _ => q_eql_bool (r := true) rfl rfl Tryd.underlying4 (beq_iff_eq.2 (unlike_a f0 f1 f2 g0 g1 g2))⟩) ?_
            refine Wr.pure (v := Value.bool true) 19 rfl (by kernel_rfl) (.inr (fun _ h => st_take [0, 0, 0, 0, 0, 0, 0] h)) (.inl ⟨rfl, fun _ => q_pick (t := true) rfl rfl⟩) ?_
            refine Wr.pure (v := Value.bool true) 20 rfl (by kernel_rfl) (.inr (fun _ h => st_take [0, 0, 0, 0, 0, 0, 0] h)) (.inl ⟨rfl, fun _ => q_move rfl⟩) ?_
            refine Wr.pure (v := Value.pointer (some ⟨b29, 5, none⟩)) 21 rfl (by kernel_rfl) (.inr (fun _ h => st_take [0, 0, 0, 0, 0, 0, 0] h)) (.inl ⟨rfl, fun _ => q_field (m := 5) fo_33_5 rfl rfl⟩) ?_
            refine Wr.take (v := Value.int .i64 (((N1 f0 f1 f2).d.2.1 : Nat) : Int)) 22 rfl (by kernel_rfl) (fun _ h => st_take [0, 0, 0, 0, 0, 0, 0] h) (.inl ⟨rfl, q_load sc_3 rfl (.cel (i := 2) rfl rfl)⟩) ?_
            refine Wr.pure (v := Value.pointer (some ⟨b30, 5, none⟩)) 23 rfl (by kernel_rfl) (.inr (fun _ h => st_take [0, 0, 0, 0, 0, 0, 0] h)) (.inl ⟨rfl, fun _ => q_field (m := 5) fo_33_5 rfl rfl⟩) ?_
            refine Wr.take (v := Value.int .i64 (((N2 f0 f1 f2 g0 g1 g2).d.2.1 : Nat) : Int)) 24 rfl (by kernel_rfl) (fun _ h => st_take [0, 0, 0, 0, 0, 0, 0] h) (.inl ⟨rfl, q_load sc_3 rfl (.cel (i := 0) rfl rfl)⟩) ?_
            refine Wr.pure (v := Value.bool (decide ((((N1 f0 f1 f2).d.2.1 : Nat) : Int) = (((N2 f0 f1 f2 g0 g1 g2).d.2.1 : Nat) : Int)))) 25 rfl (by kernel_rfl) (.inr (fun _ h => st_take [0, 0, 0, 0, 0, 0, 0] h)) (.inl ⟨rfl, fun _ => q_eql rfl rfl rfl⟩) ?_
            refine Wr.take (v := Value.agg #[Value.bool f0, Value.bool f1, Value.bool f2]) 26 rfl (by kernel_rfl) (fun _ h => st_take [0, 0, 0, 0, 0, 0, 0] h) (.inl ⟨rfl, q_loadAgg (vs := [Value.bool f0, Value.bool f1, Value.bool f2]) ag_22 hE2_23 (Has.of_pt (i := 6) rfl rfl)⟩) ?_
            refine Wr.take (v := Value.agg #[Value.bool g0, Value.bool g1, Value.bool g2]) 27 rfl (by kernel_rfl) (fun _ h => st_take [0, 0, 0, 0, 0, 0, 0] h) (.inl ⟨rfl, q_loadAgg (vs := [Value.bool g0, Value.bool g1, Value.bool g2]) ag_22 hE3_23 (Has.of_pt (i := 5) rfl rfl)⟩) ?_
            refine Wr.pure (v := Value.bool (f0 == g0 && (f1 == g1 && f2 == g2))) 28 rfl (by kernel_rfl) (.inr (fun _ h => st_take [0, 0, 0, 0, 0, 0, 0] h)) (.inl ⟨rfl, fun _ => q_eql_agg (r := (f0 == g0 && (f1 == g1 && f2 == g2))) rfl rfl eg_22 (eqB3 f0 f1 f2 g0 g1 g2)⟩) ?_
            refine Wr.pure (v := Value.bool true) 29 rfl (by kernel_rfl) (.inr (fun _ h => st_take [0, 0, 0, 0, 0, 0, 0] h)) (.inl ⟨rfl, fun _ => q_eql_bool (r := true) rfl rfl Tryd.underlying4 (beq_iff_eq.2 (unlike_d f0 f1 f2 g0 g1 g2))⟩) ?_
            refine Wr.pure (v := Value.bool true) 30 rfl (by kernel_rfl) (.inr (fun _ h => st_take [0, 0, 0, 0, 0, 0, 0] h)) (.inl ⟨rfl, fun _ => q_pick (t := true) rfl rfl⟩) ?_
            refine Wr.pure (v := Value.bool true) 31 rfl (by kernel_rfl) (.inr (fun _ h => st_take [0, 0, 0, 0, 0, 0, 0] h)) (.inl ⟨rfl, fun _ => q_move rfl⟩) ?_
            refine Wr.pure (v := Value.pointer (some ⟨b29, 0, none⟩)) 32 rfl (by kernel_rfl) (.inr (fun _ h => st_take [0, 0, 0, 0, 0, 0, 0] h)) (.inl ⟨rfl, fun _ => q_field (m := 0) fo_33_0 rfl rfl⟩) ?_
            refine Wr.take (v := Value.int .i64 (((J1 f0 f1).2.1 : Nat) : Int)) 33 rfl (by kernel_rfl) (fun _ h => st_take [0, 0, 0, 0, 0, 0, 0] h) (.inl ⟨rfl, q_load sc_3 rfl (.cel (i := 2) rfl rfl)⟩) ?_
            refine Wr.pure (v := Value.pointer (some ⟨b30, 0, none⟩)) 34 rfl (by kernel_rfl) (.inr (fun _ h => st_take [0, 0, 0, 0, 0, 0, 0] h)) (.inl ⟨rfl, fun _ => q_field (m := 0) fo_33_0 rfl rfl⟩) ?_
            refine Wr.take (v := Value.int .i64 (((J2 f0 f1 f2 g0 g1).2.1 : Nat) : Int)) 35 rfl (by kernel_rfl) (fun _ h => st_take [0, 0, 0, 0, 0, 0, 0] h) (.inl ⟨rfl, q_load sc_3 rfl (.cel (i := 0) rfl rfl)⟩) ?_
            refine Wr.pure (v := Value.bool (decide ((((J1 f0 f1).2.1 : Nat) : Int) = (((J2 f0 f1 f2 g0 g1).2.1 : Nat) : Int)))) 36 rfl (by kernel_rfl) (.inr (fun _ h => st_take [0, 0, 0, 0, 0, 0, 0] h)) (.inl ⟨rfl, fun _ => q_eql rfl rfl rfl⟩) ?_
            refine Wr.pure (v := Value.pointer (some ⟨b1, 0, none⟩)) 37 rfl (by kernel_rfl) (.inr (fun _ h => st_take [0, 0, 0, 0, 0, 0, 0] h)) (.inl ⟨rfl, fun _ => q_idx_arr (m := 0) Tryd.underlying22 sz_4 hE2_23 rfl (by decide) (by decide) rfl⟩) ?_
            refine Wr.take (v := Value.bool f0) 38 rfl (by kernel_rfl) (fun _ h => st_take [0, 0, 0, 0, 0, 0, 0] h) (.inl ⟨rfl, q_load sc_4 rfl (.cel (i := 6) rfl rfl)⟩) ?_
            refine Wr.pure (v := Value.pointer (some ⟨b2, 0, none⟩)) 39 rfl (by kernel_rfl) (.inr (fun _ h => st_take [0, 0, 0, 0, 0, 0, 0] h)) (.inl ⟨rfl, fun _ => q_idx_arr (m := 0) Tryd.underlying22 sz_4 hE3_23 rfl (by decide) (by decide) rfl⟩) ?_
            refine Wr.take (v := Value.bool g0) 40 rfl (by kernel_rfl) (fun _ h => st_take [0, 0, 0, 0, 0, 0, 0] h) (.inl ⟨rfl, q_load sc_4 rfl (.cel (i := 5) rfl rfl)⟩) ?_
            by_cases hab : f0 = g0
            ·
              refine Wr.pure (v := Value.bool true) 41 rfl (by kernel_rfl) (.inr (fun _ h => st_take [0, 0, 0, 0, 0, 0, 0] h)) (.inl ⟨rfl, fun _ => q_eql_bool (r := true) rfl rfl Tryd.underlying4 (beq_iff_eq.2 hab)⟩) ?_
              refine Wr.pure (v := Value.bool true) 42 rfl (by kernel_rfl) (.inr (fun _ h => st_take [0, 0, 0, 0, 0, 0, 0] h)) (.inl ⟨rfl, fun _ => q_move rfl⟩) ?_
              refine Wr.pure (v := Value.pointer (some ⟨b1, 1, none⟩)) 43 rfl (by kernel_rfl) (.inr (fun _ h => st_take [0, 0, 0, 0, 0, 0, 0] h)) (.inl ⟨rfl, fun _ => q_idx_arr (m := 1) Tryd.underlying22 sz_4 hE2_23 rfl (by decide) (by decide) rfl⟩) ?_
              refine Wr.take (v := Value.bool f1) 44 rfl (by kernel_rfl) (fun _ h => st_take [0, 0, 0, 0, 0, 0, 0] h) (.inl ⟨rfl, q_load sc_4 rfl (.cel (i := 6) rfl rfl)⟩) ?_
              refine Wr.pure (v := Value.pointer (some ⟨b2, 1, none⟩)) 45 rfl (by kernel_rfl) (.inr (fun _ h => st_take [0, 0, 0, 0, 0, 0, 0] h)) (.inl ⟨rfl, fun _ => q_idx_arr (m := 1) Tryd.underlying22 sz_4 hE3_23 rfl (by decide) (by decide) rfl⟩) ?_
              refine Wr.take (v := Value.bool g1) 46 rfl (by kernel_rfl) (fun _ h => st_take [0, 0, 0, 0, 0, 0, 0] h) (.inl ⟨rfl, q_load sc_4 rfl (.cel (i := 5) rfl rfl)⟩) ?_
              refine Wr.pure (v := Value.bool (f1 == g1)) 47 rfl (by kernel_rfl) (.inr (fun _ h => st_take [0, 0, 0, 0, 0, 0, 0] h)) (.inl ⟨rfl, fun _ => q_eql_bool (r := (f1 == g1)) rfl rfl Tryd.underlying4 rfl⟩) ?_
              refine Wr.pure (v := Value.bool (f1 == g1)) 48 rfl (by kernel_rfl) (.inr (fun _ h => st_take [0, 0, 0, 0, 0, 0, 0] h)) (.inl ⟨rfl, fun _ => q_pick (t := true) rfl rfl⟩) ?_
              refine Wr.pure (v := Value.bool true) 49 rfl (by kernel_rfl) (.inr (fun _ h => st_take [0, 0, 0, 0, 0, 0, 0] h)) (.inl ⟨rfl, fun _ => q_eql_bool (r := true) rfl rfl Tryd.underlying4 (beq_iff_eq.2 ((by rw [unlike_j f0 f1 f2 g0 g1 g2]; simp [hab])))⟩) ?_
              refine Wr.pure (v := Value.bool true) 50 rfl (by kernel_rfl) (.inr (fun _ h => st_take [0, 0, 0, 0, 0, 0, 0] h)) (.inl ⟨rfl, fun _ => q_pick (t := true) rfl rfl⟩) ?_
              refine Wr.pure (v := Value.bool true) 51 rfl (by kernel_rfl) (.inr (fun _ h => st_take [0, 0, 0, 0, 0, 0, 0] h)) (.inl ⟨rfl, fun _ => q_move rfl⟩) ?_
              refine Wr.e 52 (by kernel_rfl) rfl (e_call (F := (pt b30 33 [Value.int .i64 (((J2 f0 f1 f2 g0 g1).2.1 : Nat) : Int), Value.int .i64 (((N2 f0 f1 f2 g0 g1 g2).e.2.1 : Nat) : Int), Value.int .i64 (((N2 f0 f1 f2 g0 g1 g2).a.2.1 : Nat) : Int), Value.int .i64 (((N2 f0 f1 f2 g0 g1 g2).b.2.1 : Nat) : Int), Value.int .i64 (((N2 f0 f1 f2 g0 g1 g2).c.2.1 : Nat) : Int), Value.int .i64 (((N2 f0 f1 f2 g0 g1 g2).d.2.1 : Nat) : Int)]) :: (storeW b4 (N2 f0 f1 f2 g0 g1 g2).d.1) :: (pt b29 33 [Value.int .i64 (((J1 f0 f1).2.1 : Nat) : Int), Value.int .i64 (((N1 f0 f1 f2).e.2.1 : Nat) : Int), Value.int .i64 (((N1 f0 f1 f2).a.2.1 : Nat) : Int), Value.int .i64 (((N1 f0 f1 f2).b.2.1 : Nat) : Int), Value.int .i64 (((N1 f0 f1 f2).c.2.1 : Nat) : Int), Value.int .i64 (((N1 f0 f1 f2).d.2.1 : Nat) : Int)]) :: (pt b7 3 [Value.int .i64 (pk g0 0), Value.int .i64 (pk g1 1), Value.int .i64 (pk g2 2)]) :: (pt b6 3 [Value.int .i64 (pk f0 0), Value.int .i64 (pk f1 1), Value.int .i64 (pk f2 2)]) :: (pt b2 22 [Value.bool g0, Value.bool g1, Value.bool g2]) :: (pt b1 22 [Value.bool f0, Value.bool f1, Value.bool f2]) :: F) (args := []) Tryd.call7 rfl (au1_lives W0)) (.inl (by kernel_rfl)) (fun _ _ => ?_)
              refine Wr.imp (L' := (pt b30 33 [Value.int .i64 (((J2 f0 f1 f2 g0 g1).2.1 : Nat) : Int), Value.int .i64 (((N2 f0 f1 f2 g0 g1 g2).e.2.1 : Nat) : Int), Value.int .i64 (((N2 f0 f1 f2 g0 g1 g2).a.2.1 : Nat) : Int), Value.int .i64 (((N2 f0 f1 f2 g0 g1 g2).b.2.1 : Nat) : Int), Value.int .i64 (((N2 f0 f1 f2 g0 g1 g2).c.2.1 : Nat) : Int), Value.int .i64 (((N2 f0 f1 f2 g0 g1 g2).d.2.1 : Nat) : Int)]) :: (storeW b4 (N2 f0 f1 f2 g0 g1 g2).d.1) :: (pt b29 33 [Value.int .i64 (((J1 f0 f1).2.1 : Nat) : Int), Value.int .i64 (((N1 f0 f1 f2).e.2.1 : Nat) : Int), Value.int .i64 (((N1 f0 f1 f2).a.2.1 : Nat) : Int), Value.int .i64 (((N1 f0 f1 f2).b.2.1 : Nat) : Int), Value.int .i64 (((N1 f0 f1 f2).c.2.1 : Nat) : Int), Value.int .i64 (((N1 f0 f1 f2).d.2.1 : Nat) : Int)]) :: (pt b7 3 [Value.int .i64 (pk g0 0), Value.int .i64 (pk g1 1), Value.int .i64 (pk g2 2)]) :: (pt b6 3 [Value.int .i64 (pk f0 0), Value.int .i64 (pk f1 1), Value.int .i64 (pk f2 2)]) :: (pt b2 22 [Value.bool g0, Value.bool g1, Value.bool g2]) :: (pt b1 22 [Value.bool f0, Value.bool f1, Value.bool f2]) :: F) (fun _ h => h) ?_
              refine Wr.rebaseS [] ((pt b30 33 [Value.int .i64 (((J2 f0 f1 f2 g0 g1).2.1 : Nat) : Int), Value.int .i64 (((N2 f0 f1 f2 g0 g1 g2).e.2.1 : Nat) : Int), Value.int .i64 (((N2 f0 f1 f2 g0 g1 g2).a.2.1 : Nat) : Int), Value.int .i64 (((N2 f0 f1 f2 g0 g1 g2).b.2.1 : Nat) : Int), Value.int .i64 (((N2 f0 f1 f2 g0 g1 g2).c.2.1 : Nat) : Int), Value.int .i64 (((N2 f0 f1 f2 g0 g1 g2).d.2.1 : Nat) : Int)]) :: (storeW b4 (N2 f0 f1 f2 g0 g1 g2).d.1) :: (pt b29 33 [Value.int .i64 (((J1 f0 f1).2.1 : Nat) : Int), Value.int .i64 (((N1 f0 f1 f2).e.2.1 : Nat) : Int), Value.int .i64 (((N1 f0 f1 f2).a.2.1 : Nat) : Int), Value.int .i64 (((N1 f0 f1 f2).b.2.1 : Nat) : Int), Value.int .i64 (((N1 f0 f1 f2).c.2.1 : Nat) : Int), Value.int .i64 (((N1 f0 f1 f2).d.2.1 : Nat) : Int)]) :: (pt b7 3 [Value.int .i64 (pk g0 0), Value.int .i64 (pk g1 1), Value.int .i64 (pk g2 2)]) :: (pt b6 3 [Value.int .i64 (pk f0 0), Value.int .i64 (pk f1 1), Value.int .i64 (pk f2 2)]) :: (pt b2 22 [Value.bool g0, Value.bool g1, Value.bool g2]) :: (pt b1 22 [Value.bool f0, Value.bool f1, Value.bool f2]) :: []) (by kernel_rfl) ?_
              refine Wr.pure (v := Value.bool true) 53 rfl (by kernel_rfl) (.inr (fun _ h => st_take [0, 0, 0, 0, 0, 0, 0] h)) (.inl ⟨rfl, fun _ => q_pick (t := true) rfl rfl⟩) ?_
              refine Wr.pure (v := Value.bool true) 54 rfl (by kernel_rfl) (.inr (fun _ h => st_take [0, 0, 0, 0, 0, 0, 0] h)) (.inl ⟨rfl, fun _ => q_assign rfl⟩) ?_
              refine Wr.done (by kernel_rfl) ?_
              refine Wx.go ?_
              refine Wc.ret ?_
              refine Wx.fin1 rfl (.inl rfl) (fun w hs => ?_)
              have hs : st W0 w (F) := (st_drop (st_drop (st_drop (st_drop (st_drop (st_drop (st_drop (st_pull [0, 0, 0, 0, 0, 0, 0] hs))))))))
              exact ⟨(), trivial, rfl, hs⟩
            ·
              refine Wr.pure (v := Value.bool false) 41 rfl (by kernel_rfl) (.inr (fun _ h => st_take [0, 0, 0, 0, 0, 0, 0] h)) (.inl ⟨rfl, fun _ => q_eql_bool (r := false) rfl rfl Tryd.underlying4 (beq_eq_false_iff_ne.2 hab)⟩) ?_
              refine Wr.pure (v := Value.bool false) 42 rfl (by kernel_rfl) (.inr (fun _ h => st_take [0, 0, 0, 0, 0, 0, 0] h)) (.inl ⟨rfl, fun _ => q_move rfl⟩) ?_
              refine Wr.pure (v := undef) 43 rfl (by kernel_rfl) (.inr (fun _ h => st_take [0, 0, 0, 0, 0, 0, 0] h)) (.inr ⟨rfl, rfl⟩) ?_
              refine Wr.pure (v := undef) 44 rfl (by kernel_rfl) (.inr (fun _ h => st_take [0, 0, 0, 0, 0, 0, 0] h)) (.inr ⟨rfl, rfl⟩) ?_
              refine Wr.pure (v := undef) 45 rfl (by kernel_rfl) (.inr (fun _ h => st_take [0, 0, 0, 0, 0, 0, 0] h)) (.inr ⟨rfl, rfl⟩) ?_
              refine Wr.pure (v := undef) 46 rfl (by kernel_rfl) (.inr (fun _ h => st_take [0, 0, 0, 0, 0, 0, 0] h)) (.inr ⟨rfl, rfl⟩) ?_
              refine Wr.pure (v := undef) 47 rfl (by kernel_rfl) (.inr (fun _ h => st_take [0, 0, 0, 0, 0, 0, 0] h)) (.inr ⟨rfl, rfl⟩) ?_
              refine Wr.pure (v := Value.bool false) 48 rfl (by kernel_rfl) (.inr (fun _ h => st_take [0, 0, 0, 0, 0, 0, 0] h)) (.inl ⟨rfl, fun _ => q_pick (t := false) rfl rfl⟩) ?_
              refine Wr.pure (v := Value.bool true) 49 rfl (by kernel_rfl) (.inr (fun _ h => st_take [0, 0, 0, 0, 0, 0, 0] h)) (.inl ⟨rfl, fun _ => q_eql_bool (r := true) rfl rfl Tryd.underlying4 (beq_iff_eq.2 ((by rw [unlike_j f0 f1 f2 g0 g1 g2]; simp [hab])))⟩) ?_
              refine Wr.pure (v := Value.bool true) 50 rfl (by kernel_rfl) (.inr (fun _ h => st_take [0, 0, 0, 0, 0, 0, 0] h)) (.inl ⟨rfl, fun _ => q_pick (t := true) rfl rfl⟩) ?_
              refine Wr.pure (v := Value.bool true) 51 rfl (by kernel_rfl) (.inr (fun _ h => st_take [0, 0, 0, 0, 0, 0, 0] h)) (.inl ⟨rfl, fun _ => q_move rfl⟩) ?_
              refine Wr.e 52 (by kernel_rfl) rfl (e_call (F := (pt b30 33 [Value.int .i64 (((J2 f0 f1 f2 g0 g1).2.1 : Nat) : Int), Value.int .i64 (((N2 f0 f1 f2 g0 g1 g2).e.2.1 : Nat) : Int), Value.int .i64 (((N2 f0 f1 f2 g0 g1 g2).a.2.1 : Nat) : Int), Value.int .i64 (((N2 f0 f1 f2 g0 g1 g2).b.2.1 : Nat) : Int), Value.int .i64 (((N2 f0 f1 f2 g0 g1 g2).c.2.1 : Nat) : Int), Value.int .i64 (((N2 f0 f1 f2 g0 g1 g2).d.2.1 : Nat) : Int)]) :: (storeW b4 (N2 f0 f1 f2 g0 g1 g2).d.1) :: (pt b29 33 [Value.int .i64 (((J1 f0 f1).2.1 : Nat) : Int), Value.int .i64 (((N1 f0 f1 f2).e.2.1 : Nat) : Int), Value.int .i64 (((N1 f0 f1 f2).a.2.1 : Nat) : Int), Value.int .i64 (((N1 f0 f1 f2).b.2.1 : Nat) : Int), Value.int .i64 (((N1 f0 f1 f2).c.2.1 : Nat) : Int), Value.int .i64 (((N1 f0 f1 f2).d.2.1 : Nat) : Int)]) :: (pt b7 3 [Value.int .i64 (pk g0 0), Value.int .i64 (pk g1 1), Value.int .i64 (pk g2 2)]) :: (pt b6 3 [Value.int .i64 (pk f0 0), Value.int .i64 (pk f1 1), Value.int .i64 (pk f2 2)]) :: (pt b2 22 [Value.bool g0, Value.bool g1, Value.bool g2]) :: (pt b1 22 [Value.bool f0, Value.bool f1, Value.bool f2]) :: F) (args := []) Tryd.call7 rfl (au1_lives W0)) (.inl (by kernel_rfl)) (fun _ _ => ?_)
              refine Wr.imp (L' := (pt b30 33 [Value.int .i64 (((J2 f0 f1 f2 g0 g1).2.1 : Nat) : Int), Value.int .i64 (((N2 f0 f1 f2 g0 g1 g2).e.2.1 : Nat) : Int), Value.int .i64 (((N2 f0 f1 f2 g0 g1 g2).a.2.1 : Nat) : Int), Value.int .i64 (((N2 f0 f1 f2 g0 g1 g2).b.2.1 : Nat) : Int), Value.int .i64 (((N2 f0 f1 f2 g0 g1 g2).c.2.1 : Nat) : Int), Value.int .i64 (((N2 f0 f1 f2 g0 g1 g2).d.2.1 : Nat) : Int)]) :: (storeW b4 (N2 f0 f1 f2 g0 g1 g2).d.1) :: (pt b29 33 [Value.int .i64 (((J1 f0 f1).2.1 : Nat) : Int), Value.int .i64 (((N1 f0 f1 f2).e.2.1 : Nat) : Int), Value.int .i64 (((N1 f0 f1 f2).a.2.1 : Nat) : Int), Value.int .i64 (((N1 f0 f1 f2).b.2.1 : Nat) : Int), Value.int .i64 (((N1 f0 f1 f2).c.2.1 : Nat) : Int), Value.int .i64 (((N1 f0 f1 f2).d.2.1 : Nat) : Int)]) :: (pt b7 3 [Value.int .i64 (pk g0 0), Value.int .i64 (pk g1 1), Value.int .i64 (pk g2 2)]) :: (pt b6 3 [Value.int .i64 (pk f0 0), Value.int .i64 (pk f1 1), Value.int .i64 (pk f2 2)]) :: (pt b2 22 [Value.bool g0, Value.bool g1, Value.bool g2]) :: (pt b1 22 [Value.bool f0, Value.bool f1, Value.bool f2]) :: F) (fun _ h => h) ?_
              refine Wr.rebaseS [] ((pt b30 33 [Value.int .i64 (((J2 f0 f1 f2 g0 g1).2.1 : Nat) : Int), Value.int .i64 (((N2 f0 f1 f2 g0 g1 g2).e.2.1 : Nat) : Int), Value.int .i64 (((N2 f0 f1 f2 g0 g1 g2).a.2.1 : Nat) : Int), Value.int .i64 (((N2 f0 f1 f2 g0 g1 g2).b.2.1 : Nat) : Int), Value.int .i64 (((N2 f0 f1 f2 g0 g1 g2).c.2.1 : Nat) : Int), Value.int .i64 (((N2 f0 f1 f2 g0 g1 g2).d.2.1 : Nat) : Int)]) :: (storeW b4 (N2 f0 f1 f2 g0 g1 g2).d.1) :: (pt b29 33 [Value.int .i64 (((J1 f0 f1).2.1 : Nat) : Int), Value.int .i64 (((N1 f0 f1 f2).e.2.1 : Nat) : Int), Value.int .i64 (((N1 f0 f1 f2).a.2.1 : Nat) : Int), Value.int .i64 (((N1 f0 f1 f2).b.2.1 : Nat) : Int), Value.int .i64 (((N1 f0 f1 f2).c.2.1 : Nat) : Int), Value.int .i64 (((N1 f0 f1 f2).d.2.1 : Nat) : Int)]) :: (pt b7 3 [Value.int .i64 (pk g0 0), Value.int .i64 (pk g1 1), Value.int .i64 (pk g2 2)]) :: (pt b6 3 [Value.int .i64 (pk f0 0), Value.int .i64 (pk f1 1), Value.int .i64 (pk f2 2)]) :: (pt b2 22 [Value.bool g0, Value.bool g1, Value.bool g2]) :: (pt b1 22 [Value.bool f0, Value.bool f1, Value.bool f2]) :: []) (by kernel_rfl) ?_
              refine Wr.pure (v := Value.bool true) 53 rfl (by kernel_rfl) (.inr (fun _ h => st_take [0, 0, 0, 0, 0, 0, 0] h)) (.inl ⟨rfl, fun _ => q_pick (t := true) rfl rfl⟩) ?_
              refine Wr.pure (v := Value.bool true) 54 rfl (by kernel_rfl) (.inr (fun _ h => st_take [0, 0, 0, 0, 0, 0, 0] h)) (.inl ⟨rfl, fun _ => q_assign rfl⟩) ?_
              refine Wr.done (by kernel_rfl) ?_
              refine Wx.go ?_
              refine Wc.ret ?_
              refine Wx.fin1 rfl (.inl rfl) (fun w hs => ?_)
              have hs : st W0 w (F) := (st_drop (st_drop (st_drop (st_drop (st_drop (st_drop (st_drop (st_pull [0, 0, 0, 0, 0, 0, 0] hs))))))))
              exact ⟨(), trivial, rfl, hs⟩
          ·
            refine Wo.e 14 rfl (e_alloc (vs := [Value.int .i64 0, Value.int .i64 0, Value.int .i64 0, Value.int .i64 0, Value.int .i64 0, Value.int .i64 0]) zo_33 rfl) (.inr fun _ _ _ h => st_take [1, 1, 1, 1, 1, 1] h) (fun b31 _ => ?_)
            refine Wr.more (S' := (pt b31 33 [Value.int .i64 0, Value.int .i64 0, Value.int .i64 0, Value.int .i64 0, Value.int .i64 0, Value.int .i64 0]) :: (storeW b4 (N1 f0 f1 f2).d.1) :: (pt b29 33 [Value.int .i64 (((J1 f0 f1).2.1 : Nat) : Int), Value.int .i64 (((N1 f0 f1 f2).e.2.1 : Nat) : Int), Value.int .i64 (((N1 f0 f1 f2).a.2.1 : Nat) : Int), Value.int .i64 (((N1 f0 f1 f2).b.2.1 : Nat) : Int), Value.int .i64 (((N1 f0 f1 f2).c.2.1 : Nat) : Int), Value.int .i64 (((N1 f0 f1 f2).d.2.1 : Nat) : Int)]) :: (pt b7 3 [Value.int .i64 (pk g0 0), Value.int .i64 (pk g1 1), Value.int .i64 (pk g2 2)]) :: (pt b6 3 [Value.int .i64 (pk f0 0), Value.int .i64 (pk f1 1), Value.int .i64 (pk f2 2)]) :: (pt b2 22 [Value.bool g0, Value.bool g1, Value.bool g2]) :: (pt b1 22 [Value.bool f0, Value.bool f1, Value.bool f2]) :: []) (fun _ h => st_drop h) ?_
            refine Wr.imp (L' := (storeW b4 (N1 f0 f1 f2).d.1) :: (pt b31 33 [Value.int .i64 0, Value.int .i64 0, Value.int .i64 0, Value.int .i64 0, Value.int .i64 0, Value.int .i64 0]) :: (pt b29 33 [Value.int .i64 (((J1 f0 f1).2.1 : Nat) : Int), Value.int .i64 (((N1 f0 f1 f2).e.2.1 : Nat) : Int), Value.int .i64 (((N1 f0 f1 f2).a.2.1 : Nat) : Int), Value.int .i64 (((N1 f0 f1 f2).b.2.1 : Nat) : Int), Value.int .i64 (((N1 f0 f1 f2).c.2.1 : Nat) : Int), Value.int .i64 (((N1 f0 f1 f2).d.2.1 : Nat) : Int)]) :: (pt b7 3 [Value.int .i64 (pk g0 0), Value.int .i64 (pk g1 1), Value.int .i64 (pk g2 2)]) :: (pt b6 3 [Value.int .i64 (pk f0 0), Value.int .i64 (pk f1 1), Value.int .i64 (pk f2 2)]) :: (pt b2 22 [Value.bool g0, Value.bool g1, Value.bool g2]) :: (pt b1 22 [Value.bool f0, Value.bool f1, Value.bool f2]) :: F) (fun _ h => st_pull [1] h) ?_
            refine Wr.e 10 (by kernel_rfl) rfl (e_call (F := (pt b31 33 [Value.int .i64 0, Value.int .i64 0, Value.int .i64 0, Value.int .i64 0, Value.int .i64 0, Value.int .i64 0]) :: (pt b29 33 [Value.int .i64 (((J1 f0 f1).2.1 : Nat) : Int), Value.int .i64 (((N1 f0 f1 f2).e.2.1 : Nat) : Int), Value.int .i64 (((N1 f0 f1 f2).a.2.1 : Nat) : Int), Value.int .i64 (((N1 f0 f1 f2).b.2.1 : Nat) : Int), Value.int .i64 (((N1 f0 f1 f2).c.2.1 : Nat) : Int), Value.int .i64 (((N1 f0 f1 f2).d.2.1 : Nat) : Int)]) :: (pt b7 3 [Value.int .i64 (pk g0 0), Value.int .i64 (pk g1 1), Value.int .i64 (pk g2 2)]) :: (pt b6 3 [Value.int .i64 (pk f0 0), Value.int .i64 (pk f1 1), Value.int .i64 (pk f2 2)]) :: (pt b2 22 [Value.bool g0, Value.bool g1, Value.bool g2]) :: (pt b1 22 [Value.bool f0, Value.bool f1, Value.bool f2]) :: F) (args := [Value.pointer (some ⟨b4, 0, none⟩), Value.int .i64 (pk g0 0), Value.int .i64 (pk g1 1), Value.int .i64 (pk g2 2)]) Tryd.call6 rfl (Con.eqs (val' := fun _ => .tuple #[Value.agg #[Value.int .i64 (((J2 f0 f1 f2 g0 g1).2.1 : Nat) : Int), Value.int .i64 (((N2 f0 f1 f2 g0 g1 g2).e.2.1 : Nat) : Int), Value.int .i64 (((N2 f0 f1 f2 g0 g1 g2).a.2.1 : Nat) : Int), Value.int .i64 (((N2 f0 f1 f2 g0 g1 g2).b.2.1 : Nat) : Int), Value.int .i64 (((N2 f0 f1 f2 g0 g1 g2).c.2.1 : Nat) : Int), Value.int .i64 (((N2 f0 f1 f2 g0 g1 g2).d.2.1 : Nat) : Int)], .int .i64 0]) (post' := fun _ => [storeW b4 (N2 f0 f1 f2 g0 g1 g2).d.1]) (next_c W0 b4 (N1 f0 f1 f2).d.1 (pk g0 0) (pk g1 1) (pk g2 2) ⟨(pk_rng g0 0 (by omega)).1, (by have := (pk_rng g0 0 (by omega)).2; have := unlike_len f0 f1 f2; omega)⟩ ⟨(pk_rng g1 1 (by omega)).1, (by have := (pk_rng g1 1 (by omega)).2; have := unlike_len f0 f1 f2; omega)⟩ ⟨(pk_rng g2 2 (by omega)).1, (by have := (pk_rng g2 2 (by omega)).2; have := unlike_len f0 f1 f2; omega)⟩ (by have := unlike_len f0 f1 f2; omega)) (fun _ => by unfold N2 J2; rfl) (fun _ => by unfold N2; rfl))) (.inl (by kernel_rfl)) (fun _ _ => ?_)
            refine Wr.imp (L' := (storeW b4 (N2 f0 f1 f2 g0 g1 g2).d.1) :: (pt b31 33 [Value.int .i64 0, Value.int .i64 0, Value.int .i64 0, Value.int .i64 0, Value.int .i64 0, Value.int .i64 0]) :: (pt b29 33 [Value.int .i64 (((J1 f0 f1).2.1 : Nat) : Int), Value.int .i64 (((N1 f0 f1 f2).e.2.1 : Nat) : Int), Value.int .i64 (((N1 f0 f1 f2).a.2.1 : Nat) : Int), Value.int .i64 (((N1 f0 f1 f2).b.2.1 : Nat) : Int), Value.int .i64 (((N1 f0 f1 f2).c.2.1 : Nat) : Int), Value.int .i64 (((N1 f0 f1 f2).d.2.1 : Nat) : Int)]) :: (pt b7 3 [Value.int .i64 (pk g0 0), Value.int .i64 (pk g1 1), Value.int .i64 (pk g2 2)]) :: (pt b6 3 [Value.int .i64 (pk f0 0), Value.int .i64 (pk f1 1), Value.int .i64 (pk f2 2)]) :: (pt b2 22 [Value.bool g0, Value.bool g1, Value.bool g2]) :: (pt b1 22 [Value.bool f0, Value.bool f1, Value.bool f2]) :: F) (fun _ h => h) ?_
            refine Wr.rebaseS [15] ((storeW b4 (N2 f0 f1 f2 g0 g1 g2).d.1) :: (pt b31 33 [Value.int .i64 0, Value.int .i64 0, Value.int .i64 0, Value.int .i64 0, Value.int .i64 0, Value.int .i64 0]) :: (pt b29 33 [Value.int .i64 (((J1 f0 f1).2.1 : Nat) : Int), Value.int .i64 (((N1 f0 f1 f2).e.2.1 : Nat) : Int), Value.int .i64 (((N1 f0 f1 f2).a.2.1 : Nat) : Int), Value.int .i64 (((N1 f0 f1 f2).b.2.1 : Nat) : Int), Value.int .i64 (((N1 f0 f1 f2).c.2.1 : Nat) : Int), Value.int .i64 (((N1 f0 f1 f2).d.2.1 : Nat) : Int)]) :: (pt b7 3 [Value.int .i64 (pk g0 0), Value.int .i64 (pk g1 1), Value.int .i64 (pk g2 2)]) :: (pt b6 3 [Value.int .i64 (pk f0 0), Value.int .i64 (pk f1 1), Value.int .i64 (pk f2 2)]) :: (pt b2 22 [Value.bool g0, Value.bool g1, Value.bool g2]) :: (pt b1 22 [Value.bool f0, Value.bool f1, Value.bool f2]) :: []) (by kernel_rfl) ?_
            refine Wr.pure (v := Value.tuple #[Value.agg #[Value.int .i64 (((J2 f0 f1 f2 g0 g1).2.1 : Nat) : Int), Value.int .i64 (((N2 f0 f1 f2 g0 g1 g2).e.2.1 : Nat) : Int), Value.int .i64 (((N2 f0 f1 f2 g0 g1 g2).a.2.1 : Nat) : Int), Value.int .i64 (((N2 f0 f1 f2 g0 g1 g2).b.2.1 : Nat) : Int), Value.int .i64 (((N2 f0 f1 f2 g0 g1 g2).c.2.1 : Nat) : Int), Value.int .i64 (((N2 f0 f1 f2 g0 g1 g2).d.2.1 : Nat) : Int)], Value.int .i64 0]) 11 rfl (by kernel_rfl) (.inr (fun _ h => st_take [0, 0, 0, 0, 0, 0, 0] h)) (.inl ⟨rfl, fun _ => q_move rfl⟩) ?_
            refine Wr.pure (v := Value.agg #[Value.int .i64 (((J2 f0 f1 f2 g0 g1).2.1 : Nat) : Int), Value.int .i64 (((N2 f0 f1 f2 g0 g1 g2).e.2.1 : Nat) : Int), Value.int .i64 (((N2 f0 f1 f2 g0 g1 g2).a.2.1 : Nat) : Int), Value.int .i64 (((N2 f0 f1 f2 g0 g1 g2).b.2.1 : Nat) : Int), Value.int .i64 (((N2 f0 f1 f2 g0 g1 g2).c.2.1 : Nat) : Int), Value.int .i64 (((N2 f0 f1 f2 g0 g1 g2).d.2.1 : Nat) : Int)]) 12 rfl (by kernel_rfl) (.inr (fun _ h => st_take [0, 0, 0, 0, 0, 0, 0] h)) (.inl ⟨rfl, fun _ => q_extract (i := 0) rfl rfl⟩) ?_
            refine Wr.pure (v := Value.int .i64 0) 13 rfl (by kernel_rfl) (.inr (fun _ h => st_take [0, 0, 0, 0, 0, 0, 0] h)) (.inl ⟨rfl, fun _ => q_extract (i := 1) rfl rfl⟩) ?_
            refine Wr.e 15 (by kernel_rfl) rfl (e_storeAgg (i := 1) (vs := [Value.int .i64 (((J2 f0 f1 f2 g0 g1).2.1 : Nat) : Int), Value.int .i64 (((N2 f0 f1 f2 g0 g1 g2).e.2.1 : Nat) : Int), Value.int .i64 (((N2 f0 f1 f2 g0 g1 g2).a.2.1 : Nat) : Int), Value.int .i64 (((N2 f0 f1 f2 g0 g1 g2).b.2.1 : Nat) : Int), Value.int .i64 (((N2 f0 f1 f2 g0 g1 g2).c.2.1 : Nat) : Int), Value.int .i64 (((N2 f0 f1 f2 g0 g1 g2).d.2.1 : Nat) : Int)]) (c' := [Value.int .i64 (((J2 f0 f1 f2 g0 g1).2.1 : Nat) : Int), Value.int .i64 (((N2 f0 f1 f2 g0 g1 g2).e.2.1 : Nat) : Int), Value.int .i64 (((N2 f0 f1 f2 g0 g1 g2).a.2.1 : Nat) : Int), Value.int .i64 (((N2 f0 f1 f2 g0 g1 g2).b.2.1 : Nat) : Int), Value.int .i64 (((N2 f0 f1 f2 g0 g1 g2).c.2.1 : Nat) : Int), Value.int .i64 (((N2 f0 f1 f2 g0 g1 g2).d.2.1 : Nat) : Int)]) sz_33 rfl rfl rfl rfl (by simp) rfl) (.inl (by kernel_rfl)) (fun _ _ => ?_)
            refine Wr.imp (L' := (storeW b4 (N2 f0 f1 f2 g0 g1 g2).d.1) :: (pt b31 33 [Value.int .i64 (((J2 f0 f1 f2 g0 g1).2.1 : Nat) : Int), Value.int .i64 (((N2 f0 f1 f2 g0 g1 g2).e.2.1 : Nat) : Int), Value.int .i64 (((N2 f0 f1 f2 g0 g1 g2).a.2.1 : Nat) : Int), Value.int .i64 (((N2 f0 f1 f2 g0 g1 g2).b.2.1 : Nat) : Int), Value.int .i64 (((N2 f0 f1 f2 g0 g1 g2).c.2.1 : Nat) : Int), Value.int .i64 (((N2 f0 f1 f2 g0 g1 g2).d.2.1 : Nat) : Int)]) :: (pt b29 33 [Value.int .i64 (((J1 f0 f1).2.1 : Nat) : Int), Value.int .i64 (((N1 f0 f1 f2).e.2.1 : Nat) : Int), Value.int .i64 (((N1 f0 f1 f2).a.2.1 : Nat) : Int), Value.int .i64 (((N1 f0 f1 f2).b.2.1 : Nat) : Int), Value.int .i64 (((N1 f0 f1 f2).c.2.1 : Nat) : Int), Value.int .i64 (((N1 f0 f1 f2).d.2.1 : Nat) : Int)]) :: (pt b7 3 [Value.int .i64 (pk g0 0), Value.int .i64 (pk g1 1), Value.int .i64 (pk g2 2)]) :: (pt b6 3 [Value.int .i64 (pk f0 0), Value.int .i64 (pk f1 1), Value.int .i64 (pk f2 2)]) :: (pt b2 22 [Value.bool g0, Value.bool g1, Value.bool g2]) :: (pt b1 22 [Value.bool f0, Value.bool f1, Value.bool f2]) :: F) (fun _ h => h) ?_
            refine Wr.rebaseS [] ((storeW b4 (N2 f0 f1 f2 g0 g1 g2).d.1) :: (pt b31 33 [Value.int .i64 (((J2 f0 f1 f2 g0 g1).2.1 : Nat) : Int), Value.int .i64 (((N2 f0 f1 f2 g0 g1 g2).e.2.1 : Nat) : Int), Value.int .i64 (((N2 f0 f1 f2 g0 g1 g2).a.2.1 : Nat) : Int), Value.int .i64 (((N2 f0 f1 f2 g0 g1 g2).b.2.1 : Nat) : Int), Value.int .i64 (((N2 f0 f1 f2 g0 g1 g2).c.2.1 : Nat) : Int), Value.int .i64 (((N2 f0 f1 f2 g0 g1 g2).d.2.1 : Nat) : Int)]) :: (pt b29 33 [Value.int .i64 (((J1 f0 f1).2.1 : Nat) : Int), Value.int .i64 (((N1 f0 f1 f2).e.2.1 : Nat) : Int), Value.int .i64 (((N1 f0 f1 f2).a.2.1 : Nat) : Int), Value.int .i64 (((N1 f0 f1 f2).b.2.1 : Nat) : Int), Value.int .i64 (((N1 f0 f1 f2).c.2.1 : Nat) : Int), Value.int .i64 (((N1 f0 f1 f2).d.2.1 : Nat) : Int)]) :: (pt b7 3 [Value.int .i64 (pk g0 0), Value.int .i64 (pk g1 1), Value.int .i64 (pk g2 2)]) :: (pt b6 3 [Value.int .i64 (pk f0 0), Value.int .i64 (pk f1 1), Value.int .i64 (pk f2 2)]) :: (pt b2 22 [Value.bool g0, Value.bool g1, Value.bool g2]) :: (pt b1 22 [Value.bool f0, Value.bool f1, Value.bool f2]) :: []) (by kernel_rfl) ?_
            refine Wr.pure (v := Value.int .i64 0) 16 rfl (by kernel_rfl) (.inr (fun _ h => st_take [0, 0, 0, 0, 0, 0, 0] h)) (.inl ⟨rfl, fun _ => q_assign rfl⟩) ?_
            refine Wr.done (by kernel_rfl) ?_
            refine Wx.go ?_
            refine Wc.seq ?_
            refine Wc.seq ?_
            refine Wc.region ?_
            refine Wl.q (v := Value.int .i64 0) (q_move rfl) ?_
            refine Wl.q (v := Value.bool false) (q_neq (r := true) rfl rfl (decide_eq_true (by decide))) ?_
            refine Wl.q (v := Value.bool false) (q_move rfl) ?_
            refine Wl.q (v := Value.int .i64 0) (q_move rfl) ?_
            refine Wl.q (v := Value.bool false) (q_neq (r := true) rfl rfl (decide_eq_true (by decide))) ?_
            refine Wl.q (v := Value.bool false) (q_pick (t := false) rfl rfl) ?_
            refine Wl.done ?_
            refine Wx.go ?_
            refine Wc.no rfl ?_
            refine Wc.skip ?_
            refine Wx.go ?_
            refine Wc.seq ?_
            refine Wc.drawsS [52] ((storeW b4 (N2 f0 f1 f2 g0 g1 g2).d.1) :: (pt b31 33 [Value.int .i64 (((J2 f0 f1 f2 g0 g1).2.1 : Nat) : Int), Value.int .i64 (((N2 f0 f1 f2 g0 g1 g2).e.2.1 : Nat) : Int), Value.int .i64 (((N2 f0 f1 f2 g0 g1 g2).a.2.1 : Nat) : Int), Value.int .i64 (((N2 f0 f1 f2 g0 g1 g2).b.2.1 : Nat) : Int), Value.int .i64 (((N2 f0 f1 f2 g0 g1 g2).c.2.1 : Nat) : Int), Value.int .i64 (((N2 f0 f1 f2 g0 g1 g2).d.2.1 : Nat) : Int)]) :: (pt b29 33 [Value.int .i64 (((J1 f0 f1).2.1 : Nat) : Int), Value.int .i64 (((N1 f0 f1 f2).e.2.1 : Nat) : Int), Value.int .i64 (((N1 f0 f1 f2).a.2.1 : Nat) : Int), Value.int .i64 (((N1 f0 f1 f2).b.2.1 : Nat) : Int), Value.int .i64 (((N1 f0 f1 f2).c.2.1 : Nat) : Int), Value.int .i64 (((N1 f0 f1 f2).d.2.1 : Nat) : Int)]) :: (pt b7 3 [Value.int .i64 (pk g0 0), Value.int .i64 (pk g1 1), Value.int .i64 (pk g2 2)]) :: (pt b6 3 [Value.int .i64 (pk f0 0), Value.int .i64 (pk f1 1), Value.int .i64 (pk f2 2)]) :: (pt b2 22 [Value.bool g0, Value.bool g1, Value.bool g2]) :: (pt b1 22 [Value.bool f0, Value.bool f1, Value.bool f2]) :: []) (by kernel_rfl) ?_
            refine Wr.pure (v := Value.pointer (some ⟨b29, 1, none⟩)) 0 rfl (by kernel_rfl) (.inr (fun _ h => st_take [0, 0, 0, 0, 0, 0, 0] h)) (.inl ⟨rfl, fun _ => q_field (m := 1) fo_33_1 rfl rfl⟩) ?_
            refine Wr.take (v := Value.int .i64 (((N1 f0 f1 f2).e.2.1 : Nat) : Int)) 1 rfl (by kernel_rfl) (fun _ h => st_take [0, 0, 0, 0, 0, 0, 0] h) (.inl ⟨rfl, q_load sc_3 rfl (.cel (i := 2) rfl rfl)⟩) ?_
            refine Wr.pure (v := Value.pointer (some ⟨b31, 1, none⟩)) 2 rfl (by kernel_rfl) (.inr (fun _ h => st_take [0, 0, 0, 0, 0, 0, 0] h)) (.inl ⟨rfl, fun _ => q_field (m := 1) fo_33_1 rfl rfl⟩) ?_
            refine Wr.take (v := Value.int .i64 (((N2 f0 f1 f2 g0 g1 g2).e.2.1 : Nat) : Int)) 3 rfl (by kernel_rfl) (fun _ h => st_take [0, 0, 0, 0, 0, 0, 0] h) (.inl ⟨rfl, q_load sc_3 rfl (.cel (i := 1) rfl rfl)⟩) ?_
            refine Wr.pure (v := Value.bool (decide ((((N1 f0 f1 f2).e.2.1 : Nat) : Int) = (((N2 f0 f1 f2 g0 g1 g2).e.2.1 : Nat) : Int)))) 4 rfl (by kernel_rfl) (.inr (fun _ h => st_take [0, 0, 0, 0, 0, 0, 0] h)) (.inl ⟨rfl, fun _ => q_eql rfl rfl rfl⟩) ?_
            refine Wr.take (v := Value.agg #[Value.bool f0, Value.bool f1, Value.bool f2]) 5 rfl (by kernel_rfl) (fun _ h => st_take [0, 0, 0, 0, 0, 0, 0] h) (.inl ⟨rfl, q_loadAgg (vs := [Value.bool f0, Value.bool f1, Value.bool f2]) ag_22 hE2_23 (Has.of_pt (i := 6) rfl rfl)⟩) ?_
            refine Wr.take (v := Value.agg #[Value.bool g0, Value.bool g1, Value.bool g2]) 6 rfl (by kernel_rfl) (fun _ h => st_take [0, 0, 0, 0, 0, 0, 0] h) (.inl ⟨rfl, q_loadAgg (vs := [Value.bool g0, Value.bool g1, Value.bool g2]) ag_22 hE3_23 (Has.of_pt (i := 5) rfl rfl)⟩) ?_
            refine Wr.pure (v := Value.bool (f0 == g0 && (f1 == g1 && f2 == g2))) 7 rfl (by kernel_rfl) (.inr (fun _ h => st_take [0, 0, 0, 0, 0, 0, 0] h)) (.inl ⟨rfl, fun _ => q_eql_agg (r := (f0 == g0 && (f1 == g1 && f2 == g2))) rfl rfl eg_22 (eqB3 f0 f1 f2 g0 g1 g2)⟩) ?_
            refine Wr.pure (v := Value.bool true) 8 rfl (by kernel_rfl) (.inr (fun _ h => st_take [0, 0, 0, 0, 0, 0, 0] h)) (.inl ⟨rfl, fun _ => q_eql_bool (r := true) rfl rfl Tryd.underlying4 (beq_iff_eq.2 (unlike_e f0 f1 f2 g0 g1 g2))⟩) ?_
            refine Wr.pure (v := Value.bool true) 9 rfl (by kernel_rfl) (.inr (fun _ h => st_take [0, 0, 0, 0, 0, 0, 0] h)) (.inl ⟨rfl, fun _ => q_move rfl⟩) ?_
            refine Wr.pure (v := Value.pointer (some ⟨b29, 2, none⟩)) 10 rfl (by kernel_rfl) (.inr (fun _ h => st_take [0, 0, 0, 0, 0, 0, 0] h)) (.inl ⟨rfl, fun _ => q_field (m := 2) fo_33_2 rfl rfl⟩) ?_
            refine Wr.take (v := Value.int .i64 (((N1 f0 f1 f2).a.2.1 : Nat) : Int)) 11 rfl (by kernel_rfl) (fun _ h => st_take [0, 0, 0, 0, 0, 0, 0] h) (.inl ⟨rfl, q_load sc_3 rfl (.cel (i := 2) rfl rfl)⟩) ?_
            refine Wr.pure (v := Value.pointer (some ⟨b31, 2, none⟩)) 12 rfl (by kernel_rfl) (.inr (fun _ h => st_take [0, 0, 0, 0, 0, 0, 0] h)) (.inl ⟨rfl, fun _ => q_field (m := 2) fo_33_2 rfl rfl⟩) ?_
            refine Wr.take (v := Value.int .i64 (((N2 f0 f1 f2 g0 g1 g2).a.2.1 : Nat) : Int)) 13 rfl (by kernel_rfl) (fun _ h => st_take [0, 0, 0, 0, 0, 0, 0] h) (.inl ⟨rfl, q_load sc_3 rfl (.cel (i := 1) rfl rfl)⟩) ?_
            refine Wr.pure (v := Value.bool (decide ((((N1 f0 f1 f2).a.2.1 : Nat) : Int) = (((N2 f0 f1 f2 g0 g1 g2).a.2.1 : Nat) : Int)))) 14 rfl (by kernel_rfl) (.inr (fun _ h => st_take [0, 0, 0, 0, 0, 0, 0] h)) (.inl ⟨rfl, fun _ => q_eql rfl rfl rfl⟩) ?_
            refine Wr.take (v := Value.agg #[Value.bool f0, Value.bool f1, Value.bool f2]) 15 rfl (by kernel_rfl) (fun _ h => st_take [0, 0, 0, 0, 0, 0, 0] h) (.inl ⟨rfl, q_loadAgg (vs := [Value.bool f0, Value.bool f1, Value.bool f2]) ag_22 hE2_23 (Has.of_pt (i := 6) rfl rfl)⟩) ?_
            refine Wr.take (v := Value.agg #[Value.bool g0, Value.bool g1, Value.bool g2]) 16 rfl (by kernel_rfl) (fun _ h => st_take [0, 0, 0, 0, 0, 0, 0] h) (.inl ⟨rfl, q_loadAgg (vs := [Value.bool g0, Value.bool g1, Value.bool g2]) ag_22 hE3_23 (Has.of_pt (i := 5) rfl rfl)⟩) ?_
            refine Wr.pure (v := Value.bool (f0 == g0 && (f1 == g1 && f2 == g2))) 17 rfl (by kernel_rfl) (.inr (fun _ h => st_take [0, 0, 0, 0, 0, 0, 0] h)) (.inl ⟨rfl, fun _ => q_eql_agg (r := (f0 == g0 && (f1 == g1 && f2 == g2))) rfl rfl eg_22 (eqB3 f0 f1 f2 g0 g1 g2)⟩) ?_
            refine Wr.pure (v := Value.bool true) 18 rfl (by kernel_rfl) (.inr (fun _ h => st_take [0, 0, 0, 0, 0, 0, 0] h)) (.inl ⟨rfl, fun _ => q_eql_bool (r := true) rfl rfl Tryd.underlying4 (beq_iff_eq.2 (unlike_a f0 f1 f2 g0 g1 g2))⟩) ?_
            refine Wr.pure (v := Value.bool true) 19 rfl (by kernel_rfl) (.inr (fun _ h => st_take [0, 0, 0, 0, 0, 0, 0] h)) (.inl ⟨rfl, fun _ => q_pick (t := true) rfl rfl⟩) ?_
            refine Wr.pure (v := Value.bool true) 20 rfl (by kernel_rfl) (.inr (fun _ h => st_take [0, 0, 0, 0, 0, 0, 0] h)) (.inl ⟨rfl, fun _ => q_move rfl⟩) ?_
            refine Wr.pure (v := Value.pointer (some ⟨b29, 5, none⟩)) 21 rfl (by kernel_rfl) (.inr (fun _ h => st_take [0, 0, 0, 0, 0, 0, 0] h)) (.inl ⟨rfl, fun _ => q_field (m := 5) fo_33_5 rfl rfl⟩) ?_
            refine Wr.take (v := Value.int .i64 (((N1 f0 f1 f2).d.2.1 : Nat) : Int)) 22 rfl (by kernel_rfl) (fun _ h => st_take [0, 0, 0, 0, 0, 0, 0] h) (.inl ⟨rfl, q_load sc_3 rfl (.cel (i := 2) rfl rfl)⟩) ?_
            refine Wr.pure (v := Value.pointer (some ⟨b31, 5, none⟩)) 23 rfl (by kernel_rfl) (.inr (fun _ h => st_take [0, 0, 0, 0, 0, 0, 0] h)) (.inl ⟨rfl, fun _ => q_field (m := 5) fo_33_5 rfl rfl⟩) ?_
            refine Wr.take (v := Value.int .i64 (((N2 f0 f1 f2 g0 g1 g2).d.2.1 : Nat) : Int)) 24 rfl (by kernel_rfl) (fun _ h => st_take [0, 0, 0, 0, 0, 0, 0] h) (.inl ⟨rfl, q_load sc_3 rfl (.cel (i := 1) rfl rfl)⟩) ?_
            refine Wr.pure (v := Value.bool (decide ((((N1 f0 f1 f2).d.2.1 : Nat) : Int) = (((N2 f0 f1 f2 g0 g1 g2).d.2.1 : Nat) : Int)))) 25 rfl (by kernel_rfl) (.inr (fun _ h => st_take [0, 0, 0, 0, 0, 0, 0] h)) (.inl ⟨rfl, fun _ => q_eql rfl rfl rfl⟩) ?_
            refine Wr.take (v := Value.agg #[Value.bool f0, Value.bool f1, Value.bool f2]) 26 rfl (by kernel_rfl) (fun _ h => st_take [0, 0, 0, 0, 0, 0, 0] h) (.inl ⟨rfl, q_loadAgg (vs := [Value.bool f0, Value.bool f1, Value.bool f2]) ag_22 hE2_23 (Has.of_pt (i := 6) rfl rfl)⟩) ?_
            refine Wr.take (v := Value.agg #[Value.bool g0, Value.bool g1, Value.bool g2]) 27 rfl (by kernel_rfl) (fun _ h => st_take [0, 0, 0, 0, 0, 0, 0] h) (.inl ⟨rfl, q_loadAgg (vs := [Value.bool g0, Value.bool g1, Value.bool g2]) ag_22 hE3_23 (Has.of_pt (i := 5) rfl rfl)⟩) ?_
            refine Wr.pure (v := Value.bool (f0 == g0 && (f1 == g1 && f2 == g2))) 28 rfl (by kernel_rfl) (.inr (fun _ h => st_take [0, 0, 0, 0, 0, 0, 0] h)) (.inl ⟨rfl, fun _ => q_eql_agg (r := (f0 == g0 && (f1 == g1 && f2 == g2))) rfl rfl eg_22 (eqB3 f0 f1 f2 g0 g1 g2)⟩) ?_
            refine Wr.pure (v := Value.bool true) 29 rfl (by kernel_rfl) (.inr (fun _ h => st_take [0, 0, 0, 0, 0, 0, 0] h)) (.inl ⟨rfl, fun _ => q_eql_bool (r := true) rfl rfl Tryd.underlying4 (beq_iff_eq.2 (unlike_d f0 f1 f2 g0 g1 g2))⟩) ?_
            refine Wr.pure (v := Value.bool true) 30 rfl (by kernel_rfl) (.inr (fun _ h => st_take [0, 0, 0, 0, 0, 0, 0] h)) (.inl ⟨rfl, fun _ => q_pick (t := true) rfl rfl⟩) ?_
            refine Wr.pure (v := Value.bool true) 31 rfl (by kernel_rfl) (.inr (fun _ h => st_take [0, 0, 0, 0, 0, 0, 0] h)) (.inl ⟨rfl, fun _ => q_move rfl⟩) ?_
            refine Wr.pure (v := Value.pointer (some ⟨b29, 0, none⟩)) 32 rfl (by kernel_rfl) (.inr (fun _ h => st_take [0, 0, 0, 0, 0, 0, 0] h)) (.inl ⟨rfl, fun _ => q_field (m := 0) fo_33_0 rfl rfl⟩) ?_
            refine Wr.take (v := Value.int .i64 (((J1 f0 f1).2.1 : Nat) : Int)) 33 rfl (by kernel_rfl) (fun _ h => st_take [0, 0, 0, 0, 0, 0, 0] h) (.inl ⟨rfl, q_load sc_3 rfl (.cel (i := 2) rfl rfl)⟩) ?_
            refine Wr.pure (v := Value.pointer (some ⟨b31, 0, none⟩)) 34 rfl (by kernel_rfl) (.inr (fun _ h => st_take [0, 0, 0, 0, 0, 0, 0] h)) (.inl ⟨rfl, fun _ => q_field (m := 0) fo_33_0 rfl rfl⟩) ?_
            refine Wr.take (v := Value.int .i64 (((J2 f0 f1 f2 g0 g1).2.1 : Nat) : Int)) 35 rfl (by kernel_rfl) (fun _ h => st_take [0, 0, 0, 0, 0, 0, 0] h) (.inl ⟨rfl, q_load sc_3 rfl (.cel (i := 1) rfl rfl)⟩) ?_
            refine Wr.pure (v := Value.bool (decide ((((J1 f0 f1).2.1 : Nat) : Int) = (((J2 f0 f1 f2 g0 g1).2.1 : Nat) : Int)))) 36 rfl (by kernel_rfl) (.inr (fun _ h => st_take [0, 0, 0, 0, 0, 0, 0] h)) (.inl ⟨rfl, fun _ => q_eql rfl rfl rfl⟩) ?_
            refine Wr.pure (v := Value.pointer (some ⟨b1, 0, none⟩)) 37 rfl (by kernel_rfl) (.inr (fun _ h => st_take [0, 0, 0, 0, 0, 0, 0] h)) (.inl ⟨rfl, fun _ => q_idx_arr (m := 0) Tryd.underlying22 sz_4 hE2_23 rfl (by decide) (by decide) rfl⟩) ?_
            refine Wr.take (v := Value.bool f0) 38 rfl (by kernel_rfl) (fun _ h => st_take [0, 0, 0, 0, 0, 0, 0] h) (.inl ⟨rfl, q_load sc_4 rfl (.cel (i := 6) rfl rfl)⟩) ?_
            refine Wr.pure (v := Value.pointer (some ⟨b2, 0, none⟩)) 39 rfl (by kernel_rfl) (.inr (fun _ h => st_take [0, 0, 0, 0, 0, 0, 0] h)) (.inl ⟨rfl, fun _ => q_idx_arr (m := 0) Tryd.underlying22 sz_4 hE3_23 rfl (by decide) (by decide) rfl⟩) ?_
            refine Wr.take (v := Value.bool g0) 40 rfl (by kernel_rfl) (fun _ h => st_take [0, 0, 0, 0, 0, 0, 0] h) (.inl ⟨rfl, q_load sc_4 rfl (.cel (i := 5) rfl rfl)⟩) ?_
            by_cases hab : f0 = g0
            ·
              refine Wr.pure (v := Value.bool true) 41 rfl (by kernel_rfl) (.inr (fun _ h => st_take [0, 0, 0, 0, 0, 0, 0] h)) (.inl ⟨rfl, fun _ => q_eql_bool (r := true) rfl rfl Tryd.underlying4 (beq_iff_eq.2 hab)⟩) ?_
              refine Wr.pure (v := Value.bool true) 42 rfl (by kernel_rfl) (.inr (fun _ h => st_take [0, 0, 0, 0, 0, 0, 0] h)) (.inl ⟨rfl, fun _ => q_move rfl⟩) ?_
              refine Wr.pure (v := Value.pointer (some ⟨b1, 1, none⟩)) 43 rfl (by kernel_rfl) (.inr (fun _ h => st_take [0, 0, 0, 0, 0, 0, 0] h)) (.inl ⟨rfl, fun _ => q_idx_arr (m := 1) Tryd.underlying22 sz_4 hE2_23 rfl (by decide) (by decide) rfl⟩) ?_
              refine Wr.take (v := Value.bool f1) 44 rfl (by kernel_rfl) (fun _ h => st_take [0, 0, 0, 0, 0, 0, 0] h) (.inl ⟨rfl, q_load sc_4 rfl (.cel (i := 6) rfl rfl)⟩) ?_
              refine Wr.pure (v := Value.pointer (some ⟨b2, 1, none⟩)) 45 rfl (by kernel_rfl) (.inr (fun _ h => st_take [0, 0, 0, 0, 0, 0, 0] h)) (.inl ⟨rfl, fun _ => q_idx_arr (m := 1) Tryd.underlying22 sz_4 hE3_23 rfl (by decide) (by decide) rfl⟩) ?_
              refine Wr.take (v := Value.bool g1) 46 rfl (by kernel_rfl) (fun _ h => st_take [0, 0, 0, 0, 0, 0, 0] h) (.inl ⟨rfl, q_load sc_4 rfl (.cel (i := 5) rfl rfl)⟩) ?_
              refine Wr.pure (v := Value.bool (f1 == g1)) 47 rfl (by kernel_rfl) (.inr (fun _ h => st_take [0, 0, 0, 0, 0, 0, 0] h)) (.inl ⟨rfl, fun _ => q_eql_bool (r := (f1 == g1)) rfl rfl Tryd.underlying4 rfl⟩) ?_
              refine Wr.pure (v := Value.bool (f1 == g1)) 48 rfl (by kernel_rfl) (.inr (fun _ h => st_take [0, 0, 0, 0, 0, 0, 0] h)) (.inl ⟨rfl, fun _ => q_pick (t := true) rfl rfl⟩) ?_
              refine Wr.pure (v := Value.bool true) 49 rfl (by kernel_rfl) (.inr (fun _ h => st_take [0, 0, 0, 0, 0, 0, 0] h)) (.inl ⟨rfl, fun _ => q_eql_bool (r := true) rfl rfl Tryd.underlying4 (beq_iff_eq.2 ((by rw [unlike_j f0 f1 f2 g0 g1 g2]; simp [hab])))⟩) ?_
              refine Wr.pure (v := Value.bool true) 50 rfl (by kernel_rfl) (.inr (fun _ h => st_take [0, 0, 0, 0, 0, 0, 0] h)) (.inl ⟨rfl, fun _ => q_pick (t := true) rfl rfl⟩) ?_
              refine Wr.pure (v := Value.bool true) 51 rfl (by kernel_rfl) (.inr (fun _ h => st_take [0, 0, 0, 0, 0, 0, 0] h)) (.inl ⟨rfl, fun _ => q_move rfl⟩) ?_
              refine Wr.e 52 (by kernel_rfl) rfl (e_call (F := (storeW b4 (N2 f0 f1 f2 g0 g1 g2).d.1) :: (pt b31 33 [Value.int .i64 (((J2 f0 f1 f2 g0 g1).2.1 : Nat) : Int), Value.int .i64 (((N2 f0 f1 f2 g0 g1 g2).e.2.1 : Nat) : Int), Value.int .i64 (((N2 f0 f1 f2 g0 g1 g2).a.2.1 : Nat) : Int), Value.int .i64 (((N2 f0 f1 f2 g0 g1 g2).b.2.1 : Nat) : Int), Value.int .i64 (((N2 f0 f1 f2 g0 g1 g2).c.2.1 : Nat) : Int), Value.int .i64 (((N2 f0 f1 f2 g0 g1 g2).d.2.1 : Nat) : Int)]) :: (pt b29 33 [Value.int .i64 (((J1 f0 f1).2.1 : Nat) : Int), Value.int .i64 (((N1 f0 f1 f2).e.2.1 : Nat) : Int), Value.int .i64 (((N1 f0 f1 f2).a.2.1 : Nat) : Int), Value.int .i64 (((N1 f0 f1 f2).b.2.1 : Nat) : Int), Value.int .i64 (((N1 f0 f1 f2).c.2.1 : Nat) : Int), Value.int .i64 (((N1 f0 f1 f2).d.2.1 : Nat) : Int)]) :: (pt b7 3 [Value.int .i64 (pk g0 0), Value.int .i64 (pk g1 1), Value.int .i64 (pk g2 2)]) :: (pt b6 3 [Value.int .i64 (pk f0 0), Value.int .i64 (pk f1 1), Value.int .i64 (pk f2 2)]) :: (pt b2 22 [Value.bool g0, Value.bool g1, Value.bool g2]) :: (pt b1 22 [Value.bool f0, Value.bool f1, Value.bool f2]) :: F) (args := []) Tryd.call7 rfl (au1_lives W0)) (.inl (by kernel_rfl)) (fun _ _ => ?_)
              refine Wr.imp (L' := (storeW b4 (N2 f0 f1 f2 g0 g1 g2).d.1) :: (pt b31 33 [Value.int .i64 (((J2 f0 f1 f2 g0 g1).2.1 : Nat) : Int), Value.int .i64 (((N2 f0 f1 f2 g0 g1 g2).e.2.1 : Nat) : Int), Value.int .i64 (((N2 f0 f1 f2 g0 g1 g2).a.2.1 : Nat) : Int), Value.int .i64 (((N2 f0 f1 f2 g0 g1 g2).b.2.1 : Nat) : Int), Value.int .i64 (((N2 f0 f1 f2 g0 g1 g2).c.2.1 : Nat) : Int), Value.int .i64 (((N2 f0 f1 f2 g0 g1 g2).d.2.1 : Nat) : Int)]) :: (pt b29 33 [Value.int .i64 (((J1 f0 f1).2.1 : Nat) : Int), Value.int .i64 (((N1 f0 f1 f2).e.2.1 : Nat) : Int), Value.int .i64 (((N1 f0 f1 f2).a.2.1 : Nat) : Int), Value.int .i64 (((N1 f0 f1 f2).b.2.1 : Nat) : Int), Value.int .i64 (((N1 f0 f1 f2).c.2.1 : Nat) : Int), Value.int .i64 (((N1 f0 f1 f2).d.2.1 : Nat) : Int)]) :: (pt b7 3 [Value.int .i64 (pk g0 0), Value.int .i64 (pk g1 1), Value.int .i64 (pk g2 2)]) :: (pt b6 3 [Value.int .i64 (pk f0 0), Value.int .i64 (pk f1 1), Value.int .i64 (pk f2 2)]) :: (pt b2 22 [Value.bool g0, Value.bool g1, Value.bool g2]) :: (pt b1 22 [Value.bool f0, Value.bool f1, Value.bool f2]) :: F) (fun _ h => h) ?_
              refine Wr.rebaseS [] ((storeW b4 (N2 f0 f1 f2 g0 g1 g2).d.1) :: (pt b31 33 [Value.int .i64 (((J2 f0 f1 f2 g0 g1).2.1 : Nat) : Int), Value.int .i64 (((N2 f0 f1 f2 g0 g1 g2).e.2.1 : Nat) : Int), Value.int .i64 (((N2 f0 f1 f2 g0 g1 g2).a.2.1 : Nat) : Int), Value.int .i64 (((N2 f0 f1 f2 g0 g1 g2).b.2.1 : Nat) : Int), Value.int .i64 (((N2 f0 f1 f2 g0 g1 g2).c.2.1 : Nat) : Int), Value.int .i64 (((N2 f0 f1 f2 g0 g1 g2).d.2.1 : Nat) : Int)]) :: (pt b29 33 [Value.int .i64 (((J1 f0 f1).2.1 : Nat) : Int), Value.int .i64 (((N1 f0 f1 f2).e.2.1 : Nat) : Int), Value.int .i64 (((N1 f0 f1 f2).a.2.1 : Nat) : Int), Value.int .i64 (((N1 f0 f1 f2).b.2.1 : Nat) : Int), Value.int .i64 (((N1 f0 f1 f2).c.2.1 : Nat) : Int), Value.int .i64 (((N1 f0 f1 f2).d.2.1 : Nat) : Int)]) :: (pt b7 3 [Value.int .i64 (pk g0 0), Value.int .i64 (pk g1 1), Value.int .i64 (pk g2 2)]) :: (pt b6 3 [Value.int .i64 (pk f0 0), Value.int .i64 (pk f1 1), Value.int .i64 (pk f2 2)]) :: (pt b2 22 [Value.bool g0, Value.bool g1, Value.bool g2]) :: (pt b1 22 [Value.bool f0, Value.bool f1, Value.bool f2]) :: []) (by kernel_rfl) ?_
              refine Wr.pure (v := Value.bool true) 53 rfl (by kernel_rfl) (.inr (fun _ h => st_take [0, 0, 0, 0, 0, 0, 0] h)) (.inl ⟨rfl, fun _ => q_pick (t := true) rfl rfl⟩) ?_
              refine Wr.pure (v := Value.bool true) 54 rfl (by kernel_rfl) (.inr (fun _ h => st_take [0, 0, 0, 0, 0, 0, 0] h)) (.inl ⟨rfl, fun _ => q_assign rfl⟩) ?_
              refine Wr.done (by kernel_rfl) ?_
              refine Wx.go ?_
              refine Wc.ret ?_
              refine Wx.fin1 rfl (.inl rfl) (fun w hs => ?_)
              have hs : st W0 w (F) := (st_drop (st_drop (st_drop (st_drop (st_drop (st_drop (st_drop (st_pull [0, 0, 0, 0, 0, 0, 0] hs))))))))
              exact ⟨(), trivial, rfl, hs⟩
            ·
              refine Wr.pure (v := Value.bool false) 41 rfl (by kernel_rfl) (.inr (fun _ h => st_take [0, 0, 0, 0, 0, 0, 0] h)) (.inl ⟨rfl, fun _ => q_eql_bool (r := false) rfl rfl Tryd.underlying4 (beq_eq_false_iff_ne.2 hab)⟩) ?_
              refine Wr.pure (v := Value.bool false) 42 rfl (by kernel_rfl) (.inr (fun _ h => st_take [0, 0, 0, 0, 0, 0, 0] h)) (.inl ⟨rfl, fun _ => q_move rfl⟩) ?_
              refine Wr.pure (v := undef) 43 rfl (by kernel_rfl) (.inr (fun _ h => st_take [0, 0, 0, 0, 0, 0, 0] h)) (.inr ⟨rfl, rfl⟩) ?_
              refine Wr.pure (v := undef) 44 rfl (by kernel_rfl) (.inr (fun _ h => st_take [0, 0, 0, 0, 0, 0, 0] h)) (.inr ⟨rfl, rfl⟩) ?_
              refine Wr.pure (v := undef) 45 rfl (by kernel_rfl) (.inr (fun _ h => st_take [0, 0, 0, 0, 0, 0, 0] h)) (.inr ⟨rfl, rfl⟩) ?_
              refine Wr.pure (v := undef) 46 rfl (by kernel_rfl) (.inr (fun _ h => st_take [0, 0, 0, 0, 0, 0, 0] h)) (.inr ⟨rfl, rfl⟩) ?_
              refine Wr.pure (v := undef) 47 rfl (by kernel_rfl) (.inr (fun _ h => st_take [0, 0, 0, 0, 0, 0, 0] h)) (.inr ⟨rfl, rfl⟩) ?_
              refine Wr.pure (v := Value.bool false) 48 rfl (by kernel_rfl) (.inr (fun _ h => st_take [0, 0, 0, 0, 0, 0, 0] h)) (.inl ⟨rfl, fun _ => q_pick (t := false) rfl rfl⟩) ?_
              refine Wr.pure (v := Value.bool true) 49 rfl (by kernel_rfl) (.inr (fun _ h => st_take [0, 0, 0, 0, 0, 0, 0] h)) (.inl ⟨rfl, fun _ => q_eql_bool (r := true) rfl rfl Tryd.underlying4 (beq_iff_eq.2 ((by rw [unlike_j f0 f1 f2 g0 g1 g2]; simp [hab])))⟩) ?_
              refine Wr.pure (v := Value.bool true) 50 rfl (by kernel_rfl) (.inr (fun _ h => st_take [0, 0, 0, 0, 0, 0, 0] h)) (.inl ⟨rfl, fun _ => q_pick (t := true) rfl rfl⟩) ?_
              refine Wr.pure (v := Value.bool true) 51 rfl (by kernel_rfl) (.inr (fun _ h => st_take [0, 0, 0, 0, 0, 0, 0] h)) (.inl ⟨rfl, fun _ => q_move rfl⟩) ?_
              refine Wr.e 52 (by kernel_rfl) rfl (e_call (F := (storeW b4 (N2 f0 f1 f2 g0 g1 g2).d.1) :: (pt b31 33 [Value.int .i64 (((J2 f0 f1 f2 g0 g1).2.1 : Nat) : Int), Value.int .i64 (((N2 f0 f1 f2 g0 g1 g2).e.2.1 : Nat) : Int), Value.int .i64 (((N2 f0 f1 f2 g0 g1 g2).a.2.1 : Nat) : Int), Value.int .i64 (((N2 f0 f1 f2 g0 g1 g2).b.2.1 : Nat) : Int), Value.int .i64 (((N2 f0 f1 f2 g0 g1 g2).c.2.1 : Nat) : Int), Value.int .i64 (((N2 f0 f1 f2 g0 g1 g2).d.2.1 : Nat) : Int)]) :: (pt b29 33 [Value.int .i64 (((J1 f0 f1).2.1 : Nat) : Int), Value.int .i64 (((N1 f0 f1 f2).e.2.1 : Nat) : Int), Value.int .i64 (((N1 f0 f1 f2).a.2.1 : Nat) : Int), Value.int .i64 (((N1 f0 f1 f2).b.2.1 : Nat) : Int), Value.int .i64 (((N1 f0 f1 f2).c.2.1 : Nat) : Int), Value.int .i64 (((N1 f0 f1 f2).d.2.1 : Nat) : Int)]) :: (pt b7 3 [Value.int .i64 (pk g0 0), Value.int .i64 (pk g1 1), Value.int .i64 (pk g2 2)]) :: (pt b6 3 [Value.int .i64 (pk f0 0), Value.int .i64 (pk f1 1), Value.int .i64 (pk f2 2)]) :: (pt b2 22 [Value.bool g0, Value.bool g1, Value.bool g2]) :: (pt b1 22 [Value.bool f0, Value.bool f1, Value.bool f2]) :: F) (args := []) Tryd.call7 rfl (au1_lives W0)) (.inl (by kernel_rfl)) (fun _ _ => ?_)
              refine Wr.imp (L' := (storeW b4 (N2 f0 f1 f2 g0 g1 g2).d.1) :: (pt b31 33 [Value.int .i64 (((J2 f0 f1 f2 g0 g1).2.1 : Nat) : Int), Value.int .i64 (((N2 f0 f1 f2 g0 g1 g2).e.2.1 : Nat) : Int), Value.int .i64 (((N2 f0 f1 f2 g0 g1 g2).a.2.1 : Nat) : Int), Value.int .i64 (((N2 f0 f1 f2 g0 g1 g2).b.2.1 : Nat) : Int), Value.int .i64 (((N2 f0 f1 f2 g0 g1 g2).c.2.1 : Nat) : Int), Value.int .i64 (((N2 f0 f1 f2 g0 g1 g2).d.2.1 : Nat) : Int)]) :: (pt b29 33 [Value.int .i64 (((J1 f0 f1).2.1 : Nat) : Int), Value.int .i64 (((N1 f0 f1 f2).e.2.1 : Nat) : Int), Value.int .i64 (((N1 f0 f1 f2).a.2.1 : Nat) : Int), Value.int .i64 (((N1 f0 f1 f2).b.2.1 : Nat) : Int), Value.int .i64 (((N1 f0 f1 f2).c.2.1 : Nat) : Int), Value.int .i64 (((N1 f0 f1 f2).d.2.1 : Nat) : Int)]) :: (pt b7 3 [Value.int .i64 (pk g0 0), Value.int .i64 (pk g1 1), Value.int .i64 (pk g2 2)]) :: (pt b6 3 [Value.int .i64 (pk f0 0), Value.int .i64 (pk f1 1), Value.int .i64 (pk f2 2)]) :: (pt b2 22 [Value.bool g0, Value.bool g1, Value.bool g2]) :: (pt b1 22 [Value.bool f0, Value.bool f1, Value.bool f2]) :: F) (fun _ h => h) ?_
              refine Wr.rebaseS [] ((storeW b4 (N2 f0 f1 f2 g0 g1 g2).d.1) :: (pt b31 33 [Value.int .i64 (((J2 f0 f1 f2 g0 g1).2.1 : Nat) : Int), Value.int .i64 (((N2 f0 f1 f2 g0 g1 g2).e.2.1 : Nat) : Int), Value.int .i64 (((N2 f0 f1 f2 g0 g1 g2).a.2.1 : Nat) : Int), Value.int .i64 (((N2 f0 f1 f2 g0 g1 g2).b.2.1 : Nat) : Int), Value.int .i64 (((N2 f0 f1 f2 g0 g1 g2).c.2.1 : Nat) : Int), Value.int .i64 (((N2 f0 f1 f2 g0 g1 g2).d.2.1 : Nat) : Int)]) :: (pt b29 33 [Value.int .i64 (((J1 f0 f1).2.1 : Nat) : Int), Value.int .i64 (((N1 f0 f1 f2).e.2.1 : Nat) : Int), Value.int .i64 (((N1 f0 f1 f2).a.2.1 : Nat) : Int), Value.int .i64 (((N1 f0 f1 f2).b.2.1 : Nat) : Int), Value.int .i64 (((N1 f0 f1 f2).c.2.1 : Nat) : Int), Value.int .i64 (((N1 f0 f1 f2).d.2.1 : Nat) : Int)]) :: (pt b7 3 [Value.int .i64 (pk g0 0), Value.int .i64 (pk g1 1), Value.int .i64 (pk g2 2)]) :: (pt b6 3 [Value.int .i64 (pk f0 0), Value.int .i64 (pk f1 1), Value.int .i64 (pk f2 2)]) :: (pt b2 22 [Value.bool g0, Value.bool g1, Value.bool g2]) :: (pt b1 22 [Value.bool f0, Value.bool f1, Value.bool f2]) :: []) (by kernel_rfl) ?_
              refine Wr.pure (v := Value.bool true) 53 rfl (by kernel_rfl) (.inr (fun _ h => st_take [0, 0, 0, 0, 0, 0, 0] h)) (.inl ⟨rfl, fun _ => q_pick (t := true) rfl rfl⟩) ?_
              refine Wr.pure (v := Value.bool true) 54 rfl (by kernel_rfl) (.inr (fun _ h => st_take [0, 0, 0, 0, 0, 0, 0] h)) (.inl ⟨rfl, fun _ => q_assign rfl⟩) ?_
              refine Wr.done (by kernel_rfl) ?_
              refine Wx.go ?_
              refine Wc.ret ?_
              refine Wx.fin1 rfl (.inl rfl) (fun w hs => ?_)
              have hs : st W0 w (F) := (st_drop (st_drop (st_drop (st_drop (st_drop (st_drop (st_drop (st_pull [0, 0, 0, 0, 0, 0, 0] hs))))))))
              exact ⟨(), trivial, rfl, hs⟩

end Go.Proofs.YtoehhbapilfdbaaDoor
