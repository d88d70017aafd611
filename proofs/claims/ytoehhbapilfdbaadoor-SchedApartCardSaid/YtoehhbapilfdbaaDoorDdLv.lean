/- What follows: contracts of the calls. -/
import Derived.Test.YtoehhbapilfdbaaDoorDdW
namespace Go.Proofs.YtoehhbapilfdbaaDoor
open Go Go.SL Go.Dd Go.RowKit
set_option linter.unusedVariables false
set_option maxRecDepth 8000
theorem sc_31 : scalar Tryd.prog 31 = true := by kernel_rfl
theorem se_31 : sliceElem Tryd.prog 31 = some (3, 1) := by kernel_rfl
theorem sz_3 : sizeIs Tryd.prog 3 = some 1 := by kernel_rfl
theorem by_3 : (Tryd.prog.info? 3).map (·.bytes) = some 8 := by kernel_rfl
theorem sc_23 : scalar Tryd.prog 23 = true := by kernel_rfl
theorem zo_58 : zeroOf Tryd.prog 58 = some (Value.agg #[Value.slice none 0 0]) := by kernel_rfl
theorem ag_62 : aggSize Tryd.prog 62 = some 3 := by kernel_rfl
theorem ag_58 : aggSize Tryd.prog 58 = some 1 := by kernel_rfl
theorem fo_58_0 : fieldOff Tryd.prog 58 0 = some 0 := by kernel_rfl
theorem sc_56 : scalar Tryd.prog 56 = true := by kernel_rfl
theorem fo_62_0 : fieldOff Tryd.prog 62 0 = some 0 := by kernel_rfl
theorem fo_62_1 : fieldOff Tryd.prog 62 1 = some 1 := by kernel_rfl
theorem fo_62_2 : fieldOff Tryd.prog 62 2 = some 2 := by kernel_rfl
theorem sz_58 : sizeIs Tryd.prog 58 = some 1 := by kernel_rfl
theorem zo_87 : zeroOf Tryd.prog 87 = some (Value.agg #[Value.int .i64 0, Value.int .i64 0, Value.int .i64 0, Value.slice none 0 0]) := by kernel_rfl
theorem se_56 : sliceElem Tryd.prog 56 = some (87, 4) := by kernel_rfl
theorem sz_87 : sizeIs Tryd.prog 87 = some 4 := by kernel_rfl
theorem by_87 : (Tryd.prog.info? 87).map (·.bytes) = some 48 := by kernel_rfl
theorem sz_56 : sizeIs Tryd.prog 56 = some 1 := by kernel_rfl
theorem ag_87 : aggSize Tryd.prog 87 = some 4 := by kernel_rfl
theorem fo_87_0 : fieldOff Tryd.prog 87 0 = some 0 := by kernel_rfl
theorem fo_87_1 : fieldOff Tryd.prog 87 1 = some 1 := by kernel_rfl
theorem fo_87_2 : fieldOff Tryd.prog 87 2 = some 2 := by kernel_rfl
theorem fo_87_3 : fieldOff Tryd.prog 87 3 = some 3 := by kernel_rfl
theorem zo_52 : zeroOf Tryd.prog 52 = some (Value.agg #[Value.pointer none, Value.int .i64 0]) := by kernel_rfl
theorem fo_52_1 : fieldOff Tryd.prog 52 1 = some 1 := by kernel_rfl
theorem sc_34 : scalar Tryd.prog 34 = true := by kernel_rfl
theorem fo_52_0 : fieldOff Tryd.prog 52 0 = some 0 := by kernel_rfl
theorem sz_34 : sizeIs Tryd.prog 34 = some 1 := by kernel_rfl
def tl0_1 : List TermR := [⟨1, 1, 0, 0⟩]

def tl1_2 : List TermR := [⟨1, 1, 0, 0⟩, ⟨1, 2, 0, 0⟩]

def tl2_3 : List TermR := [⟨1, 1, 0, 0⟩, ⟨1, 2, 0, 0⟩, ⟨5, 0, 1, 0⟩]

set_option maxRecDepth 8000 in
set_option maxHeartbeats 4000000 in
theorem au2_Build (W0 : World) (q0 : Nat)  :
    Con Tryd.prog W0 5 #[Value.slice (some ⟨q0, 0, none⟩) 3 3] [pt q0 29 [Value.int .u8 1, iv 1, iv 0, iv 0, Value.int .u8 1, iv 2, iv 0, iv 0, Value.int .u8 5, iv 0, iv 1, iv 0]] (X := Nat × Nat) (fun _ => True) (fun y => Value.tuple #[Value.pointer (some ⟨y.1, 0, none⟩), Value.pointer (some ⟨y.2, 0, none⟩), Value.bool true]) (fun y => [pt q0 29 [Value.int .u8 1, iv 1, iv 0, iv 0, Value.int .u8 1, iv 2, iv 0, iv 0, Value.int .u8 5, iv 0, iv 1, iv 0], storeW y.1 tl2_3, refW y.2 tl2_3]) := by
  refine Con.of (args := [Value.slice (some ⟨q0, 0, none⟩) 3 3]) Tryd.func5 rfl Tryd.ntmps5 rfl (fun F => ?_)
  show Wc _ W0 _ _ _ _ _ ((pt q0 29 [Value.int .u8 1, iv 1, iv 0, iv 0, Value.int .u8 1, iv 2, iv 0, iv 0, Value.int .u8 5, iv 0, iv 1, iv 0]) :: F)
  refine Wc.seq ?_
  refine Wc.region ?_
  refine Wl.q (v := Value.pointer none) (q_assign rfl) ?_
  refine Wl.q (v := Value.pointer none) (q_assign rfl) ?_
  refine Wl.q (v := Value.bool false) (q_assign rfl) ?_
  refine Wl.done ?_
  refine Wx.go ?_
  refine Wc.seq ?_
  refine Wc.region ?_
  refine Wl.e (e_call (F := (pt q0 29 [Value.int .u8 1, iv 1, iv 0, iv 0, Value.int .u8 1, iv 2, iv 0, iv 0, Value.int .u8 5, iv 0, iv 1, iv 0]) :: F) (args := []) Tryd.call10 rfl (tnew_w W0)) (fun s1 _ => ?_)
  refine Wl.imp (L' := (storeW s1 []) :: (pt q0 29 [Value.int .u8 1, iv 1, iv 0, iv 0, Value.int .u8 1, iv 2, iv 0, iv 0, Value.int .u8 5, iv 0, iv 1, iv 0]) :: F) (fun _ h => h) ?_
  refine Wl.q (v := pv s1) (q_assign rfl) ?_
  refine Wl.done ?_
  refine Wx.go ?_
  refine Wc.seq ?_
  refine Wc.region ?_
  refine Wl.e (e_call (F := (storeW s1 []) :: (pt q0 29 [Value.int .u8 1, iv 1, iv 0, iv 0, Value.int .u8 1, iv 2, iv 0, iv 0, Value.int .u8 5, iv 0, iv 1, iv 0]) :: F) (args := []) Tryd.call11 rfl (rtnew_w W0)) (fun s2 _ => ?_)
  refine Wl.imp (L' := (refW s2 []) :: (storeW s1 []) :: (pt q0 29 [Value.int .u8 1, iv 1, iv 0, iv 0, Value.int .u8 1, iv 2, iv 0, iv 0, Value.int .u8 5, iv 0, iv 1, iv 0]) :: F) (fun _ h => h) ?_
  refine Wl.q (v := pv s2) (q_assign rfl) ?_
  refine Wl.done ?_
  refine Wx.go ?_
  refine Wc.seq ?_
  refine Wc.seq ?_
  refine Wc.region ?_
  refine Wl.q (v := iv 0) (q_assign rfl) ?_
  refine Wl.done ?_
  refine Wx.go ?_
  refine Wc.block ?_
  refine Wc.rounds 64 ?_
  refine Wn.round ?_
  refine Wc.seq ?_
  refine Wc.seq ?_
  refine Wc.region ?_
  refine Wl.q (v := iv 0) (q_move rfl) ?_
  refine Wl.q (v := Value.slice (some ⟨q0, 0, none⟩) 3 3) (q_move rfl) ?_
  refine Wl.q (v := iv 3) (q_len_slice Tryd.underlying30 rfl) ?_
  refine Wl.q (v := Value.bool true) (q_lss (r := true) rfl rfl (decide_eq_true (by decide))) ?_
  refine Wl.done ?_
  refine Wx.go ?_
  refine Wc.yes rfl ?_
  refine Wc.skip ?_
  refine Wx.go ?_
  refine Wc.seq ?_
  refine Wc.block ?_
  refine Wc.seq ?_
  refine Wc.region ?_
  refine Wl.q (v := pv s1) (q_move rfl) ?_
  refine Wl.q (v := Value.slice (some ⟨q0, 0, none⟩) 3 3) (q_move rfl) ?_
  refine Wl.q (v := iv 0) (q_move rfl) ?_
  refine Wl.q (v := pv q0) (q_idx (m := 0) se_30 rfl rfl (by omega) (by omega) rfl) ?_
  refine Wl.q (v := Value.agg #[Value.int .u8 1, iv 1, iv 0, iv 0]) (q_loadAgg (vs := [Value.int .u8 1, iv 1, iv 0, iv 0]) ag_29 rfl (Has.of_pt (i := 2) rfl rfl)) ?_
  refine Wl.imp (L' := (storeW s1 []) :: (refW s2 []) :: (pt q0 29 [Value.int .u8 1, iv 1, iv 0, iv 0, Value.int .u8 1, iv 2, iv 0, iv 0, Value.int .u8 5, iv 0, iv 1, iv 0]) :: F) (fun _ h => st_pull [1] h) ?_
  refine Wl.e (e_call (F := (refW s2 []) :: (pt q0 29 [Value.int .u8 1, iv 1, iv 0, iv 0, Value.int .u8 1, iv 2, iv 0, iv 0, Value.int .u8 5, iv 0, iv 1, iv 0]) :: F) (args := [pv s1, Value.agg #[Value.int .u8 1, iv 1, iv 0, iv 0]]) Tryd.call12 rfl (make_w W0 s1 [] tl0_1 ⟨1, 1, 0, 0⟩ 1 1 0 (by unfold okT; decide) (by decide +kernel) rfl)) (fun _ _ => ?_)
  refine Wl.imp (L' := (storeW s1 tl0_1) :: (refW s2 []) :: (pt q0 29 [Value.int .u8 1, iv 1, iv 0, iv 0, Value.int .u8 1, iv 2, iv 0, iv 0, Value.int .u8 5, iv 0, iv 1, iv 0]) :: F) (fun _ h => h) ?_
  refine Wl.q (v := Value.tuple #[iv 1, iv 0]) (q_move rfl) ?_
  refine Wl.q (v := iv 1) (q_extract (i := 0) rfl rfl) ?_
  refine Wl.q (v := iv 0) (q_extract (i := 1) rfl rfl) ?_
  refine Wl.q (v := iv 1) (q_assign rfl) ?_
  refine Wl.q (v := iv 0) (q_assign rfl) ?_
  refine Wl.done ?_
  refine Wx.go ?_
  refine Wc.seq ?_
  refine Wc.region ?_
  refine Wl.q (v := pv s2) (q_move rfl) ?_
  refine Wl.q (v := Value.slice (some ⟨q0, 0, none⟩) 3 3) (q_move rfl) ?_
  refine Wl.q (v := iv 0) (q_move rfl) ?_
  refine Wl.q (v := pv q0) (q_idx (m := 0) se_30 rfl rfl (by omega) (by omega) rfl) ?_
  refine Wl.q (v := Value.agg #[Value.int .u8 1, iv 1, iv 0, iv 0]) (q_loadAgg (vs := [Value.int .u8 1, iv 1, iv 0, iv 0]) ag_29 rfl (Has.of_pt (i := 2) rfl rfl)) ?_
  refine Wl.imp (L' := (refW s2 []) :: (storeW s1 tl0_1) :: (pt q0 29 [Value.int .u8 1, iv 1, iv 0, iv 0, Value.int .u8 1, iv 2, iv 0, iv 0, Value.int .u8 5, iv 0, iv 1, iv 0]) :: F) (fun _ h => st_pull [1] h) ?_
  refine Wl.e (e_call (F := (storeW s1 tl0_1) :: (pt q0 29 [Value.int .u8 1, iv 1, iv 0, iv 0, Value.int .u8 1, iv 2, iv 0, iv 0, Value.int .u8 5, iv 0, iv 1, iv 0]) :: F) (args := [pv s2, Value.agg #[Value.int .u8 1, iv 1, iv 0, iv 0]]) Tryd.call13 rfl (rmake_w W0 s2 [] tl0_1 ⟨1, 1, 0, 0⟩ 1 1 0 (by unfold okT; decide) (by decide +kernel) rfl)) (fun _ _ => ?_)
  refine Wl.imp (L' := (refW s2 tl0_1) :: (storeW s1 tl0_1) :: (pt q0 29 [Value.int .u8 1, iv 1, iv 0, iv 0, Value.int .u8 1, iv 2, iv 0, iv 0, Value.int .u8 5, iv 0, iv 1, iv 0]) :: F) (fun _ h => h) ?_
  refine Wl.q (v := Value.tuple #[iv 1, iv 0]) (q_move rfl) ?_
  refine Wl.q (v := iv 1) (q_extract (i := 0) rfl rfl) ?_
  refine Wl.q (v := iv 0) (q_extract (i := 1) rfl rfl) ?_
  refine Wl.q (v := iv 1) (q_assign rfl) ?_
  refine Wl.q (v := iv 0) (q_assign rfl) ?_
  refine Wl.done ?_
  refine Wx.go ?_
  refine Wc.seq ?_
  refine Wc.region ?_
  refine Wl.q (v := iv 1) (q_move rfl) ?_
  refine Wl.q (v := iv 1) (q_move rfl) ?_
  refine Wl.q (v := Value.bool false) (q_neq (r := true) rfl rfl (decide_eq_true (by decide))) ?_
  refine Wl.q (v := Value.bool false) (q_move rfl) ?_
  refine Wl.q (v := iv 0) (q_move rfl) ?_
  refine Wl.q (v := iv 0) (q_move rfl) ?_
  refine Wl.q (v := Value.bool false) (q_neq (r := true) rfl rfl (decide_eq_true (by decide))) ?_
  refine Wl.q (v := Value.bool false) (q_pick (t := false) rfl rfl) ?_
  refine Wl.done ?_
  refine Wx.go ?_
  refine Wc.no rfl ?_
  refine Wc.skip ?_
  refine Wx.blockEnd ?_
  refine Wx.go ?_
  refine Wc.region ?_
  refine Wl.q (v := iv 0) (q_move rfl) ?_
  refine Wl.q (v := iv 1) (q_add (c := 1) rfl rfl (by decide)) ?_
  refine Wl.q (v := iv 1) (q_assign rfl) ?_
  refine Wl.done ?_
  refine Wx.again ?_
  refine Wn.round ?_
  refine Wc.seq ?_
  refine Wc.seq ?_
  refine Wc.region ?_
  refine Wl.q (v := iv 1) (q_move rfl) ?_
  refine Wl.q (v := Value.slice (some ⟨q0, 0, none⟩) 3 3) (q_move rfl) ?_
  refine Wl.q (v := iv 3) (q_len_slice Tryd.underlying30 rfl) ?_
  refine Wl.q (v := Value.bool true) (q_lss (r := true) rfl rfl (decide_eq_true (by decide))) ?_
  refine Wl.done ?_
  refine Wx.go ?_
  refine Wc.yes rfl ?_
  refine Wc.skip ?_
  refine Wx.go ?_
  refine Wc.seq ?_
  refine Wc.block ?_
  refine Wc.seq ?_
  refine Wc.region ?_
  refine Wl.q (v := pv s1) (q_move rfl) ?_
  refine Wl.q (v := Value.slice (some ⟨q0, 0, none⟩) 3 3) (q_move rfl) ?_
  refine Wl.q (v := iv 1) (q_move rfl) ?_
  refine Wl.q (v := Value.pointer (some ⟨q0, 4, none⟩)) (q_idx (m := 4) se_30 rfl rfl (by omega) (by omega) rfl) ?_
  refine Wl.q (v := Value.agg #[Value.int .u8 1, iv 2, iv 0, iv 0]) (q_loadAgg (vs := [Value.int .u8 1, iv 2, iv 0, iv 0]) ag_29 rfl (Has.of_pt (i := 2) rfl rfl)) ?_
  refine Wl.imp (L' := (storeW s1 tl0_1) :: (refW s2 tl0_1) :: (pt q0 29 [Value.int .u8 1, iv 1, iv 0, iv 0, Value.int .u8 1, iv 2, iv 0, iv 0, Value.int .u8 5, iv 0, iv 1, iv 0]) :: F) (fun _ h => st_pull [1] h) ?_
  refine Wl.e (e_call (F := (refW s2 tl0_1) :: (pt q0 29 [Value.int .u8 1, iv 1, iv 0, iv 0, Value.int .u8 1, iv 2, iv 0, iv 0, Value.int .u8 5, iv 0, iv 1, iv 0]) :: F) (args := [pv s1, Value.agg #[Value.int .u8 1, iv 2, iv 0, iv 0]]) Tryd.call12 rfl (make_w W0 s1 tl0_1 tl1_2 ⟨1, 2, 0, 0⟩ 2 2 0 (by unfold okT; decide) (by decide +kernel) rfl)) (fun _ _ => ?_)
  refine Wl.imp (L' := (storeW s1 tl1_2) :: (refW s2 tl0_1) :: (pt q0 29 [Value.int .u8 1, iv 1, iv 0, iv 0, Value.int .u8 1, iv 2, iv 0, iv 0, Value.int .u8 5, iv 0, iv 1, iv 0]) :: F) (fun _ h => h) ?_
  refine Wl.q (v := Value.tuple #[iv 2, iv 0]) (q_move rfl) ?_
  refine Wl.q (v := iv 2) (q_extract (i := 0) rfl rfl) ?_
  refine Wl.q (v := iv 0) (q_extract (i := 1) rfl rfl) ?_
  refine Wl.q (v := iv 2) (q_assign rfl) ?_
  refine Wl.q (v := iv 0) (q_assign rfl) ?_
  refine Wl.done ?_
  refine Wx.go ?_
  refine Wc.seq ?_
  refine Wc.region ?_
  refine Wl.q (v := pv s2) (q_move rfl) ?_
  refine Wl.q (v := Value.slice (some ⟨q0, 0, none⟩) 3 3) (q_move rfl) ?_
  refine Wl.q (v := iv 1) (q_move rfl) ?_
  refine Wl.q (v := Value.pointer (some ⟨q0, 4, none⟩)) (q_idx (m := 4) se_30 rfl rfl (by omega) (by omega) rfl) ?_
  refine Wl.q (v := Value.agg #[Value.int .u8 1, iv 2, iv 0, iv 0]) (q_loadAgg (vs := [Value.int .u8 1, iv 2, iv 0, iv 0]) ag_29 rfl (Has.of_pt (i := 2) rfl rfl)) ?_
  refine Wl.imp (L' := (refW s2 tl0_1) :: (storeW s1 tl1_2) :: (pt q0 29 [Value.int .u8 1, iv 1, iv 0, iv 0, Value.int .u8 1, iv 2, iv 0, iv 0, Value.int .u8 5, iv 0, iv 1, iv 0]) :: F) (fun _ h => st_pull [1] h) ?_
  refine Wl.e (e_call (F := (storeW s1 tl1_2) :: (pt q0 29 [Value.int .u8 1, iv 1, iv 0, iv 0, Value.int .u8 1, iv 2, iv 0, iv 0, Value.int .u8 5, iv 0, iv 1, iv 0]) :: F) (args := [pv s2, Value.agg #[Value.int .u8 1, iv 2, iv 0, iv 0]]) Tryd.call13 rfl (rmake_w W0 s2 tl0_1 tl1_2 ⟨1, 2, 0, 0⟩ 2 2 0 (by unfold okT; decide) (by decide +kernel) rfl)) (fun _ _ => ?_)
  refine Wl.imp (L' := (refW s2 tl1_2) :: (storeW s1 tl1_2) :: (pt q0 29 [Value.int .u8 1, iv 1, iv 0, iv 0, Value.int .u8 1, iv 2, iv 0, iv 0, Value.int .u8 5, iv 0, iv 1, iv 0]) :: F) (fun _ h => h) ?_
  refine Wl.q (v := Value.tuple #[iv 2, iv 0]) (q_move rfl) ?_
  refine Wl.q (v := iv 2) (q_extract (i := 0) rfl rfl) ?_
  refine Wl.q (v := iv 0) (q_extract (i := 1) rfl rfl) ?_
  refine Wl.q (v := iv 2) (q_assign rfl) ?_
  refine Wl.q (v := iv 0) (q_assign rfl) ?_
  refine Wl.done ?_
  refine Wx.go ?_
  refine Wc.seq ?_
  refine Wc.region ?_
  refine Wl.q (v := iv 2) (q_move rfl) ?_
  refine Wl.q (v := iv 2) (q_move rfl) ?_
  refine Wl.q (v := Value.bool false) (q_neq (r := true) rfl rfl (decide_eq_true (by decide))) ?_
  refine Wl.q (v := Value.bool false) (q_move rfl) ?_
  refine Wl.q (v := iv 0) (q_move rfl) ?_
  refine Wl.q (v := iv 0) (q_move rfl) ?_
  refine Wl.q (v := Value.bool false) (q_neq (r := true) rfl rfl (decide_eq_true (by decide))) ?_
  refine Wl.q (v := Value.bool false) (q_pick (t := false) rfl rfl) ?_
  refine Wl.done ?_
  refine Wx.go ?_
  refine Wc.no rfl ?_
  refine Wc.skip ?_
  refine Wx.blockEnd ?_
  refine Wx.go ?_
  refine Wc.region ?_
  refine Wl.q (v := iv 1) (q_move rfl) ?_
  refine Wl.q (v := iv 2) (q_add (c := 2) rfl rfl (by decide)) ?_
  refine Wl.q (v := iv 2) (q_assign rfl) ?_
  refine Wl.done ?_
  refine Wx.again ?_
  refine Wn.round ?_
  refine Wc.seq ?_
  refine Wc.seq ?_
  refine Wc.region ?_
  refine Wl.q (v := iv 2) (q_move rfl) ?_
  refine Wl.q (v := Value.slice (some ⟨q0, 0, none⟩) 3 3) (q_move rfl) ?_
  refine Wl.q (v := iv 3) (q_len_slice Tryd.underlying30 rfl) ?_
  refine Wl.q (v := Value.bool true) (q_lss (r := true) rfl rfl (decide_eq_true (by decide))) ?_
  refine Wl.done ?_
  refine Wx.go ?_
  refine Wc.yes rfl ?_
  refine Wc.skip ?_
  refine Wx.go ?_
  refine Wc.seq ?_
  refine Wc.block ?_
  refine Wc.seq ?_
  refine Wc.region ?_
  refine Wl.q (v := pv s1) (q_move rfl) ?_
  refine Wl.q (v := Value.slice (some ⟨q0, 0, none⟩) 3 3) (q_move rfl) ?_
  refine Wl.q (v := iv 2) (q_move rfl) ?_
  refine Wl.q (v := Value.pointer (some ⟨q0, 8, none⟩)) (q_idx (m := 8) se_30 rfl rfl (by omega) (by omega) rfl) ?_
  refine Wl.q (v := Value.agg #[Value.int .u8 5, iv 0, iv 1, iv 0]) (q_loadAgg (vs := [Value.int .u8 5, iv 0, iv 1, iv 0]) ag_29 rfl (Has.of_pt (i := 2) rfl rfl)) ?_
  refine Wl.imp (L' := (storeW s1 tl1_2) :: (refW s2 tl1_2) :: (pt q0 29 [Value.int .u8 1, iv 1, iv 0, iv 0, Value.int .u8 1, iv 2, iv 0, iv 0, Value.int .u8 5, iv 0, iv 1, iv 0]) :: F) (fun _ h => st_pull [1] h) ?_
  refine Wl.e (e_call (F := (refW s2 tl1_2) :: (pt q0 29 [Value.int .u8 1, iv 1, iv 0, iv 0, Value.int .u8 1, iv 2, iv 0, iv 0, Value.int .u8 5, iv 0, iv 1, iv 0]) :: F) (args := [pv s1, Value.agg #[Value.int .u8 5, iv 0, iv 1, iv 0]]) Tryd.call12 rfl (make_w W0 s1 tl1_2 tl2_3 ⟨5, 0, 1, 0⟩ 3 3 0 (by unfold okT; decide) (by decide +kernel) rfl)) (fun _ _ => ?_)
  refine Wl.imp (L' := (storeW s1 tl2_3) :: (refW s2 tl1_2) :: (pt q0 29 [Value.int .u8 1, iv 1, iv 0, iv 0, Value.int .u8 1, iv 2, iv 0, iv 0, Value.int .u8 5, iv 0, iv 1, iv 0]) :: F) (fun _ h => h) ?_
  refine Wl.q (v := Value.tuple #[iv 3, iv 0]) (q_move rfl) ?_
  refine Wl.q (v := iv 3) (q_extract (i := 0) rfl rfl) ?_
  refine Wl.q (v := iv 0) (q_extract (i := 1) rfl rfl) ?_
  refine Wl.q (v := iv 3) (q_assign rfl) ?_
  refine Wl.q (v := iv 0) (q_assign rfl) ?_
  refine Wl.done ?_
  refine Wx.go ?_
  refine Wc.seq ?_
  refine Wc.region ?_
  refine Wl.q (v := pv s2) (q_move rfl) ?_
  refine Wl.q (v := Value.slice (some ⟨q0, 0, none⟩) 3 3) (q_move rfl) ?_
  refine Wl.q (v := iv 2) (q_move rfl) ?_
  refine Wl.q (v := Value.pointer (some ⟨q0, 8, none⟩)) (q_idx (m := 8) se_30 rfl rfl (by omega) (by omega) rfl) ?_
  refine Wl.q (v := Value.agg #[Value.int .u8 5, iv 0, iv 1, iv 0]) (q_loadAgg (vs := [Value.int .u8 5, iv 0, iv 1, iv 0]) ag_29 rfl (Has.of_pt (i := 2) rfl rfl)) ?_
  refine Wl.imp (L' := (refW s2 tl1_2) :: (storeW s1 tl2_3) :: (pt q0 29 [Value.int .u8 1, iv 1, iv 0, iv 0, Value.int .u8 1, iv 2, iv 0, iv 0, Value.int .u8 5, iv 0, iv 1, iv 0]) :: F) (fun _ h => st_pull [1] h) ?_
  refine Wl.e (e_call (F := (storeW s1 tl2_3) :: (pt q0 29 [Value.int .u8 1, iv 1, iv 0, iv 0, Value.int .u8 1, iv 2, iv 0, iv 0, Value.int .u8 5, iv 0, iv 1, iv 0]) :: F) (args := [pv s2, Value.agg #[Value.int .u8 5, iv 0, iv 1, iv 0]]) Tryd.call13 rfl (rmake_w W0 s2 tl1_2 tl2_3 ⟨5, 0, 1, 0⟩ 3 3 0 (by unfold okT; decide) (by decide +kernel) rfl)) (fun _ _ => ?_)
  refine Wl.imp (L' := (refW s2 tl2_3) :: (storeW s1 tl2_3) :: (pt q0 29 [Value.int .u8 1, iv 1, iv 0, iv 0, Value.int .u8 1, iv 2, iv 0, iv 0, Value.int .u8 5, iv 0, iv 1, iv 0]) :: F) (fun _ h => h) ?_
  refine Wl.q (v := Value.tuple #[iv 3, iv 0]) (q_move rfl) ?_
  refine Wl.q (v := iv 3) (q_extract (i := 0) rfl rfl) ?_
  refine Wl.q (v := iv 0) (q_extract (i := 1) rfl rfl) ?_
  refine Wl.q (v := iv 3) (q_assign rfl) ?_
  refine Wl.q (v := iv 0) (q_assign rfl) ?_
  refine Wl.done ?_
  refine Wx.go ?_
  refine Wc.seq ?_
  refine Wc.region ?_
  refine Wl.q (v := iv 3) (q_move rfl) ?_
  refine Wl.q (v := iv 3) (q_move rfl) ?_
  refine Wl.q (v := Value.bool false) (q_neq (r := true) rfl rfl (decide_eq_true (by decide))) ?_
  refine Wl.q (v := Value.bool false) (q_move rfl) ?_
  refine Wl.q (v := iv 0) (q_move rfl) ?_
  refine Wl.q (v := iv 0) (q_move rfl) ?_
  refine Wl.q (v := Value.bool false) (q_neq (r := true) rfl rfl (decide_eq_true (by decide))) ?_
  refine Wl.q (v := Value.bool false) (q_pick (t := false) rfl rfl) ?_
  refine Wl.done ?_
  refine Wx.go ?_
  refine Wc.no rfl ?_
  refine Wc.skip ?_
  refine Wx.blockEnd ?_
  refine Wx.go ?_
  refine Wc.region ?_
  refine Wl.q (v := iv 2) (q_move rfl) ?_
  refine Wl.q (v := iv 3) (q_add (c := 3) rfl rfl (by decide)) ?_
  refine Wl.q (v := iv 3) (q_assign rfl) ?_
  refine Wl.done ?_
  refine Wx.again ?_
  refine Wn.round ?_
  refine Wc.seq ?_
  refine Wc.seq ?_
  refine Wc.region ?_
  refine Wl.q (v := iv 3) (q_move rfl) ?_
  refine Wl.q (v := Value.slice (some ⟨q0, 0, none⟩) 3 3) (q_move rfl) ?_
  refine Wl.q (v := iv 3) (q_len_slice Tryd.underlying30 rfl) ?_
  refine Wl.q (v := Value.bool false) (q_lss (r := false) rfl rfl (decide_eq_false (by decide))) ?_
  refine Wl.done ?_
  refine Wx.go ?_
  refine Wc.no rfl ?_
  refine Wc.exit ?_
  refine Wx.thenExit ?_
  refine Wx.thenExit ?_
  refine Wx.out ?_
  refine Wx.go ?_
  refine Wc.seq ?_
  refine Wc.region ?_
  refine Wl.q (v := pv s1) (q_move rfl) ?_
  refine Wl.q (v := pv s2) (q_move rfl) ?_
  refine Wl.q (v := pv s1) (q_move rfl) ?_
  refine Wl.q (v := Value.bool true) (q_neq_nil (r := false) rfl rfl Tryd.underlying23 rfl) ?_
  refine Wl.q (v := pv s1) (q_assign rfl) ?_
  refine Wl.q (v := pv s2) (q_assign rfl) ?_
  refine Wl.q (v := Value.bool true) (q_assign rfl) ?_
  refine Wl.done ?_
  refine Wx.go ?_
  refine Wc.ret ?_
  refine Wx.fin3 rfl (.inl rfl) (fun w hs => ?_)
  have hs : st W0 w ((pt q0 29 [Value.int .u8 1, iv 1, iv 0, iv 0, Value.int .u8 1, iv 2, iv 0, iv 0, Value.int .u8 5, iv 0, iv 1, iv 0]) :: (storeW s1 tl2_3) :: (refW s2 tl2_3) :: F) := (st_pull [2, 1, 0] (hs))
  exact ⟨(s1, s2), trivial, rfl, hs⟩

set_option maxRecDepth 8000 in
set_option maxHeartbeats 4000000 in
theorem au5_Check (W0 : World)  :
    Con Tryd.prog W0 38 #[Value.agg #[Value.slice none 0 0]] [] (X := Unit) (fun _ => True) (fun _ => iv 0) (fun _ => []) := by
  refine Con.of (args := [Value.agg #[Value.slice none 0 0]]) Tryd.func38 rfl Tryd.ntmps38 rfl (fun F => ?_)
  show Wc _ W0 _ _ _ _ _ (F)
  refine Wc.seq ?_
  refine Wc.region ?_
  refine Wl.e (e_box (x := .tmp 0) (vs := [Value.slice none 0 0]) rfl) (fun b1 _ => ?_)
  refine Wl.q (v := iv 0) (q_assign rfl) ?_
  refine Wl.done ?_
  refine Wx.go ?_
  refine Wc.seq ?_
  refine Wc.seq ?_
  refine Wc.region ?_
  refine Wl.q (v := pv b1) (q_field (m := 0) fo_58_0 rfl rfl) ?_
  refine Wl.q (v := Value.slice none 0 0) (q_load sc_56 rfl (.cel (i := 0) rfl rfl)) ?_
  refine Wl.q (v := iv 0) (q_len_slice Tryd.underlying56 rfl) ?_
  refine Wl.q (v := Value.bool true) (q_eql (r := true) rfl rfl (decide_eq_true (by decide))) ?_
  refine Wl.done ?_
  refine Wx.go ?_
  refine Wc.yes rfl ?_
  refine Wc.seq ?_
  refine Wc.region ?_
  refine Wl.q (v := iv 0) (q_assign rfl) ?_
  refine Wl.done ?_
  refine Wx.go ?_
  refine Wc.ret ?_
  refine Wx.thenRet ?_
  refine Wx.fin1 rfl (.inl rfl) (fun w hs => ?_)
  have hs : st W0 w (F) := (st_drop (st_pull [0] hs))
  exact ⟨(), trivial, rfl, hs⟩

set_option maxRecDepth 8000 in
set_option maxHeartbeats 4000000 in
theorem au6_Find (W0 : World)  :
    Con Tryd.prog W0 39 #[Value.agg #[Value.slice none 0 0], iv 5] [] (X := Unit) (fun _ => True) (fun _ => iv (-1)) (fun _ => []) := by
  refine Con.of (args := [Value.agg #[Value.slice none 0 0], iv 5]) Tryd.func39 rfl Tryd.ntmps39 rfl (fun F => ?_)
  show Wc _ W0 _ _ _ _ _ (F)
  refine Wc.seq ?_
  refine Wc.region ?_
  refine Wl.e (e_box (x := .tmp 0) (vs := [Value.slice none 0 0]) rfl) (fun b1 _ => ?_)
  refine Wl.q (v := iv 0) (q_assign rfl) ?_
  refine Wl.done ?_
  refine Wx.go ?_
  refine Wc.seq ?_
  refine Wc.seq ?_
  refine Wc.region ?_
  refine Wl.q (v := Value.agg #[Value.slice none 0 0]) (q_loadAgg (vs := [Value.slice none 0 0]) ag_58 rfl (Has.of_pt (i := 0) rfl rfl)) ?_
  refine Wl.e (e_call (F := (pt b1 58 [Value.slice none 0 0]) :: F) (args := [Value.agg #[Value.slice none 0 0]]) Tryd.call38 rfl (au5_Check W0)) (fun _ _ => ?_)
  refine Wl.imp (L' := (pt b1 58 [Value.slice none 0 0]) :: F) (fun _ h => h) ?_
  refine Wl.q (v := Value.bool false) (q_neq (r := true) rfl rfl (decide_eq_true (by decide))) ?_
  refine Wl.done ?_
  refine Wx.go ?_
  refine Wc.no rfl ?_
  refine Wc.skip ?_
  refine Wx.go ?_
  refine Wc.seq ?_
  refine Wc.seq ?_
  refine Wc.region ?_
  refine Wl.q (v := iv 0) (q_assign rfl) ?_
  refine Wl.done ?_
  refine Wx.go ?_
  refine Wc.block ?_
  refine Wc.rounds 64 ?_
  refine Wn.round ?_
  refine Wc.seq ?_
  refine Wc.seq ?_
  refine Wc.region ?_
  refine Wl.q (v := iv 0) (q_move rfl) ?_
  refine Wl.q (v := pv b1) (q_field (m := 0) fo_58_0 rfl rfl) ?_
  refine Wl.q (v := Value.slice none 0 0) (q_load sc_56 rfl (.cel (i := 0) rfl rfl)) ?_
  refine Wl.q (v := iv 0) (q_len_slice Tryd.underlying56 rfl) ?_
  refine Wl.q (v := Value.bool false) (q_lss (r := false) rfl rfl (decide_eq_false (by decide))) ?_
  refine Wl.done ?_
  refine Wx.go ?_
  refine Wc.no rfl ?_
  refine Wc.exit ?_
  refine Wx.thenExit ?_
  refine Wx.thenExit ?_
  refine Wx.out ?_
  refine Wx.go ?_
  refine Wc.seq ?_
  refine Wc.region ?_
  refine Wl.q (v := iv (-1)) (q_assign rfl) ?_
  refine Wl.done ?_
  refine Wx.go ?_
  refine Wc.ret ?_
  refine Wx.fin1 rfl (.inl rfl) (fun w hs => ?_)
  have hs : st W0 w (F) := (st_drop (st_pull [0] hs))
  exact ⟨(), trivial, rfl, hs⟩

set_option maxRecDepth 8000 in
set_option maxHeartbeats 4000000 in
theorem au7_Twin (W0 : World)  :
    Con Tryd.prog W0 40 #[Value.agg #[Value.slice none 0 0]] [] (X := Unit) (fun _ => True) (fun _ => Value.agg #[Value.slice none 0 0]) (fun _ => []) := by
  refine Con.of (args := [Value.agg #[Value.slice none 0 0]]) Tryd.func40 rfl Tryd.ntmps40 rfl (fun F => ?_)
  show Wc _ W0 _ _ _ _ _ (F)
  refine Wc.seq ?_
  refine Wc.region ?_
  refine Wl.e (e_box (x := .tmp 0) (vs := [Value.slice none 0 0]) rfl) (fun b1 _ => ?_)
  refine Wl.e (e_alloc (vs := [Value.slice none 0 0]) zo_58 rfl) (fun b2 _ => ?_)
  refine Wl.done ?_
  refine Wx.go ?_
  refine Wc.seq ?_
  refine Wc.region ?_
  refine Wl.q (v := Value.slice none 0 0) (q_assign rfl) ?_
  refine Wl.done ?_
  refine Wx.go ?_
  refine Wc.seq ?_
  refine Wc.seq ?_
  refine Wc.region ?_
  refine Wl.q (v := iv 0) (q_assign rfl) ?_
  refine Wl.done ?_
  refine Wx.go ?_
  refine Wc.block ?_
  refine Wc.rounds 64 ?_
  refine Wn.round ?_
  refine Wc.seq ?_
  refine Wc.seq ?_
  refine Wc.region ?_
  refine Wl.q (v := iv 0) (q_move rfl) ?_
  refine Wl.q (v := pv b1) (q_field (m := 0) fo_58_0 rfl rfl) ?_
  refine Wl.q (v := Value.slice none 0 0) (q_load sc_56 rfl (.cel (i := 1) rfl rfl)) ?_
  refine Wl.q (v := iv 0) (q_len_slice Tryd.underlying56 rfl) ?_
  refine Wl.q (v := Value.bool false) (q_lss (r := false) rfl rfl (decide_eq_false (by decide))) ?_
  refine Wl.done ?_
  refine Wx.go ?_
  refine Wc.no rfl ?_
  refine Wc.exit ?_
  refine Wx.thenExit ?_
  refine Wx.thenExit ?_
  refine Wx.out ?_
  refine Wx.go ?_
  refine Wc.seq ?_
  refine Wc.region ?_
  refine Wl.q (v := Value.slice none 0 0) (q_move rfl) ?_
  refine Wl.q (v := Value.agg #[Value.slice none 0 0]) (q_build (pl := [(0, 1)]) Tryd.underlying58 zo_58 (by kernel_rfl) (by kernel_rfl)) ?_
  refine Wl.e (e_storeAgg (i := 0) (vs := [Value.slice none 0 0]) (c' := [Value.slice none 0 0]) sz_58 rfl rfl rfl rfl (by simp) rfl) (fun _ _ => ?_)
  refine Wl.imp (L' := (pt b2 58 [Value.slice none 0 0]) :: (pt b1 58 [Value.slice none 0 0]) :: F) (fun _ h => h) ?_
  refine Wl.done ?_
  refine Wx.go ?_
  refine Wc.ret ?_
  refine Wx.finA1 (vs := [Value.slice none 0 0]) rfl (.inl rfl) ag_58 rfl (Has.of_pt (i := 0) rfl rfl) (fun w hs => ?_)
  have hs : st W0 w (F) := (st_drop (st_drop (st_pull [0, 0] hs)))
  exact ⟨(), trivial, rfl, hs⟩

set_option maxRecDepth 8000 in
set_option maxHeartbeats 4000000 in
theorem au8_free (W0 : World)  :
    Con Tryd.prog W0 41 #[Value.agg #[Value.slice none 0 0]] [] (X := Unit) (fun _ => True) (fun _ => iv (-1)) (fun _ => []) := by
  refine Con.of (args := [Value.agg #[Value.slice none 0 0]]) Tryd.func41 rfl Tryd.ntmps41 rfl (fun F => ?_)
  show Wc _ W0 _ _ _ _ _ (F)
  refine Wc.seq ?_
  refine Wc.region ?_
  refine Wl.e (e_box (x := .tmp 0) (vs := [Value.slice none 0 0]) rfl) (fun b1 _ => ?_)
  refine Wl.q (v := iv 0) (q_assign rfl) ?_
  refine Wl.done ?_
  refine Wx.go ?_
  refine Wc.seq ?_
  refine Wc.seq ?_
  refine Wc.region ?_
  refine Wl.q (v := iv 0) (q_assign rfl) ?_
  refine Wl.done ?_
  refine Wx.go ?_
  refine Wc.block ?_
  refine Wc.rounds 64 ?_
  refine Wn.round ?_
  refine Wc.seq ?_
  refine Wc.seq ?_
  refine Wc.region ?_
  refine Wl.q (v := iv 0) (q_move rfl) ?_
  refine Wl.q (v := pv b1) (q_field (m := 0) fo_58_0 rfl rfl) ?_
  refine Wl.q (v := Value.slice none 0 0) (q_load sc_56 rfl (.cel (i := 0) rfl rfl)) ?_
  refine Wl.q (v := iv 0) (q_len_slice Tryd.underlying56 rfl) ?_
  refine Wl.q (v := Value.bool false) (q_lss (r := false) rfl rfl (decide_eq_false (by decide))) ?_
  refine Wl.done ?_
  refine Wx.go ?_
  refine Wc.no rfl ?_
  refine Wc.exit ?_
  refine Wx.thenExit ?_
  refine Wx.thenExit ?_
  refine Wx.out ?_
  refine Wx.go ?_
  refine Wc.seq ?_
  refine Wc.region ?_
  refine Wl.q (v := iv (-1)) (q_assign rfl) ?_
  refine Wl.done ?_
  refine Wx.go ?_
  refine Wc.ret ?_
  refine Wx.fin1 rfl (.inl rfl) (fun w hs => ?_)
  have hs : st W0 w (F) := (st_drop (st_pull [0] hs))
  exact ⟨(), trivial, rfl, hs⟩

set_option maxRecDepth 8000 in
set_option maxHeartbeats 4000000 in
theorem au9_leaves (W0 : World)  :
    Con Tryd.prog W0 42 #[Value.agg #[Value.slice none 0 0]] [] (X := Unit) (fun _ => True) (fun _ => iv 0) (fun _ => []) := by
  refine Con.of (args := [Value.agg #[Value.slice none 0 0]]) Tryd.func42 rfl Tryd.ntmps42 rfl (fun F => ?_)
  show Wc _ W0 _ _ _ _ _ (F)
  refine Wc.seq ?_
  refine Wc.region ?_
  refine Wl.e (e_box (x := .tmp 0) (vs := [Value.slice none 0 0]) rfl) (fun b1 _ => ?_)
  refine Wl.q (v := iv 0) (q_assign rfl) ?_
  refine Wl.done ?_
  refine Wx.go ?_
  refine Wc.seq ?_
  refine Wc.seq ?_
  refine Wc.region ?_
  refine Wl.q (v := iv 1) (q_assign rfl) ?_
  refine Wl.done ?_
  refine Wx.go ?_
  refine Wc.block ?_
  refine Wc.rounds 64 ?_
  refine Wn.round ?_
  refine Wc.seq ?_
  refine Wc.seq ?_
  refine Wc.region ?_
  refine Wl.q (v := iv 1) (q_move rfl) ?_
  refine Wl.q (v := Value.bool true) (q_leq (r := true) rfl rfl (decide_eq_true (by decide))) ?_
  refine Wl.done ?_
  refine Wx.go ?_
  refine Wc.yes rfl ?_
  refine Wc.skip ?_
  refine Wx.go ?_
  refine Wc.seq ?_
  refine Wc.block ?_
  refine Wc.seq ?_
  refine Wc.region ?_
  refine Wl.q (v := pv b1) (q_field (m := 0) fo_58_0 rfl rfl) ?_
  refine Wl.q (v := Value.slice none 0 0) (q_load sc_56 rfl (.cel (i := 0) rfl rfl)) ?_
  refine Wl.q (v := iv 0) (q_len_slice Tryd.underlying56 rfl) ?_
  refine Wl.q (v := iv 1) (q_move rfl) ?_
  refine Wl.q (v := iv 2) (q_mul (c := 2) rfl rfl (by decide)) ?_
  refine Wl.q (v := iv 1) (q_sub (c := 1) rfl rfl (by decide)) ?_
  refine Wl.q (v := Value.bool false) (q_eql (r := false) rfl rfl (decide_eq_false (by decide))) ?_
  refine Wl.done ?_
  refine Wx.go ?_
  refine Wc.no rfl ?_
  refine Wc.skip ?_
  refine Wx.blockEnd ?_
  refine Wx.go ?_
  refine Wc.region ?_
  refine Wl.q (v := iv 1) (q_move rfl) ?_
  refine Wl.q (v := iv 2) (q_mul (c := 2) rfl rfl (by decide)) ?_
  refine Wl.q (v := iv 2) (q_assign rfl) ?_
  refine Wl.done ?_
  refine Wx.again ?_
  refine Wn.round ?_
  refine Wc.seq ?_
  refine Wc.seq ?_
  refine Wc.region ?_
  refine Wl.q (v := iv 2) (q_move rfl) ?_
  refine Wl.q (v := Value.bool true) (q_leq (r := true) rfl rfl (decide_eq_true (by decide))) ?_
  refine Wl.done ?_
  refine Wx.go ?_
  refine Wc.yes rfl ?_
  refine Wc.skip ?_
  refine Wx.go ?_
  refine Wc.seq ?_
  refine Wc.block ?_
  refine Wc.seq ?_
  refine Wc.region ?_
  refine Wl.q (v := pv b1) (q_field (m := 0) fo_58_0 rfl rfl) ?_
  refine Wl.q (v := Value.slice none 0 0) (q_load sc_56 rfl (.cel (i := 0) rfl rfl)) ?_
  refine Wl.q (v := iv 0) (q_len_slice Tryd.underlying56 rfl) ?_
  refine Wl.q (v := iv 2) (q_move rfl) ?_
  refine Wl.q (v := iv 4) (q_mul (c := 4) rfl rfl (by decide)) ?_
  refine Wl.q (v := iv 3) (q_sub (c := 3) rfl rfl (by decide)) ?_
  refine Wl.q (v := Value.bool false) (q_eql (r := false) rfl rfl (decide_eq_false (by decide))) ?_
  refine Wl.done ?_
  refine Wx.go ?_
  refine Wc.no rfl ?_
  refine Wc.skip ?_
  refine Wx.blockEnd ?_
  refine Wx.go ?_
  refine Wc.region ?_
  refine Wl.q (v := iv 2) (q_move rfl) ?_
  refine Wl.q (v := iv 4) (q_mul (c := 4) rfl rfl (by decide)) ?_
  refine Wl.q (v := iv 4) (q_assign rfl) ?_
  refine Wl.done ?_
  refine Wx.again ?_
  refine Wn.round ?_
  refine Wc.seq ?_
  refine Wc.seq ?_
  refine Wc.region ?_
  refine Wl.q (v := iv 4) (q_move rfl) ?_
  refine Wl.q (v := Value.bool true) (q_leq (r := true) rfl rfl (decide_eq_true (by decide))) ?_
  refine Wl.done ?_
  refine Wx.go ?_
  refine Wc.yes rfl ?_
  refine Wc.skip ?_
  refine Wx.go ?_
  refine Wc.seq ?_
  refine Wc.block ?_
  refine Wc.seq ?_
  refine Wc.region ?_
  refine Wl.q (v := pv b1) (q_field (m := 0) fo_58_0 rfl rfl) ?_
  refine Wl.q (v := Value.slice none 0 0) (q_load sc_56 rfl (.cel (i := 0) rfl rfl)) ?_
  refine Wl.q (v := iv 0) (q_len_slice Tryd.underlying56 rfl) ?_
  refine Wl.q (v := iv 4) (q_move rfl) ?_
  refine Wl.q (v := iv 8) (q_mul (c := 8) rfl rfl (by decide)) ?_
  refine Wl.q (v := iv 7) (q_sub (c := 7) rfl rfl (by decide)) ?_
  refine Wl.q (v := Value.bool false) (q_eql (r := false) rfl rfl (decide_eq_false (by decide))) ?_
  refine Wl.done ?_
  refine Wx.go ?_
  refine Wc.no rfl ?_
  refine Wc.skip ?_
  refine Wx.blockEnd ?_
  refine Wx.go ?_
  refine Wc.region ?_
  refine Wl.q (v := iv 4) (q_move rfl) ?_
  refine Wl.q (v := iv 8) (q_mul (c := 8) rfl rfl (by decide)) ?_
  refine Wl.q (v := iv 8) (q_assign rfl) ?_
  refine Wl.done ?_
  refine Wx.again ?_
  refine Wn.round ?_
  refine Wc.seq ?_
  refine Wc.seq ?_
  refine Wc.region ?_
  refine Wl.q (v := iv 8) (q_move rfl) ?_
  refine Wl.q (v := Value.bool true) (q_leq (r := true) rfl rfl (decide_eq_true (by decide))) ?_
  refine Wl.done ?_
  refine Wx.go ?_
  refine Wc.yes rfl ?_
  refine Wc.skip ?_
  refine Wx.go ?_
  refine Wc.seq ?_
  refine Wc.block ?_
  refine Wc.seq ?_
  refine Wc.region ?_
  refine Wl.q (v := pv b1) (q_field (m := 0) fo_58_0 rfl rfl) ?_
  refine Wl.q (v := Value.slice none 0 0) (q_load sc_56 rfl (.cel (i := 0) rfl rfl)) ?_
  refine Wl.q (v := iv 0) (q_len_slice Tryd.underlying56 rfl) ?_
  refine Wl.q (v := iv 8) (q_move rfl) ?_
  refine Wl.q (v := iv 16) (q_mul (c := 16) rfl rfl (by decide)) ?_
  refine Wl.q (v := iv 15) (q_sub (c := 15) rfl rfl (by decide)) ?_
  refine Wl.q (v := Value.bool false) (q_eql (r := false) rfl rfl (decide_eq_false (by decide))) ?_
  refine Wl.done ?_
  refine Wx.go ?_
  refine Wc.no rfl ?_
  refine Wc.skip ?_
  refine Wx.blockEnd ?_
  refine Wx.go ?_
  refine Wc.region ?_
  refine Wl.q (v := iv 8) (q_move rfl) ?_
  refine Wl.q (v := iv 16) (q_mul (c := 16) rfl rfl (by decide)) ?_
  refine Wl.q (v := iv 16) (q_assign rfl) ?_
  refine Wl.done ?_
  refine Wx.again ?_
  refine Wn.round ?_
  refine Wc.seq ?_
  refine Wc.seq ?_
  refine Wc.region ?_
  refine Wl.q (v := iv 16) (q_move rfl) ?_
  refine Wl.q (v := Value.bool false) (q_leq (r := false) rfl rfl (decide_eq_false (by decide))) ?_
  refine Wl.done ?_
  refine Wx.go ?_
  refine Wc.no rfl ?_
  refine Wc.exit ?_
  refine Wx.thenExit ?_
  refine Wx.thenExit ?_
  refine Wx.out ?_
  refine Wx.go ?_
  refine Wc.seq ?_
  refine Wc.region ?_
  refine Wl.q (v := iv 0) (q_assign rfl) ?_
  refine Wl.done ?_
  refine Wx.go ?_
  refine Wc.ret ?_
  refine Wx.fin1 rfl (.inl rfl) (fun w hs => ?_)
  have hs : st W0 w (F) := (st_drop (st_pull [0] hs))
  exact ⟨(), trivial, rfl, hs⟩

set_option maxRecDepth 8000 in
set_option maxHeartbeats 4000000 in
theorem au10_leaves (W0 : World) (q0 : Nat) (q1 : Nat) (hq0 : 1 ≤ q1) :
    Con Tryd.prog W0 42 #[Value.agg #[Value.slice (some ⟨q0, 0, none⟩) 1 q1]] [slp 87 4 q0 q1 [iv 3, iv 5, iv 0, Value.slice none 0 0]] (X := Unit) (fun _ => True) (fun _ => iv 1) (fun _ => [slp 87 4 q0 q1 [iv 3, iv 5, iv 0, Value.slice none 0 0]]) := by
  refine Con.of (args := [Value.agg #[Value.slice (some ⟨q0, 0, none⟩) 1 q1]]) Tryd.func42 rfl Tryd.ntmps42 rfl (fun F => ?_)
  show Wc _ W0 _ _ _ _ _ ((slp 87 4 q0 q1 [iv 3, iv 5, iv 0, Value.slice none 0 0]) :: F)
  refine Wc.seq ?_
  refine Wc.region ?_
  refine Wl.e (e_box (x := .tmp 0) (vs := [Value.slice (some ⟨q0, 0, none⟩) 1 q1]) rfl) (fun b1 _ => ?_)
  refine Wl.q (v := iv 0) (q_assign rfl) ?_
  refine Wl.done ?_
  refine Wx.go ?_
  refine Wc.seq ?_
  refine Wc.seq ?_
  refine Wc.region ?_
  refine Wl.q (v := iv 1) (q_assign rfl) ?_
  refine Wl.done ?_
  refine Wx.go ?_
  refine Wc.block ?_
  refine Wc.rounds 64 ?_
  refine Wn.round ?_
  refine Wc.seq ?_
  refine Wc.seq ?_
  refine Wc.region ?_
  refine Wl.q (v := iv 1) (q_move rfl) ?_
  refine Wl.q (v := Value.bool true) (q_leq (r := true) rfl rfl (decide_eq_true (by decide))) ?_
  refine Wl.done ?_
  refine Wx.go ?_
  refine Wc.yes rfl ?_
  refine Wc.skip ?_
  refine Wx.go ?_
  refine Wc.seq ?_
  refine Wc.block ?_
  refine Wc.seq ?_
  refine Wc.region ?_
  refine Wl.q (v := pv b1) (q_field (m := 0) fo_58_0 rfl rfl) ?_
  refine Wl.q (v := Value.slice (some ⟨q0, 0, none⟩) 1 q1) (q_load sc_56 rfl (.cel (i := 0) rfl rfl)) ?_
  refine Wl.q (v := iv 1) (q_len_slice Tryd.underlying56 rfl) ?_
  refine Wl.q (v := iv 1) (q_move rfl) ?_
  refine Wl.q (v := iv 2) (q_mul (c := 2) rfl rfl (by decide)) ?_
  refine Wl.q (v := iv 1) (q_sub (c := 1) rfl rfl (by decide)) ?_
  refine Wl.q (v := Value.bool true) (q_eql (r := true) rfl rfl (decide_eq_true (by decide))) ?_
  refine Wl.done ?_
  refine Wx.go ?_
  refine Wc.yes rfl ?_
  refine Wc.seq ?_
  refine Wc.region ?_
  refine Wl.q (v := iv 1) (q_move rfl) ?_
  refine Wl.q (v := iv 1) (q_assign rfl) ?_
  refine Wl.done ?_
  refine Wx.go ?_
  refine Wc.ret ?_
  refine Wx.blockRet ?_
  refine Wx.thenRet ?_
  refine Wx.thenRet ?_
  refine Wx.blockRet ?_
  refine Wx.thenRet ?_
  refine Wx.fin1 rfl (.inl rfl) (fun w hs => ?_)
  have hs : st W0 w ((slp 87 4 q0 q1 [iv 3, iv 5, iv 0, Value.slice none 0 0]) :: F) := (st_drop (st_pull [0] hs))
  exact ⟨(), trivial, rfl, hs⟩

set_option maxRecDepth 8000 in
set_option maxHeartbeats 4000000 in
theorem au14_tree (W0 : World)  :
    Con Tryd.prog W0 63 #[iv 1] [] (X := Unit) (fun _ => True) (fun _ => Value.bool true) (fun _ => []) := by
  refine Con.of (args := [iv 1]) Tryd.func63 rfl Tryd.ntmps63 rfl (fun F => ?_)
  show Wc _ W0 _ _ _ _ _ (F)
  refine Wc.seq ?_
  refine Wc.region ?_
  refine Wl.q (v := Value.bool false) (q_assign rfl) ?_
  refine Wl.done ?_
  refine Wx.go ?_
  refine Wc.seq ?_
  refine Wc.seq ?_
  refine Wc.region ?_
  refine Wl.q (v := iv 1) (q_assign rfl) ?_
  refine Wl.done ?_
  refine Wx.go ?_
  refine Wc.block ?_
  refine Wc.rounds 64 ?_
  refine Wn.round ?_
  refine Wc.seq ?_
  refine Wc.seq ?_
  refine Wc.region ?_
  refine Wl.q (v := iv 1) (q_move rfl) ?_
  refine Wl.q (v := Value.bool true) (q_leq (r := true) rfl rfl (decide_eq_true (by decide))) ?_
  refine Wl.done ?_
  refine Wx.go ?_
  refine Wc.yes rfl ?_
  refine Wc.skip ?_
  refine Wx.go ?_
  refine Wc.seq ?_
  refine Wc.block ?_
  refine Wc.seq ?_
  refine Wc.region ?_
  refine Wl.q (v := iv 1) (q_move rfl) ?_
  refine Wl.q (v := iv 1) (q_move rfl) ?_
  refine Wl.q (v := Value.bool true) (q_eql (r := true) rfl rfl (decide_eq_true (by decide))) ?_
  refine Wl.done ?_
  refine Wx.go ?_
  refine Wc.yes rfl ?_
  refine Wc.seq ?_
  refine Wc.region ?_
  refine Wl.q (v := Value.bool true) (q_assign rfl) ?_
  refine Wl.done ?_
  refine Wx.go ?_
  refine Wc.ret ?_
  refine Wx.blockRet ?_
  refine Wx.thenRet ?_
  refine Wx.thenRet ?_
  refine Wx.blockRet ?_
  refine Wx.thenRet ?_
  refine Wx.fin1 rfl (.inl rfl) (fun w hs => ?_)
  have hs : st W0 w (F) := hs
  exact ⟨(), trivial, rfl, hs⟩

set_option maxRecDepth 8000 in
set_option maxHeartbeats 4000000 in
theorem au13_in (W0 : World)  :
    Con Tryd.prog W0 57 #[iv 0, iv 1] [] (X := Unit) (fun _ => True) (fun _ => Value.bool true) (fun _ => []) := by
  refine Con.of (args := [iv 0, iv 1]) Tryd.func57 rfl Tryd.ntmps57 rfl (fun F => ?_)
  show Wc _ W0 _ _ _ _ _ (F)
  refine Wc.seq ?_
  refine Wc.region ?_
  refine Wl.q (v := Value.bool false) (q_assign rfl) ?_
  refine Wl.done ?_
  refine Wx.go ?_
  refine Wc.seq ?_
  refine Wc.region ?_
  refine Wl.q (v := iv 1) (q_move rfl) ?_
  refine Wl.e (e_call (F := F) (args := [iv 1]) Tryd.call63 rfl (au14_tree W0)) (fun _ _ => ?_)
  refine Wl.imp (L' := F) (fun _ h => h) ?_
  refine Wl.q (v := Value.bool true) (q_move rfl) ?_
  refine Wl.q (v := iv 0) (q_move rfl) ?_
  refine Wl.q (v := Value.bool true) (q_geq (r := true) rfl rfl (decide_eq_true (by decide))) ?_
  refine Wl.q (v := Value.bool true) (q_pick (t := true) rfl rfl) ?_
  refine Wl.q (v := Value.bool true) (q_move rfl) ?_
  refine Wl.q (v := iv 0) (q_move rfl) ?_
  refine Wl.q (v := iv 1) (q_move rfl) ?_
  refine Wl.q (v := iv 2) (q_mul (c := 2) rfl rfl (by decide)) ?_
  refine Wl.q (v := iv 0) (q_sub (c := 0) rfl rfl (by decide)) ?_
  refine Wl.q (v := Value.bool true) (q_leq (r := true) rfl rfl (decide_eq_true (by decide))) ?_
  refine Wl.q (v := Value.bool true) (q_pick (t := true) rfl rfl) ?_
  refine Wl.q (v := Value.bool true) (q_assign rfl) ?_
  refine Wl.done ?_
  refine Wx.go ?_
  refine Wc.ret ?_
  refine Wx.fin1 rfl (.inl rfl) (fun w hs => ?_)
  have hs : st W0 w (F) := hs
  exact ⟨(), trivial, rfl, hs⟩

set_option maxRecDepth 8000 in
set_option maxHeartbeats 4000000 in
theorem au12_Parent (W0 : World)  :
    Con Tryd.prog W0 52 #[iv 0, iv 1] [] (X := Unit) (fun _ => True) (fun _ => Value.tuple #[iv 0, Value.bool false]) (fun _ => []) := by
  refine Con.of (args := [iv 0, iv 1]) Tryd.func52 rfl Tryd.ntmps52 rfl (fun F => ?_)
  show Wc _ W0 _ _ _ _ _ (F)
  refine Wc.seq ?_
  refine Wc.region ?_
  refine Wl.q (v := iv 0) (q_assign rfl) ?_
  refine Wl.q (v := Value.bool false) (q_assign rfl) ?_
  refine Wl.done ?_
  refine Wx.go ?_
  refine Wc.seq ?_
  refine Wc.seq ?_
  refine Wc.region ?_
  refine Wl.q (v := iv 0) (q_move rfl) ?_
  refine Wl.q (v := iv 1) (q_move rfl) ?_
  refine Wl.e (e_call (F := F) (args := [iv 0, iv 1]) Tryd.call57 rfl (au13_in W0)) (fun _ _ => ?_)
  refine Wl.imp (L' := F) (fun _ h => h) ?_
  refine Wl.q (v := Value.bool false) (q_not rfl rfl) ?_
  refine Wl.q (v := Value.bool false) (q_move rfl) ?_
  refine Wl.q (v := iv 0) (q_move rfl) ?_
  refine Wl.q (v := iv 1) (q_move rfl) ?_
  refine Wl.q (v := iv 0) (q_sub (c := 0) rfl rfl (by decide)) ?_
  refine Wl.q (v := Value.bool true) (q_eql (r := true) rfl rfl (decide_eq_true (by decide))) ?_
  refine Wl.q (v := Value.bool true) (q_pick (t := false) rfl rfl) ?_
  refine Wl.done ?_
  refine Wx.go ?_
  refine Wc.yes rfl ?_
  refine Wc.seq ?_
  refine Wc.region ?_
  refine Wl.q (v := iv 0) (q_assign rfl) ?_
  refine Wl.q (v := Value.bool false) (q_assign rfl) ?_
  refine Wl.done ?_
  refine Wx.go ?_
  refine Wc.ret ?_
  refine Wx.thenRet ?_
  refine Wx.fin2 rfl (.inl rfl) (fun w hs => ?_)
  have hs : st W0 w (F) := hs
  exact ⟨(), trivial, rfl, hs⟩

set_option maxRecDepth 8000 in
set_option maxHeartbeats 4000000 in
theorem au11_Direct (W0 : World)  :
    Con Tryd.prog W0 43 #[iv 0, iv 1] [] (X := Unit) (fun _ => True) (fun _ => Value.slice none 0 0) (fun _ => []) := by
  refine Con.of (args := [iv 0, iv 1]) Tryd.func43 rfl Tryd.ntmps43 rfl (fun F => ?_)
  show Wc _ W0 _ _ _ _ _ (F)
  refine Wc.seq ?_
  refine Wc.region ?_
  refine Wl.q (v := Value.slice none 0 0) (q_assign rfl) ?_
  refine Wl.done ?_
  refine Wx.go ?_
  refine Wc.seq ?_
  refine Wc.region ?_
  refine Wl.q (v := Value.slice none 0 0) (q_assign rfl) ?_
  refine Wl.done ?_
  refine Wx.go ?_
  refine Wc.seq ?_
  refine Wc.region ?_
  refine Wl.q (v := iv 0) (q_move rfl) ?_
  refine Wl.q (v := iv 1) (q_move rfl) ?_
  refine Wl.e (e_call (F := F) (args := [iv 0, iv 1]) Tryd.call52 rfl (au12_Parent W0)) (fun _ _ => ?_)
  refine Wl.imp (L' := F) (fun _ h => h) ?_
  refine Wl.q (v := Value.tuple #[iv 0, Value.bool false]) (q_move rfl) ?_
  refine Wl.q (v := iv 0) (q_extract (i := 0) rfl rfl) ?_
  refine Wl.q (v := Value.bool false) (q_extract (i := 1) rfl rfl) ?_
  refine Wl.q (v := iv 0) (q_assign rfl) ?_
  refine Wl.q (v := Value.bool false) (q_assign rfl) ?_
  refine Wl.done ?_
  refine Wx.go ?_
  refine Wc.seq ?_
  refine Wc.block ?_
  refine Wc.rounds 64 ?_
  refine Wn.round ?_
  refine Wc.seq ?_
  refine Wc.seq ?_
  refine Wc.region ?_
  refine Wl.q (v := Value.bool false) (q_move rfl) ?_
  refine Wl.done ?_
  refine Wx.go ?_
  refine Wc.no rfl ?_
  refine Wc.exit ?_
  refine Wx.thenExit ?_
  refine Wx.thenExit ?_
  refine Wx.out ?_
  refine Wx.go ?_
  refine Wc.seq ?_
  refine Wc.region ?_
  refine Wl.q (v := Value.slice none 0 0) (q_move rfl) ?_
  refine Wl.q (v := Value.slice none 0 0) (q_assign rfl) ?_
  refine Wl.done ?_
  refine Wx.go ?_
  refine Wc.ret ?_
  refine Wx.fin1 rfl (.inl rfl) (fun w hs => ?_)
  have hs : st W0 w (F) := hs
  exact ⟨(), trivial, rfl, hs⟩

set_option maxRecDepth 8000 in
set_option maxHeartbeats 4000000 in
theorem au4_Add (W0 : World)  :
    Con Tryd.prog W0 31 #[Value.agg #[Value.slice none 0 0], Value.agg #[iv 5, iv 0, iv 3]] [] (X := Value) (fun _ => True) (fun y0 => Value.tuple #[Value.agg #[y0], iv 0, iv 0]) (fun y0 => [sl 87 4 y0 1 [iv 3, iv 5, iv 0, Value.slice none 0 0]]) := by
  refine Con.of (args := [Value.agg #[Value.slice none 0 0], Value.agg #[iv 5, iv 0, iv 3]]) Tryd.func31 rfl Tryd.ntmps31 rfl (fun F => ?_)
  show Wc _ W0 _ _ _ _ _ (F)
  refine Wc.seq ?_
  refine Wc.region ?_
  refine Wl.e (e_box (x := .tmp 0) (vs := [Value.slice none 0 0]) rfl) (fun b1 _ => ?_)
  refine Wl.e (e_box (x := .tmp 1) (vs := [iv 5, iv 0, iv 3]) rfl) (fun b2 _ => ?_)
  refine Wl.e (e_alloc (vs := [Value.slice none 0 0]) zo_58 rfl) (fun b3 _ => ?_)
  refine Wl.q (v := iv 0) (q_assign rfl) ?_
  refine Wl.q (v := iv 0) (q_assign rfl) ?_
  refine Wl.done ?_
  refine Wx.go ?_
  refine Wc.seq ?_
  refine Wc.seq ?_
  refine Wc.region ?_
  refine Wl.q (v := Value.agg #[Value.slice none 0 0]) (q_loadAgg (vs := [Value.slice none 0 0]) ag_58 rfl (Has.of_pt (i := 2) rfl rfl)) ?_
  refine Wl.e (e_call (F := (pt b3 58 [Value.slice none 0 0]) :: (pt b2 62 [iv 5, iv 0, iv 3]) :: (pt b1 58 [Value.slice none 0 0]) :: F) (args := [Value.agg #[Value.slice none 0 0]]) Tryd.call38 rfl (au5_Check W0)) (fun _ _ => ?_)
  refine Wl.imp (L' := (pt b3 58 [Value.slice none 0 0]) :: (pt b2 62 [iv 5, iv 0, iv 3]) :: (pt b1 58 [Value.slice none 0 0]) :: F) (fun _ h => h) ?_
  refine Wl.q (v := Value.bool false) (q_neq (r := true) rfl rfl (decide_eq_true (by decide))) ?_
  refine Wl.q (v := Value.bool false) (q_move rfl) ?_
  refine Wl.q (v := pv b2) (q_field (m := 0) fo_62_0 rfl rfl) ?_
  refine Wl.q (v := iv 5) (q_load sc_3 rfl (.cel (i := 1) rfl rfl)) ?_
  refine Wl.q (v := Value.bool false) (q_lss (r := false) rfl rfl (decide_eq_false (by decide))) ?_
  refine Wl.q (v := Value.bool false) (q_pick (t := false) rfl rfl) ?_
  refine Wl.q (v := Value.bool false) (q_move rfl) ?_
  refine Wl.q (v := Value.pointer (some ⟨b2, 1, none⟩)) (q_field (m := 1) fo_62_1 rfl rfl) ?_
  refine Wl.q (v := iv 0) (q_load sc_3 rfl (.cel (i := 1) rfl rfl)) ?_
  refine Wl.q (v := Value.bool false) (q_lss (r := false) rfl rfl (decide_eq_false (by decide))) ?_
  refine Wl.q (v := Value.bool false) (q_pick (t := false) rfl rfl) ?_
  refine Wl.q (v := Value.bool false) (q_move rfl) ?_
  refine Wl.q (v := Value.pointer (some ⟨b2, 2, none⟩)) (q_field (m := 2) fo_62_2 rfl rfl) ?_
  refine Wl.q (v := iv 3) (q_load sc_3 rfl (.cel (i := 1) rfl rfl)) ?_
  refine Wl.q (v := Value.bool false) (q_lss (r := false) rfl rfl (decide_eq_false (by decide))) ?_
  refine Wl.q (v := Value.bool false) (q_pick (t := false) rfl rfl) ?_
  refine Wl.done ?_
  refine Wx.go ?_
  refine Wc.no rfl ?_
  refine Wc.skip ?_
  refine Wx.go ?_
  refine Wc.seq ?_
  refine Wc.seq ?_
  refine Wc.region ?_
  refine Wl.q (v := Value.agg #[Value.slice none 0 0]) (q_loadAgg (vs := [Value.slice none 0 0]) ag_58 rfl (Has.of_pt (i := 2) rfl rfl)) ?_
  refine Wl.q (v := pv b2) (q_field (m := 0) fo_62_0 rfl rfl) ?_
  refine Wl.q (v := iv 5) (q_load sc_3 rfl (.cel (i := 1) rfl rfl)) ?_
  refine Wl.e (e_call (F := (pt b3 58 [Value.slice none 0 0]) :: (pt b2 62 [iv 5, iv 0, iv 3]) :: (pt b1 58 [Value.slice none 0 0]) :: F) (args := [Value.agg #[Value.slice none 0 0], iv 5]) Tryd.call39 rfl (au6_Find W0)) (fun _ _ => ?_)
  refine Wl.imp (L' := (pt b3 58 [Value.slice none 0 0]) :: (pt b2 62 [iv 5, iv 0, iv 3]) :: (pt b1 58 [Value.slice none 0 0]) :: F) (fun _ h => h) ?_
  refine Wl.q (v := Value.bool false) (q_geq (r := false) rfl rfl (decide_eq_false (by decide))) ?_
  refine Wl.done ?_
  refine Wx.go ?_
  refine Wc.no rfl ?_
  refine Wc.skip ?_
  refine Wx.go ?_
  refine Wc.seq ?_
  refine Wc.region ?_
  refine Wl.q (v := Value.agg #[Value.slice none 0 0]) (q_loadAgg (vs := [Value.slice none 0 0]) ag_58 rfl (Has.of_pt (i := 2) rfl rfl)) ?_
  refine Wl.e (e_call (F := (pt b3 58 [Value.slice none 0 0]) :: (pt b2 62 [iv 5, iv 0, iv 3]) :: (pt b1 58 [Value.slice none 0 0]) :: F) (args := [Value.agg #[Value.slice none 0 0]]) Tryd.call40 rfl (au7_Twin W0)) (fun _ _ => ?_)
  refine Wl.imp (L' := (pt b3 58 [Value.slice none 0 0]) :: (pt b2 62 [iv 5, iv 0, iv 3]) :: (pt b1 58 [Value.slice none 0 0]) :: F) (fun _ h => h) ?_
  refine Wl.e (e_alloc (vs := [Value.slice none 0 0]) zo_58 rfl) (fun b4 _ => ?_)
  refine Wl.e (e_storeAgg (i := 0) (vs := [Value.slice none 0 0]) (c' := [Value.slice none 0 0]) sz_58 rfl rfl rfl rfl (by simp) rfl) (fun _ _ => ?_)
  refine Wl.imp (L' := (pt b4 58 [Value.slice none 0 0]) :: (pt b3 58 [Value.slice none 0 0]) :: (pt b2 62 [iv 5, iv 0, iv 3]) :: (pt b1 58 [Value.slice none 0 0]) :: F) (fun _ h => h) ?_
  refine Wl.done ?_
  refine Wx.go ?_
  refine Wc.seq ?_
  refine Wc.region ?_
  refine Wl.q (v := Value.agg #[Value.slice none 0 0]) (q_loadAgg (vs := [Value.slice none 0 0]) ag_58 rfl (Has.of_pt (i := 3) rfl rfl)) ?_
  refine Wl.e (e_call (F := (pt b4 58 [Value.slice none 0 0]) :: (pt b3 58 [Value.slice none 0 0]) :: (pt b2 62 [iv 5, iv 0, iv 3]) :: (pt b1 58 [Value.slice none 0 0]) :: F) (args := [Value.agg #[Value.slice none 0 0]]) Tryd.call41 rfl (au8_free W0)) (fun _ _ => ?_)
  refine Wl.imp (L' := (pt b4 58 [Value.slice none 0 0]) :: (pt b3 58 [Value.slice none 0 0]) :: (pt b2 62 [iv 5, iv 0, iv 3]) :: (pt b1 58 [Value.slice none 0 0]) :: F) (fun _ h => h) ?_
  refine Wl.q (v := iv (-1)) (q_assign rfl) ?_
  refine Wl.done ?_
  refine Wx.go ?_
  refine Wc.seq ?_
  refine Wc.seq ?_
  refine Wc.region ?_
  refine Wl.q (v := iv (-1)) (q_move rfl) ?_
  refine Wl.q (v := Value.bool true) (q_lss (r := true) rfl rfl (decide_eq_true (by decide))) ?_
  refine Wl.done ?_
  refine Wx.go ?_
  refine Wc.yes rfl ?_
  refine Wc.seq ?_
  refine Wc.region ?_
  refine Wl.q (v := Value.agg #[Value.slice none 0 0]) (q_loadAgg (vs := [Value.slice none 0 0]) ag_58 rfl (Has.of_pt (i := 3) rfl rfl)) ?_
  refine Wl.e (e_call (F := (pt b4 58 [Value.slice none 0 0]) :: (pt b3 58 [Value.slice none 0 0]) :: (pt b2 62 [iv 5, iv 0, iv 3]) :: (pt b1 58 [Value.slice none 0 0]) :: F) (args := [Value.agg #[Value.slice none 0 0]]) Tryd.call42 rfl (au9_leaves W0)) (fun _ _ => ?_)
  refine Wl.imp (L' := (pt b4 58 [Value.slice none 0 0]) :: (pt b3 58 [Value.slice none 0 0]) :: (pt b2 62 [iv 5, iv 0, iv 3]) :: (pt b1 58 [Value.slice none 0 0]) :: F) (fun _ h => h) ?_
  refine Wl.q (v := iv 0) (q_assign rfl) ?_
  refine Wl.done ?_
  refine Wx.go ?_
  refine Wc.seq ?_
  refine Wc.seq ?_
  refine Wc.region ?_
  refine Wl.q (v := iv 0) (q_move rfl) ?_
  refine Wl.q (v := Value.bool false) (q_geq (r := false) rfl rfl (decide_eq_false (by decide))) ?_
  refine Wl.done ?_
  refine Wx.go ?_
  refine Wc.no rfl ?_
  refine Wc.skip ?_
  refine Wx.go ?_
  refine Wc.seq ?_
  refine Wc.region ?_
  refine Wl.q (v := iv 0) (q_move rfl) ?_
  refine Wl.q (v := iv 0) (q_assign rfl) ?_
  refine Wl.done ?_
  refine Wx.go ?_
  refine Wc.block ?_
  refine Wc.rounds 64 ?_
  refine Wn.round ?_
  refine Wc.imp (L' := (pt b4 58 [Value.slice none 0 0]) :: (pt b3 58 [Value.slice none 0 0]) :: (pt b2 62 [iv 5, iv 0, iv 3]) :: F) (fun w hs => (st_drop (st_pull [3] hs))) ?_
  refine Wc.seq ?_
  refine Wc.seq ?_
  refine Wc.region ?_
  refine Wl.q (v := pv b4) (q_field (m := 0) fo_58_0 rfl rfl) ?_
  refine Wl.q (v := Value.slice none 0 0) (q_load sc_56 rfl (.cel (i := 0) rfl rfl)) ?_
  refine Wl.q (v := iv 0) (q_len_slice Tryd.underlying56 rfl) ?_
  refine Wl.q (v := iv 0) (q_move rfl) ?_
  refine Wl.q (v := iv 0) (q_mul (c := 0) rfl rfl (by decide)) ?_
  refine Wl.q (v := iv 1) (q_add (c := 1) rfl rfl (by decide)) ?_
  refine Wl.q (v := Value.bool true) (q_lss (r := true) rfl rfl (decide_eq_true (by decide))) ?_
  refine Wl.q (v := Value.bool true) (q_move rfl) ?_
  refine Wl.no ?_
  refine Wl.no ?_
  refine Wl.no ?_
  refine Wl.no ?_
  refine Wl.no ?_
  refine Wl.no ?_
  refine Wl.no ?_
  refine Wl.no ?_
  refine Wl.no ?_
  refine Wl.no ?_
  refine Wl.no ?_
  refine Wl.q (v := Value.bool true) (q_pick (t := true) rfl rfl) ?_
  refine Wl.done ?_
  refine Wx.go ?_
  refine Wc.yes rfl ?_
  refine Wc.skip ?_
  refine Wx.go ?_
  refine Wc.block ?_
  refine Wc.region ?_
  refine Wl.q (v := pv b4) (q_field (m := 0) fo_58_0 rfl rfl) ?_
  refine Wl.q (v := Value.slice none 0 0) (q_load sc_56 rfl (.cel (i := 0) rfl rfl)) ?_
  refine Wl.q (v := Value.agg #[iv 0, iv 0, iv 0, Value.slice none 0 0]) (q_build (pl := [(0, 1), (1, 1), (2, 1), (3, 1)]) Tryd.underlying87 zo_87 (by kernel_rfl) (by kernel_rfl)) ?_
  refine Wl.e (e_buildSlice (cs := [iv 0, iv 0, iv 0, Value.slice none 0 0]) se_56 zo_87 (by decide) (by decide) (by kernel_rfl)) (fun b5 _ => ?_)
  refine Wl.imp (L' := (sl 87 4 (Value.slice none 0 0) 0 []) :: (pt b5 87 [iv 0, iv 0, iv 0, Value.slice none 0 0]) :: (pt b4 58 [Value.slice none 0 0]) :: (pt b3 58 [Value.slice none 0 0]) :: (pt b2 62 [iv 5, iv 0, iv 3]) :: F) (fun w hs => st_sl_nil hs) ?_
  refine Wl.e (e_append (i := 0) (k := 4) (m := 1) (off := 0) (news := [iv 0, iv 0, iv 0, Value.slice none 0 0]) Tryd.underlying56 sz_87 by_87 zo_87 rfl rfl rfl rfl rfl (Has.of_pt (i := 1) rfl rfl) rfl (by decide) (by simp only [maxLen]; omega) (by omega)) (fun v6 _ => ?_)
  refine Wl.imp (L' := (sl 87 4 v6 1 [iv 0, iv 0, iv 0, Value.slice none 0 0]) :: (pt b5 87 [iv 0, iv 0, iv 0, Value.slice none 0 0]) :: (pt b4 58 [Value.slice none 0 0]) :: (pt b3 58 [Value.slice none 0 0]) :: (pt b2 62 [iv 5, iv 0, iv 3]) :: F) (fun _ h => h) ?_
  refine Wl.q (v := pv b4) (q_field (m := 0) fo_58_0 rfl rfl) ?_
  refine Wl.e (e_store (i := 2) (v := v6) sz_56 rfl rfl (fun _ h => sl_one (i := 0) h rfl) rfl (by simp)) (fun _ _ => ?_)
  refine Wl.imp (L' := (sl 87 4 v6 1 [iv 0, iv 0, iv 0, Value.slice none 0 0]) :: (pt b5 87 [iv 0, iv 0, iv 0, Value.slice none 0 0]) :: (pt b4 58 [v6]) :: (pt b3 58 [Value.slice none 0 0]) :: (pt b2 62 [iv 5, iv 0, iv 3]) :: F) (fun _ h => h) ?_
  refine Wl.done ?_
  refine Wx.blockEnd ?_
  refine Wx.again ?_
  refine Wn.round ?_
  refine Wc.imp (L' := (sl 87 4 v6 1 [iv 0, iv 0, iv 0, Value.slice none 0 0]) :: (pt b4 58 [v6]) :: (pt b3 58 [Value.slice none 0 0]) :: (pt b2 62 [iv 5, iv 0, iv 3]) :: F) (fun w hs => (st_drop (st_pull [1] hs))) ?_
  refine Wc.seq ?_
  refine Wc.seq ?_
  refine Wc.region ?_
  refine Wl.q (v := pv b4) (q_field (m := 0) fo_58_0 rfl rfl) ?_
  refine Wl.q (v := v6) (q_load sc_56 rfl (.cel (i := 1) rfl rfl)) ?_
  refine Wl.q (v := iv 1) (q_len_sl (i := 0) Tryd.underlying56 rfl rfl) ?_
  refine Wl.q (v := iv 0) (q_move rfl) ?_
  refine Wl.q (v := iv 0) (q_mul (c := 0) rfl rfl (by decide)) ?_
  refine Wl.q (v := iv 1) (q_add (c := 1) rfl rfl (by decide)) ?_
  refine Wl.q (v := Value.bool false) (q_lss (r := false) rfl rfl (decide_eq_false (by decide))) ?_
  refine Wl.q (v := Value.bool false) (q_move rfl) ?_
  refine Wl.q (v := iv 0) (q_move rfl) ?_
  refine Wl.q (v := Value.bool false) (q_gtr (r := false) rfl rfl (decide_eq_false (by decide))) ?_
  refine Wl.q (v := Value.bool false) (q_move rfl) ?_
  refine Wl.no ?_
  refine Wl.no ?_
  refine Wl.no ?_
  refine Wl.no ?_
  refine Wl.no ?_
  refine Wl.no ?_
  refine Wl.no ?_
  refine Wl.q (v := Value.bool false) (q_pick (t := false) rfl rfl) ?_
  refine Wl.q (v := Value.bool false) (q_pick (t := false) rfl rfl) ?_
  refine Wl.done ?_
  refine Wx.go ?_
  refine Wc.no rfl ?_
  refine Wc.exit ?_
  refine Wx.thenExit ?_
  refine Wx.thenExit ?_
  refine Wx.out ?_
  refine Wx.go ?_
  refine Wc.seq ?_
  refine Wc.region ?_
  refine Wl.q (v := pv b4) (q_field (m := 0) fo_58_0 rfl rfl) ?_
  refine Wl.q (v := v6) (q_load sc_56 rfl (.cel (i := 1) rfl rfl)) ?_
  refine Wl.q (v := iv 0) (q_move rfl) ?_
  refine Wl.q (v := iv 0) (q_mul (c := 0) rfl rfl (by decide)) ?_
  refine Wl.q (v := Value.pointer (some ⟨b2, 2, none⟩)) (q_field (m := 2) fo_62_2 rfl rfl) ?_
  refine Wl.q (v := iv 3) (q_load sc_3 rfl (.cel (i := 3) rfl rfl)) ?_
  refine Wl.q (v := pv b2) (q_field (m := 0) fo_62_0 rfl rfl) ?_
  refine Wl.q (v := iv 5) (q_load sc_3 rfl (.cel (i := 3) rfl rfl)) ?_
  refine Wl.q (v := Value.pointer (some ⟨b2, 1, none⟩)) (q_field (m := 1) fo_62_1 rfl rfl) ?_
  refine Wl.q (v := iv 0) (q_load sc_3 rfl (.cel (i := 3) rfl rfl)) ?_
  refine Wl.q (v := Value.agg #[iv 3, iv 5, iv 0, Value.slice none 0 0]) (q_build (pl := [(0, 1), (1, 1), (2, 1), (3, 1)]) Tryd.underlying87 zo_87 (by kernel_rfl) (by kernel_rfl)) ?_
  refine Wl.sl (i := 0) (m := 1) rfl (by decide) (fun b7 c8 hv9 hc10 => ?_)
  subst hv9
  refine Wl.imp (L' := (slp 87 4 b7 c8 [iv 0, iv 0, iv 0, Value.slice none 0 0]) :: (pt b4 58 [Value.slice (some ⟨b7, 0, none⟩) 1 c8]) :: (pt b3 58 [Value.slice none 0 0]) :: (pt b2 62 [iv 5, iv 0, iv 3]) :: F) (fun _ h => h) ?_
  refine Wl.q (v := pv b7) (q_idx (m := 0) se_56 rfl rfl (by omega) (by omega) rfl) ?_
  refine Wl.e (e_store_slp (i := 0) (vs := [iv 3, iv 5, iv 0, Value.slice none 0 0]) (c' := [iv 3, iv 5, iv 0, Value.slice none 0 0]) sz_87 rfl (congrArg Value.cells (rfl)) rfl rfl (by decide) rfl) (fun _ _ => ?_)
  refine Wl.imp (L' := (slp 87 4 b7 c8 [iv 3, iv 5, iv 0, Value.slice none 0 0]) :: (pt b4 58 [Value.slice (some ⟨b7, 0, none⟩) 1 c8]) :: (pt b3 58 [Value.slice none 0 0]) :: (pt b2 62 [iv 5, iv 0, iv 3]) :: F) (fun _ h => h) ?_
  refine Wl.done ?_
  refine Wx.go ?_
  refine Wc.seq ?_
  refine Wc.region ?_
  refine Wl.q (v := iv 0) (q_move rfl) ?_
  refine Wl.q (v := iv 0) (q_mul (c := 0) rfl rfl (by decide)) ?_
  refine Wl.q (v := Value.agg #[Value.slice (some ⟨b7, 0, none⟩) 1 c8]) (q_loadAgg (vs := [Value.slice (some ⟨b7, 0, none⟩) 1 c8]) ag_58 rfl (Has.of_pt (i := 1) rfl rfl)) ?_
  refine Wl.e (e_call (F := (pt b4 58 [Value.slice (some ⟨b7, 0, none⟩) 1 c8]) :: (pt b3 58 [Value.slice none 0 0]) :: (pt b2 62 [iv 5, iv 0, iv 3]) :: F) (args := [Value.agg #[Value.slice (some ⟨b7, 0, none⟩) 1 c8]]) Tryd.call42 rfl (au10_leaves W0 b7 c8 hc10)) (fun _ _ => ?_)
  refine Wl.imp (L' := (slp 87 4 b7 c8 [iv 3, iv 5, iv 0, Value.slice none 0 0]) :: (pt b4 58 [Value.slice (some ⟨b7, 0, none⟩) 1 c8]) :: (pt b3 58 [Value.slice none 0 0]) :: (pt b2 62 [iv 5, iv 0, iv 3]) :: F) (fun _ h => h) ?_
  refine Wl.e (e_call (F := (slp 87 4 b7 c8 [iv 3, iv 5, iv 0, Value.slice none 0 0]) :: (pt b4 58 [Value.slice (some ⟨b7, 0, none⟩) 1 c8]) :: (pt b3 58 [Value.slice none 0 0]) :: (pt b2 62 [iv 5, iv 0, iv 3]) :: F) (args := [iv 0, iv 1]) Tryd.call43 rfl (au11_Direct W0)) (fun _ _ => ?_)
  refine Wl.imp (L' := (slp 87 4 b7 c8 [iv 3, iv 5, iv 0, Value.slice none 0 0]) :: (pt b4 58 [Value.slice (some ⟨b7, 0, none⟩) 1 c8]) :: (pt b3 58 [Value.slice none 0 0]) :: (pt b2 62 [iv 5, iv 0, iv 3]) :: F) (fun _ h => h) ?_
  refine Wl.q (v := Value.slice none 0 0) (q_assign rfl) ?_
  refine Wl.done ?_
  refine Wx.go ?_
  refine Wc.seq ?_
  refine Wc.seq ?_
  refine Wc.region ?_
  refine Wl.q (v := iv 0) (q_assign rfl) ?_
  refine Wl.done ?_
  refine Wx.go ?_
  refine Wc.block ?_
  refine Wc.rounds 64 ?_
  refine Wn.round ?_
  refine Wc.imp (L' := (slp 87 4 b7 c8 [iv 3, iv 5, iv 0, Value.slice none 0 0]) :: (pt b4 58 [Value.slice (some ⟨b7, 0, none⟩) 1 c8]) :: (pt b3 58 [Value.slice none 0 0]) :: F) (fun w hs => (st_drop (st_pull [3] hs))) ?_
  refine Wc.seq ?_
  refine Wc.seq ?_
  refine Wc.region ?_
  refine Wl.q (v := iv 0) (q_move rfl) ?_
  refine Wl.q (v := Value.slice none 0 0) (q_move rfl) ?_
  refine Wl.q (v := iv 0) (q_len_slice Tryd.underlying31 rfl) ?_
  refine Wl.q (v := Value.bool false) (q_lss (r := false) rfl rfl (decide_eq_false (by decide))) ?_
  refine Wl.done ?_
  refine Wx.go ?_
  refine Wc.no rfl ?_
  refine Wc.exit ?_
  refine Wx.thenExit ?_
  refine Wx.thenExit ?_
  refine Wx.out ?_
  refine Wx.go ?_
  refine Wc.seq ?_
  refine Wc.region ?_
  refine Wl.q (v := Value.agg #[Value.slice (some ⟨b7, 0, none⟩) 1 c8]) (q_loadAgg (vs := [Value.slice (some ⟨b7, 0, none⟩) 1 c8]) ag_58 rfl (Has.of_pt (i := 1) rfl rfl)) ?_
  refine Wl.q (v := iv 0) (q_move rfl) ?_
  refine Wl.e (e_storeAgg (i := 2) (vs := [Value.slice (some ⟨b7, 0, none⟩) 1 c8]) (c' := [Value.slice (some ⟨b7, 0, none⟩) 1 c8]) sz_58 rfl rfl rfl rfl (by simp) rfl) (fun _ _ => ?_)
  refine Wl.imp (L' := (slp 87 4 b7 c8 [iv 3, iv 5, iv 0, Value.slice none 0 0]) :: (pt b4 58 [Value.slice (some ⟨b7, 0, none⟩) 1 c8]) :: (pt b3 58 [Value.slice (some ⟨b7, 0, none⟩) 1 c8]) :: F) (fun _ h => h) ?_
  refine Wl.q (v := iv 0) (q_assign rfl) ?_
  refine Wl.q (v := iv 0) (q_assign rfl) ?_
  refine Wl.done ?_
  refine Wx.go ?_
  refine Wc.ret ?_
  refine Wx.finA3 (vs := [Value.slice (some ⟨b7, 0, none⟩) 1 c8]) rfl (.inl rfl) ag_58 rfl (Has.of_pt (i := 2) rfl rfl) (fun w hs => ?_)
  have hs : st W0 w ((slp 87 4 b7 c8 [iv 3, iv 5, iv 0, Value.slice none 0 0]) :: F) := (st_drop (st_drop (st_pull [1, 1] hs)))
  have hs : st W0 w ((sl 87 4 (Value.slice (some ⟨b7, 0, none⟩) 1 c8) 1 [iv 3, iv 5, iv 0, Value.slice none 0 0]) :: F) := st_sl_mk rfl hc10 (hs)
  exact ⟨Value.slice (some ⟨b7, 0, none⟩) 1 c8, trivial, rfl, hs⟩

set_option maxRecDepth 8000 in
set_option maxHeartbeats 4000000 in
theorem au3_New (W0 : World)  :
    Con Tryd.prog W0 19 #[Value.agg #[iv 5, iv 0, iv 3]] [] (X := Value) (fun _ => True) (fun y0 => Value.tuple #[Value.agg #[y0], iv 0]) (fun y0 => [sl 87 4 y0 1 [iv 3, iv 5, iv 0, Value.slice none 0 0]]) := by
  refine Con.of (args := [Value.agg #[iv 5, iv 0, iv 3]]) Tryd.func19 rfl Tryd.ntmps19 rfl (fun F => ?_)
  show Wc _ W0 _ _ _ _ _ (F)
  refine Wc.seq ?_
  refine Wc.region ?_
  refine Wl.e (e_box (x := .tmp 0) (vs := [iv 5, iv 0, iv 3]) rfl) (fun b1 _ => ?_)
  refine Wl.e (e_alloc (vs := [Value.slice none 0 0]) zo_58 rfl) (fun b2 _ => ?_)
  refine Wl.q (v := iv 0) (q_assign rfl) ?_
  refine Wl.done ?_
  refine Wx.go ?_
  refine Wc.seq ?_
  refine Wc.region ?_
  refine Wl.q (v := Value.agg #[Value.slice none 0 0]) (q_build (pl := [(0, 1)]) Tryd.underlying58 zo_58 (by kernel_rfl) (by kernel_rfl)) ?_
  refine Wl.q (v := Value.agg #[iv 5, iv 0, iv 3]) (q_loadAgg (vs := [iv 5, iv 0, iv 3]) ag_62 rfl (Has.of_pt (i := 1) rfl rfl)) ?_
  refine Wl.e (e_call (F := (pt b2 58 [Value.slice none 0 0]) :: (pt b1 62 [iv 5, iv 0, iv 3]) :: F) (args := [Value.agg #[Value.slice none 0 0], Value.agg #[iv 5, iv 0, iv 3]]) Tryd.call31 rfl (au4_Add W0)) (fun v3 _ => ?_)
  refine Wl.imp (L' := (sl 87 4 v3 1 [iv 3, iv 5, iv 0, Value.slice none 0 0]) :: (pt b2 58 [Value.slice none 0 0]) :: (pt b1 62 [iv 5, iv 0, iv 3]) :: F) (fun _ h => h) ?_
  refine Wl.q (v := Value.tuple #[Value.agg #[v3], iv 0, iv 0]) (q_move rfl) ?_
  refine Wl.q (v := Value.agg #[v3]) (q_extract (i := 0) rfl rfl) ?_
  refine Wl.q (v := iv 0) (q_extract (i := 1) rfl rfl) ?_
  refine Wl.q (v := iv 0) (q_extract (i := 2) rfl rfl) ?_
  refine Wl.e (e_alloc (vs := [Value.slice none 0 0]) zo_58 rfl) (fun b4 _ => ?_)
  refine Wl.sl (i := 1) (m := 1) rfl (by decide) (fun b5 c6 hv7 hc8 => ?_)
  subst hv7
  refine Wl.imp (L' := (pt b4 58 [Value.slice none 0 0]) :: (slp 87 4 b5 c6 [iv 3, iv 5, iv 0, Value.slice none 0 0]) :: (pt b2 58 [Value.slice none 0 0]) :: (pt b1 62 [iv 5, iv 0, iv 3]) :: F) (fun _ h => h) ?_
  refine Wl.e (e_storeAgg (i := 0) (vs := [Value.slice (some ⟨b5, 0, none⟩) 1 c6]) (c' := [Value.slice (some ⟨b5, 0, none⟩) 1 c6]) sz_58 rfl rfl rfl rfl (by simp) rfl) (fun _ _ => ?_)
  refine Wl.imp (L' := (pt b4 58 [Value.slice (some ⟨b5, 0, none⟩) 1 c6]) :: (slp 87 4 b5 c6 [iv 3, iv 5, iv 0, Value.slice none 0 0]) :: (pt b2 58 [Value.slice none 0 0]) :: (pt b1 62 [iv 5, iv 0, iv 3]) :: F) (fun _ h => h) ?_
  refine Wl.q (v := iv 0) (q_assign rfl) ?_
  refine Wl.q (v := iv 0) (q_assign rfl) ?_
  refine Wl.done ?_
  refine Wx.go ?_
  refine Wc.seq ?_
  refine Wc.region ?_
  refine Wl.q (v := Value.agg #[Value.slice (some ⟨b5, 0, none⟩) 1 c6]) (q_loadAgg (vs := [Value.slice (some ⟨b5, 0, none⟩) 1 c6]) ag_58 rfl (Has.of_pt (i := 0) rfl rfl)) ?_
  refine Wl.q (v := iv 0) (q_move rfl) ?_
  refine Wl.e (e_storeAgg (i := 2) (vs := [Value.slice (some ⟨b5, 0, none⟩) 1 c6]) (c' := [Value.slice (some ⟨b5, 0, none⟩) 1 c6]) sz_58 rfl rfl rfl rfl (by simp) rfl) (fun _ _ => ?_)
  refine Wl.imp (L' := (pt b4 58 [Value.slice (some ⟨b5, 0, none⟩) 1 c6]) :: (slp 87 4 b5 c6 [iv 3, iv 5, iv 0, Value.slice none 0 0]) :: (pt b2 58 [Value.slice (some ⟨b5, 0, none⟩) 1 c6]) :: (pt b1 62 [iv 5, iv 0, iv 3]) :: F) (fun _ h => h) ?_
  refine Wl.q (v := iv 0) (q_assign rfl) ?_
  refine Wl.done ?_
  refine Wx.go ?_
  refine Wc.ret ?_
  refine Wx.finA2 (vs := [Value.slice (some ⟨b5, 0, none⟩) 1 c6]) rfl (.inl rfl) ag_58 rfl (Has.of_pt (i := 2) rfl rfl) (fun w hs => ?_)
  have hs : st W0 w ((slp 87 4 b5 c6 [iv 3, iv 5, iv 0, Value.slice none 0 0]) :: F) := (st_drop (st_drop (st_drop (st_pull [0, 1, 1] hs))))
  have hs : st W0 w ((sl 87 4 (Value.slice (some ⟨b5, 0, none⟩) 1 c6) 1 [iv 3, iv 5, iv 0, Value.slice none 0 0]) :: F) := st_sl_mk rfl hc8 (hs)
  exact ⟨Value.slice (some ⟨b5, 0, none⟩) 1 c6, trivial, rfl, hs⟩

set_option maxRecDepth 8000 in
set_option maxHeartbeats 4000000 in
theorem au17_List (W0 : World) (q0 : Nat)  :
    Con Tryd.prog W0 29 #[pv q0, Value.slice none 0 0] [storeW q0 tl2_3] (X := Unit) (fun _ => True) (fun _ => Value.tuple #[iv 0, iv 0]) (fun _ => [storeW q0 tl2_3]) := by
  refine Con.of (args := [pv q0, Value.slice none 0 0]) Tryd.func29 rfl Tryd.ntmps29 rfl (fun F => ?_)
  show Wc _ W0 _ _ _ _ _ ((storeW q0 tl2_3) :: F)
  refine Wc.seq ?_
  refine Wc.region ?_
  refine Wl.q (v := iv 0) (q_assign rfl) ?_
  refine Wl.q (v := iv 0) (q_assign rfl) ?_
  refine Wl.done ?_
  refine Wx.go ?_
  refine Wc.seq ?_
  refine Wc.seq ?_
  refine Wc.region ?_
  refine Wl.q (v := pv q0) (q_move rfl) ?_
  refine Wl.e (e_call (F := F) (args := [pv q0]) Tryd.call26 rfl (made_w W0 q0 tl2_3)) (fun _ _ => ?_)
  refine Wl.imp (L' := (storeW q0 tl2_3) :: F) (fun _ h => h) ?_
  refine Wl.q (v := Value.bool false) (q_not rfl rfl) ?_
  refine Wl.done ?_
  refine Wx.go ?_
  refine Wc.no rfl ?_
  refine Wc.skip ?_
  refine Wx.go ?_
  refine Wc.seq ?_
  refine Wc.seq ?_
  refine Wc.region ?_
  refine Wl.q (v := Value.slice none 0 0) (q_move rfl) ?_
  refine Wl.q (v := iv 0) (q_len_slice Tryd.underlying31 rfl) ?_
  refine Wl.q (v := iv 0) (q_move rfl) ?_
  refine Wl.done ?_
  refine Wx.go ?_
  refine Wc.block ?_
  refine Wc.rounds 64 ?_
  refine Wn.round ?_
  refine Wc.seq ?_
  refine Wc.region ?_
  refine Wl.q (v := Value.bool false) (q_lss (r := false) rfl rfl (decide_eq_false (by decide))) ?_
  refine Wl.done ?_
  refine Wx.go ?_
  refine Wc.seq ?_
  refine Wc.no rfl ?_
  refine Wc.exit ?_
  refine Wx.thenExit ?_
  refine Wx.thenExit ?_
  refine Wx.out ?_
  refine Wx.go ?_
  refine Wc.seq ?_
  refine Wc.seq ?_
  refine Wc.region ?_
  refine Wl.q (v := Value.slice none 0 0) (q_move rfl) ?_
  refine Wl.q (v := iv 0) (q_len_slice Tryd.underlying31 rfl) ?_
  refine Wl.q (v := Value.bool true) (q_eql (r := true) rfl rfl (decide_eq_true (by decide))) ?_
  refine Wl.done ?_
  refine Wx.go ?_
  refine Wc.yes rfl ?_
  refine Wc.seq ?_
  refine Wc.region ?_
  refine Wl.q (v := iv 0) (q_assign rfl) ?_
  refine Wl.q (v := iv 0) (q_assign rfl) ?_
  refine Wl.done ?_
  refine Wx.go ?_
  refine Wc.ret ?_
  refine Wx.thenRet ?_
  refine Wx.fin2 rfl (.inl rfl) (fun w hs => ?_)
  have hs : st W0 w ((storeW q0 tl2_3) :: F) := hs
  exact ⟨(), trivial, rfl, hs⟩

set_option maxRecDepth 8000 in
set_option maxHeartbeats 4000000 in
theorem au16_alive (W0 : World) (q0 : Nat)  :
    Con Tryd.prog W0 14 #[pv q0] [storeW q0 tl2_3] (X := Unit) (fun _ => True) (fun _ => Value.bool true) (fun _ => [storeW q0 tl2_3]) := by
  refine Con.of (args := [pv q0]) Tryd.func14 rfl Tryd.ntmps14 rfl (fun F => ?_)
  show Wc _ W0 _ _ _ _ _ ((storeW q0 tl2_3) :: F)
  refine Wc.seq ?_
  refine Wc.region ?_
  refine Wl.q (v := Value.bool false) (q_assign rfl) ?_
  refine Wl.done ?_
  refine Wx.go ?_
  refine Wc.seq ?_
  refine Wc.region ?_
  refine Wl.q (v := pv q0) (q_move rfl) ?_
  refine Wl.e (e_call (F := F) (args := [pv q0, Value.slice none 0 0]) Tryd.call29 rfl (au17_List W0 q0)) (fun _ _ => ?_)
  refine Wl.imp (L' := (storeW q0 tl2_3) :: F) (fun _ h => h) ?_
  refine Wl.q (v := Value.tuple #[iv 0, iv 0]) (q_move rfl) ?_
  refine Wl.q (v := iv 0) (q_extract (i := 0) rfl rfl) ?_
  refine Wl.q (v := iv 0) (q_extract (i := 1) rfl rfl) ?_
  refine Wl.q (v := iv 0) (q_assign rfl) ?_
  refine Wl.q (v := iv 0) (q_assign rfl) ?_
  refine Wl.done ?_
  refine Wx.go ?_
  refine Wc.seq ?_
  refine Wc.region ?_
  refine Wl.q (v := iv 0) (q_move rfl) ?_
  refine Wl.q (v := Value.bool true) (q_neq (r := false) rfl rfl (decide_eq_false (by decide))) ?_
  refine Wl.q (v := Value.bool true) (q_assign rfl) ?_
  refine Wl.done ?_
  refine Wx.go ?_
  refine Wc.ret ?_
  refine Wx.fin1 rfl (.inl rfl) (fun w hs => ?_)
  have hs : st W0 w ((storeW q0 tl2_3) :: F) := hs
  exact ⟨(), trivial, rfl, hs⟩

set_option maxRecDepth 8000 in
set_option maxHeartbeats 4000000 in
theorem au21_tree (W0 : World)  :
    Con Tryd.prog W0 60 #[iv 1] [] (X := Unit) (fun _ => True) (fun _ => Value.bool true) (fun _ => []) := by
  refine Con.of (args := [iv 1]) Tryd.func60 rfl Tryd.ntmps60 rfl (fun F => ?_)
  show Wc _ W0 _ _ _ _ _ (F)
  refine Wc.seq ?_
  refine Wc.region ?_
  refine Wl.q (v := Value.bool false) (q_assign rfl) ?_
  refine Wl.done ?_
  refine Wx.go ?_
  refine Wc.seq ?_
  refine Wc.region ?_
  refine Wl.q (v := iv 1) (q_move rfl) ?_
  refine Wl.q (v := Value.bool true) (q_gtr (r := true) rfl rfl (decide_eq_true (by decide))) ?_
  refine Wl.q (v := Value.bool true) (q_move rfl) ?_
  refine Wl.q (v := iv 1) (q_move rfl) ?_
  refine Wl.q (v := Value.bool true) (q_leq (r := true) rfl rfl (decide_eq_true (by decide))) ?_
  refine Wl.q (v := Value.bool true) (q_pick (t := true) rfl rfl) ?_
  refine Wl.q (v := Value.bool true) (q_move rfl) ?_
  refine Wl.q (v := iv 1) (q_move rfl) ?_
  refine Wl.q (v := iv 1) (q_move rfl) ?_
  refine Wl.q (v := iv 0) (q_sub (c := 0) rfl rfl (by decide)) ?_
  refine Wl.q (v := iv 0) (q_and (c := 0) rfl rfl (by decide)) ?_
  refine Wl.q (v := Value.bool true) (q_eql (r := true) rfl rfl (decide_eq_true (by decide))) ?_
  refine Wl.q (v := Value.bool true) (q_pick (t := true) rfl rfl) ?_
  refine Wl.q (v := Value.bool true) (q_assign rfl) ?_
  refine Wl.done ?_
  refine Wx.go ?_
  refine Wc.ret ?_
  refine Wx.fin1 rfl (.inl rfl) (fun w hs => ?_)
  have hs : st W0 w (F) := hs
  exact ⟨(), trivial, rfl, hs⟩

set_option maxRecDepth 8000 in
set_option maxHeartbeats 4000000 in
theorem au20_Width (W0 : World)  :
    Con Tryd.prog W0 53 #[iv 1] [] (X := Unit) (fun _ => True) (fun _ => iv 1) (fun _ => []) := by
  refine Con.of (args := [iv 1]) Tryd.func53 rfl Tryd.ntmps53 rfl (fun F => ?_)
  show Wc _ W0 _ _ _ _ _ (F)
  refine Wc.seq ?_
  refine Wc.region ?_
  refine Wl.q (v := iv 0) (q_assign rfl) ?_
  refine Wl.done ?_
  refine Wx.go ?_
  refine Wc.seq ?_
  refine Wc.seq ?_
  refine Wc.region ?_
  refine Wl.q (v := iv 1) (q_move rfl) ?_
  refine Wl.e (e_call (F := F) (args := [iv 1]) Tryd.call60 rfl (au21_tree W0)) (fun _ _ => ?_)
  refine Wl.imp (L' := F) (fun _ h => h) ?_
  refine Wl.q (v := Value.bool false) (q_not rfl rfl) ?_
  refine Wl.done ?_
  refine Wx.go ?_
  refine Wc.no rfl ?_
  refine Wc.skip ?_
  refine Wx.go ?_
  refine Wc.seq ?_
  refine Wc.region ?_
  refine Wl.q (v := iv 1) (q_move rfl) ?_
  refine Wl.q (v := iv 2) (q_mul (c := 2) rfl rfl (by decide)) ?_
  refine Wl.q (v := iv 1) (q_sub (c := 1) rfl rfl (by decide)) ?_
  refine Wl.q (v := iv 1) (q_assign rfl) ?_
  refine Wl.done ?_
  refine Wx.go ?_
  refine Wc.ret ?_
  refine Wx.fin1 rfl (.inl rfl) (fun w hs => ?_)
  have hs : st W0 w (F) := hs
  exact ⟨(), trivial, rfl, hs⟩

set_option maxRecDepth 8000 in
set_option maxHeartbeats 4000000 in
theorem au19_leaves (W0 : World) (q0 : Nat) (q1 : Nat) (hq0 : 1 ≤ q1) :
    Con Tryd.prog W0 45 #[Value.agg #[Value.slice (some ⟨q0, 0, none⟩) 1 q1]] [slp 87 4 q0 q1 [iv 3, iv 5, iv 0, Value.slice none 0 0]] (X := Unit) (fun _ => True) (fun _ => iv 1) (fun _ => [slp 87 4 q0 q1 [iv 3, iv 5, iv 0, Value.slice none 0 0]]) := by
  refine Con.of (args := [Value.agg #[Value.slice (some ⟨q0, 0, none⟩) 1 q1]]) Tryd.func45 rfl Tryd.ntmps45 rfl (fun F => ?_)
  show Wc _ W0 _ _ _ _ _ ((slp 87 4 q0 q1 [iv 3, iv 5, iv 0, Value.slice none 0 0]) :: F)
  refine Wc.seq ?_
  refine Wc.region ?_
  refine Wl.e (e_box (x := .tmp 0) (vs := [Value.slice (some ⟨q0, 0, none⟩) 1 q1]) rfl) (fun b1 _ => ?_)
  refine Wl.q (v := iv 0) (q_assign rfl) ?_
  refine Wl.done ?_
  refine Wx.go ?_
  refine Wc.seq ?_
  refine Wc.region ?_
  refine Wl.q (v := pv b1) (q_field (m := 0) fo_58_0 rfl rfl) ?_
  refine Wl.q (v := Value.slice (some ⟨q0, 0, none⟩) 1 q1) (q_load sc_56 rfl (.cel (i := 0) rfl rfl)) ?_
  refine Wl.q (v := iv 1) (q_len_slice Tryd.underlying56 rfl) ?_
  refine Wl.q (v := iv 2) (q_add (c := 2) rfl rfl (by decide)) ?_
  refine Wl.q (v := iv 1) (q_quo (c := 1) rfl rfl (by decide) (by decide)) ?_
  refine Wl.q (v := iv 1) (q_assign rfl) ?_
  refine Wl.done ?_
  refine Wx.go ?_
  refine Wc.seq ?_
  refine Wc.seq ?_
  refine Wc.drawsS [] ((pt b1 58 [Value.slice (some ⟨q0, 0, none⟩) 1 q1]) :: (slp 87 4 q0 q1 [iv 3, iv 5, iv 0, Value.slice none 0 0]) :: []) (by kernel_rfl) ?_
  refine Wr.pure (v := iv 1) 0 rfl (by kernel_rfl) (.inr (fun _ h => st_take [0, 0] h)) (.inl ⟨rfl, fun _ => q_move rfl⟩) ?_
  refine Wr.pure (v := Value.bool false) 1 rfl (by kernel_rfl) (.inr (fun _ h => st_take [0, 0] h)) (.inl ⟨rfl, fun _ => q_gtr (r := false) rfl rfl (decide_eq_false (by decide))⟩) ?_
  refine Wr.pure (v := Value.bool false) 2 rfl (by kernel_rfl) (.inr (fun _ h => st_take [0, 0] h)) (.inl ⟨rfl, fun _ => q_move rfl⟩) ?_
  refine Wr.pure (v := pv b1) 3 rfl (by kernel_rfl) (.inr (fun _ h => st_take [0, 0] h)) (.inl ⟨rfl, fun _ => q_field (m := 0) fo_58_0 rfl rfl⟩) ?_
  refine Wr.take (v := Value.slice (some ⟨q0, 0, none⟩) 1 q1) 4 rfl (by kernel_rfl) (fun _ h => st_take [0, 0] h) (.inl ⟨rfl, q_load sc_56 rfl (.cel (i := 0) rfl rfl)⟩) ?_
  refine Wr.take (v := iv 1) 5 rfl (by kernel_rfl) (fun _ h => st_take [0, 0] h) (.inl ⟨rfl, q_len_slice Tryd.underlying56 rfl⟩) ?_
  refine Wr.pure (v := Value.bool false) 6 rfl (by kernel_rfl) (.inr (fun _ h => st_take [0, 0] h)) (.inl ⟨rfl, fun _ => q_eql (r := false) rfl rfl (decide_eq_false (by decide))⟩) ?_
  refine Wr.pure (v := Value.bool false) 7 rfl (by kernel_rfl) (.inr (fun _ h => st_take [0, 0] h)) (.inl ⟨rfl, fun _ => q_pick (t := false) rfl rfl⟩) ?_
  refine Wr.pure (v := Value.bool false) 8 rfl (by kernel_rfl) (.inr (fun _ h => st_take [0, 0] h)) (.inl ⟨rfl, fun _ => q_move rfl⟩) ?_
  refine Wr.pure (v := iv 1) 9 rfl (by kernel_rfl) (.inr (fun _ h => st_take [0, 0] h)) (.inl ⟨rfl, fun _ => q_move rfl⟩) ?_
  refine Wr.pure (v := pv b1) 11 rfl (by kernel_rfl) (.inr (fun _ h => st_take [0, 0] h)) (.inl ⟨rfl, fun _ => q_field (m := 0) fo_58_0 rfl rfl⟩) ?_
  refine Wr.take (v := Value.slice (some ⟨q0, 0, none⟩) 1 q1) 12 rfl (by kernel_rfl) (fun _ h => st_take [0, 0] h) (.inl ⟨rfl, q_load sc_56 rfl (.cel (i := 0) rfl rfl)⟩) ?_
  refine Wr.take (v := iv 1) 13 rfl (by kernel_rfl) (fun _ h => st_take [0, 0] h) (.inl ⟨rfl, q_len_slice Tryd.underlying56 rfl⟩) ?_
  refine Wr.e 10 (by kernel_rfl) rfl (e_call (F := (pt b1 58 [Value.slice (some ⟨q0, 0, none⟩) 1 q1]) :: (slp 87 4 q0 q1 [iv 3, iv 5, iv 0, Value.slice none 0 0]) :: F) (args := [iv 1]) Tryd.call53 rfl (au20_Width W0)) (.inr fun _ _ _ h => st_take [0, 0] h) (fun _ _ => ?_)
  refine Wr.imp (L' := (pt b1 58 [Value.slice (some ⟨q0, 0, none⟩) 1 q1]) :: (slp 87 4 q0 q1 [iv 3, iv 5, iv 0, Value.slice none 0 0]) :: F) (fun _ h => h) ?_
  refine Wr.pure (v := Value.bool false) 14 rfl (by kernel_rfl) (.inr (fun _ h => st_take [0, 0] h)) (.inl ⟨rfl, fun _ => q_neq (r := true) rfl rfl (decide_eq_true (by decide))⟩) ?_
  refine Wr.pure (v := Value.bool false) 15 rfl (by kernel_rfl) (.inr (fun _ h => st_take [0, 0] h)) (.inl ⟨rfl, fun _ => q_pick (t := false) rfl rfl⟩) ?_
  refine Wr.done (by kernel_rfl) ?_
  refine Wx.go ?_
  refine Wc.no rfl ?_
  refine Wc.skip ?_
  refine Wx.go ?_
  refine Wc.seq ?_
  refine Wc.region ?_
  refine Wl.q (v := iv 1) (q_move rfl) ?_
  refine Wl.q (v := iv 1) (q_assign rfl) ?_
  refine Wl.done ?_
  refine Wx.go ?_
  refine Wc.ret ?_
  refine Wx.fin1 rfl (.inl rfl) (fun w hs => ?_)
  have hs : st W0 w ((slp 87 4 q0 q1 [iv 3, iv 5, iv 0, Value.slice none 0 0]) :: F) := (st_drop (st_pull [0] hs))
  exact ⟨(), trivial, rfl, hs⟩

set_option maxRecDepth 8000 in
set_option maxHeartbeats 4000000 in
theorem au22_blank (W0 : World)  :
    Con Tryd.prog W0 47 #[Value.agg #[iv 3, iv 5, iv 0, Value.slice none 0 0]] [] (X := Unit) (fun _ => True) (fun _ => Value.bool false) (fun _ => []) := by
  refine Con.of (args := [Value.agg #[iv 3, iv 5, iv 0, Value.slice none 0 0]]) Tryd.func47 rfl Tryd.ntmps47 rfl (fun F => ?_)
  show Wc _ W0 _ _ _ _ _ (F)
  refine Wc.seq ?_
  refine Wc.region ?_
  refine Wl.e (e_box (x := .tmp 0) (vs := [iv 3, iv 5, iv 0, Value.slice none 0 0]) rfl) (fun b1 _ => ?_)
  refine Wl.q (v := Value.bool false) (q_assign rfl) ?_
  refine Wl.done ?_
  refine Wx.go ?_
  refine Wc.seq ?_
  refine Wc.region ?_
  refine Wl.q (v := pv b1) (q_field (m := 0) fo_87_0 rfl rfl) ?_
  refine Wl.q (v := iv 3) (q_load sc_3 rfl (.cel (i := 0) rfl rfl)) ?_
  refine Wl.q (v := Value.bool false) (q_eql (r := false) rfl rfl (decide_eq_false (by decide))) ?_
  refine Wl.q (v := Value.bool false) (q_move rfl) ?_
  refine Wl.no ?_
  refine Wl.no ?_
  refine Wl.no ?_
  refine Wl.q (v := Value.bool false) (q_pick (t := false) rfl rfl) ?_
  refine Wl.q (v := Value.bool false) (q_move rfl) ?_
  refine Wl.no ?_
  refine Wl.no ?_
  refine Wl.no ?_
  refine Wl.q (v := Value.bool false) (q_pick (t := false) rfl rfl) ?_
  refine Wl.q (v := Value.bool false) (q_move rfl) ?_
  refine Wl.no ?_
  refine Wl.no ?_
  refine Wl.no ?_
  refine Wl.no ?_
  refine Wl.q (v := Value.bool false) (q_pick (t := false) rfl rfl) ?_
  refine Wl.q (v := Value.bool false) (q_assign rfl) ?_
  refine Wl.done ?_
  refine Wx.go ?_
  refine Wc.ret ?_
  refine Wx.fin1 rfl (.inl rfl) (fun w hs => ?_)
  have hs : st W0 w (F) := (st_drop (st_pull [0] hs))
  exact ⟨(), trivial, rfl, hs⟩

set_option maxRecDepth 8000 in
set_option maxHeartbeats 4000000 in
theorem au18_Check (W0 : World) (q0 : Nat) (q1 : Nat) (hq0 : 1 ≤ q1) :
    Con Tryd.prog W0 32 #[Value.agg #[Value.slice (some ⟨q0, 0, none⟩) 1 q1]] [slp 87 4 q0 q1 [iv 3, iv 5, iv 0, Value.slice none 0 0]] (X := Unit) (fun _ => True) (fun _ => iv 0) (fun _ => [slp 87 4 q0 q1 [iv 3, iv 5, iv 0, Value.slice none 0 0]]) := by
  refine Con.of (args := [Value.agg #[Value.slice (some ⟨q0, 0, none⟩) 1 q1]]) Tryd.func32 rfl Tryd.ntmps32 rfl (fun F => ?_)
  show Wc _ W0 _ _ _ _ _ ((slp 87 4 q0 q1 [iv 3, iv 5, iv 0, Value.slice none 0 0]) :: F)
  refine Wc.seq ?_
  refine Wc.region ?_
  refine Wl.e (e_box (x := .tmp 0) (vs := [Value.slice (some ⟨q0, 0, none⟩) 1 q1]) rfl) (fun b1 _ => ?_)
  refine Wl.q (v := iv 0) (q_assign rfl) ?_
  refine Wl.done ?_
  refine Wx.go ?_
  refine Wc.seq ?_
  refine Wc.seq ?_
  refine Wc.region ?_
  refine Wl.q (v := pv b1) (q_field (m := 0) fo_58_0 rfl rfl) ?_
  refine Wl.q (v := Value.slice (some ⟨q0, 0, none⟩) 1 q1) (q_load sc_56 rfl (.cel (i := 0) rfl rfl)) ?_
  refine Wl.q (v := iv 1) (q_len_slice Tryd.underlying56 rfl) ?_
  refine Wl.q (v := Value.bool false) (q_eql (r := false) rfl rfl (decide_eq_false (by decide))) ?_
  refine Wl.done ?_
  refine Wx.go ?_
  refine Wc.no rfl ?_
  refine Wc.skip ?_
  refine Wx.go ?_
  refine Wc.seq ?_
  refine Wc.region ?_
  refine Wl.q (v := Value.agg #[Value.slice (some ⟨q0, 0, none⟩) 1 q1]) (q_loadAgg (vs := [Value.slice (some ⟨q0, 0, none⟩) 1 q1]) ag_58 rfl (Has.of_pt (i := 0) rfl rfl)) ?_
  refine Wl.imp (L' := (slp 87 4 q0 q1 [iv 3, iv 5, iv 0, Value.slice none 0 0]) :: (pt b1 58 [Value.slice (some ⟨q0, 0, none⟩) 1 q1]) :: F) (fun _ h => st_pull [1] h) ?_
  refine Wl.e (e_call (F := (pt b1 58 [Value.slice (some ⟨q0, 0, none⟩) 1 q1]) :: F) (args := [Value.agg #[Value.slice (some ⟨q0, 0, none⟩) 1 q1]]) Tryd.call45 rfl (au19_leaves W0 q0 q1 hq0)) (fun _ _ => ?_)
  refine Wl.imp (L' := (slp 87 4 q0 q1 [iv 3, iv 5, iv 0, Value.slice none 0 0]) :: (pt b1 58 [Value.slice (some ⟨q0, 0, none⟩) 1 q1]) :: F) (fun _ h => h) ?_
  refine Wl.q (v := iv 1) (q_assign rfl) ?_
  refine Wl.done ?_
  refine Wx.go ?_
  refine Wc.seq ?_
  refine Wc.seq ?_
  refine Wc.region ?_
  refine Wl.q (v := iv 1) (q_move rfl) ?_
  refine Wl.q (v := Value.bool false) (q_eql (r := false) rfl rfl (decide_eq_false (by decide))) ?_
  refine Wl.done ?_
  refine Wx.go ?_
  refine Wc.no rfl ?_
  refine Wc.skip ?_
  refine Wx.go ?_
  refine Wc.seq ?_
  refine Wc.region ?_
  refine Wl.e (e_makeMap) (fun b2 _ => ?_)
  refine Wl.q (v := Value.map (some b2)) (q_assign rfl) ?_
  refine Wl.done ?_
  refine Wx.go ?_
  refine Wc.seq ?_
  refine Wc.region ?_
  refine Wl.q (v := iv (-1)) (q_assign rfl) ?_
  refine Wl.done ?_
  refine Wx.go ?_
  refine Wc.seq ?_
  refine Wc.seq ?_
  refine Wc.region ?_
  refine Wl.q (v := pv b1) (q_field (m := 0) fo_58_0 rfl rfl) ?_
  refine Wl.q (v := Value.slice (some ⟨q0, 0, none⟩) 1 q1) (q_load sc_56 rfl (.cel (i := 2) rfl rfl)) ?_
  refine Wl.q (v := iv 1) (q_len_slice Tryd.underlying56 rfl) ?_
  refine Wl.q (v := iv 0) (q_move rfl) ?_
  refine Wl.done ?_
  refine Wx.go ?_
  refine Wc.block ?_
  refine Wc.rounds 64 ?_
  refine Wn.round ?_
  refine Wc.seq ?_
  refine Wc.region ?_
  refine Wl.q (v := Value.bool true) (q_lss (r := true) rfl rfl (decide_eq_true (by decide))) ?_
  refine Wl.done ?_
  refine Wx.go ?_
  refine Wc.seq ?_
  refine Wc.yes rfl ?_
  refine Wc.skip ?_
  refine Wx.go ?_
  refine Wc.seq ?_
  refine Wc.block ?_
  refine Wc.seq ?_
  refine Wc.region ?_
  refine Wl.q (v := iv 0) (q_move rfl) ?_
  refine Wl.q (v := pv q0) (q_idx (m := 0) se_56 rfl rfl (by omega) (by omega) rfl) ?_
  refine Wl.q (v := Value.agg #[iv 3, iv 5, iv 0, Value.slice none 0 0]) (q_loadAgg (vs := [iv 3, iv 5, iv 0, Value.slice none 0 0]) ag_87 rfl (Has.of_slp (i := 1) rfl rfl)) ?_
  refine Wl.e (e_alloc (vs := [iv 0, iv 0, iv 0, Value.slice none 0 0]) zo_87 rfl) (fun b3 _ => ?_)
  refine Wl.q (v := iv 0) (q_assign rfl) ?_
  refine Wl.e (e_storeAgg (i := 0) (vs := [iv 3, iv 5, iv 0, Value.slice none 0 0]) (c' := [iv 3, iv 5, iv 0, Value.slice none 0 0]) sz_87 rfl rfl rfl rfl (by simp) rfl) (fun _ _ => ?_)
  refine Wl.imp (L' := (pt b3 87 [iv 3, iv 5, iv 0, Value.slice none 0 0]) :: (mp b2 []) :: (slp 87 4 q0 q1 [iv 3, iv 5, iv 0, Value.slice none 0 0]) :: (pt b1 58 [Value.slice (some ⟨q0, 0, none⟩) 1 q1]) :: F) (fun _ h => h) ?_
  refine Wl.done ?_
  refine Wx.go ?_
  refine Wc.seq ?_
  refine Wc.seq ?_
  refine Wc.region ?_
  refine Wl.q (v := iv 0) (q_move rfl) ?_
  refine Wl.q (v := iv 0) (q_rem (c := 0) rfl rfl (by decide) (by decide)) ?_
  refine Wl.q (v := Value.bool false) (q_eql (r := false) rfl rfl (decide_eq_false (by decide))) ?_
  refine Wl.done ?_
  refine Wx.go ?_
  refine Wc.no rfl ?_
  refine Wc.skip ?_
  refine Wx.go ?_
  refine Wc.seq ?_
  refine Wc.seq ?_
  refine Wc.region ?_
  refine Wl.q (v := Value.agg #[iv 3, iv 5, iv 0, Value.slice none 0 0]) (q_loadAgg (vs := [iv 3, iv 5, iv 0, Value.slice none 0 0]) ag_87 rfl (Has.of_pt (i := 0) rfl rfl)) ?_
  refine Wl.e (e_call (F := (pt b3 87 [iv 3, iv 5, iv 0, Value.slice none 0 0]) :: (mp b2 []) :: (slp 87 4 q0 q1 [iv 3, iv 5, iv 0, Value.slice none 0 0]) :: (pt b1 58 [Value.slice (some ⟨q0, 0, none⟩) 1 q1]) :: F) (args := [Value.agg #[iv 3, iv 5, iv 0, Value.slice none 0 0]]) Tryd.call47 rfl (au22_blank W0)) (fun _ _ => ?_)
  refine Wl.imp (L' := (pt b3 87 [iv 3, iv 5, iv 0, Value.slice none 0 0]) :: (mp b2 []) :: (slp 87 4 q0 q1 [iv 3, iv 5, iv 0, Value.slice none 0 0]) :: (pt b1 58 [Value.slice (some ⟨q0, 0, none⟩) 1 q1]) :: F) (fun _ h => h) ?_
  refine Wl.done ?_
  refine Wx.go ?_
  refine Wc.no rfl ?_
  refine Wc.skip ?_
  refine Wx.go ?_
  refine Wc.seq ?_
  refine Wc.region ?_
  refine Wl.q (v := Value.map (some b2)) (q_move rfl) ?_
  refine Wl.q (v := Value.pointer (some ⟨b3, 1, none⟩)) (q_field (m := 1) fo_87_1 rfl rfl) ?_
  refine Wl.q (v := iv 5) (q_load sc_3 rfl (.cel (i := 0) rfl rfl)) ?_
  refine Wl.q (v := iv 0) (q_lookup1 (i := 1) (key := iv 5) (r := iv 0) Tryd.underlying95 (Maps.int_keyed Tryd.underlying3) zo_3 rfl rfl rfl ⟨_, Maps.keyOf_int_mk Tryd.underlying3 (by decide)⟩ (fun _ h => by cases h) (.inl ⟨by simp, rfl⟩)) ?_
  refine Wl.q (v := iv 1) (q_add (c := 1) rfl rfl (by decide)) ?_
  refine Wl.e (e_mapNew (i := 1) (key := iv 5) (val := iv 1) Tryd.underlying95 (Maps.int_keyed Tryd.underlying3) rfl rfl rfl rfl ⟨_, Maps.keyOf_int_mk Tryd.underlying3 (by decide)⟩ (fun _ h => by cases h) (by simp)) (fun _ _ => ?_)
  refine Wl.imp (L' := (pt b3 87 [iv 3, iv 5, iv 0, Value.slice none 0 0]) :: (mp b2 [(iv 5, iv 1)]) :: (slp 87 4 q0 q1 [iv 3, iv 5, iv 0, Value.slice none 0 0]) :: (pt b1 58 [Value.slice (some ⟨q0, 0, none⟩) 1 q1]) :: F) (fun _ h => h) ?_
  refine Wl.done ?_
  refine Wx.go ?_
  refine Wc.seq ?_
  refine Wc.seq ?_
  refine Wc.region ?_
  refine Wl.q (v := pv b3) (q_field (m := 0) fo_87_0 rfl rfl) ?_
  refine Wl.q (v := iv 3) (q_load sc_3 rfl (.cel (i := 0) rfl rfl)) ?_
  refine Wl.q (v := Value.bool false) (q_lss (r := false) rfl rfl (decide_eq_false (by decide))) ?_
  refine Wl.q (v := Value.bool false) (q_move rfl) ?_
  refine Wl.q (v := Value.pointer (some ⟨b3, 1, none⟩)) (q_field (m := 1) fo_87_1 rfl rfl) ?_
  refine Wl.q (v := iv 5) (q_load sc_3 rfl (.cel (i := 0) rfl rfl)) ?_
  refine Wl.q (v := Value.bool false) (q_lss (r := false) rfl rfl (decide_eq_false (by decide))) ?_
  refine Wl.q (v := Value.bool false) (q_pick (t := false) rfl rfl) ?_
  refine Wl.q (v := Value.bool false) (q_move rfl) ?_
  refine Wl.q (v := Value.pointer (some ⟨b3, 2, none⟩)) (q_field (m := 2) fo_87_2 rfl rfl) ?_
  refine Wl.q (v := iv 0) (q_load sc_3 rfl (.cel (i := 0) rfl rfl)) ?_
  refine Wl.q (v := Value.bool false) (q_lss (r := false) rfl rfl (decide_eq_false (by decide))) ?_
  refine Wl.q (v := Value.bool false) (q_pick (t := false) rfl rfl) ?_
  refine Wl.q (v := Value.bool false) (q_move rfl) ?_
  refine Wl.q (v := Value.pointer (some ⟨b3, 3, none⟩)) (q_field (m := 3) fo_87_3 rfl rfl) ?_
  refine Wl.q (v := Value.slice none 0 0) (q_load sc_31 rfl (.cel (i := 0) rfl rfl)) ?_
  refine Wl.q (v := iv 0) (q_len_slice Tryd.underlying31 rfl) ?_
  refine Wl.q (v := Value.bool false) (q_gtr (r := false) rfl rfl (decide_eq_false (by decide))) ?_
  refine Wl.q (v := Value.bool false) (q_pick (t := false) rfl rfl) ?_
  refine Wl.q (v := Value.bool false) (q_move rfl) ?_
  refine Wl.q (v := Value.map (some b2)) (q_move rfl) ?_
  refine Wl.q (v := Value.pointer (some ⟨b3, 1, none⟩)) (q_field (m := 1) fo_87_1 rfl rfl) ?_
  refine Wl.q (v := iv 5) (q_load sc_3 rfl (.cel (i := 0) rfl rfl)) ?_
  refine Wl.q (v := iv 1) (q_lookup1 (i := 1) (key := iv 5) (r := iv 1) Tryd.underlying95 (Maps.int_keyed Tryd.underlying3) zo_3 rfl rfl rfl ⟨_, Maps.keyOf_int_mk Tryd.underlying3 (by decide)⟩ (List.forall_mem_cons.2 ⟨⟨_, Maps.keyOf_int_mk Tryd.underlying3 (by decide)⟩, (fun _ h => by cases h)⟩) (.inr ⟨by simp, by simp⟩)) ?_
  refine Wl.q (v := Value.bool false) (q_gtr (r := false) rfl rfl (decide_eq_false (by decide))) ?_
  refine Wl.q (v := Value.bool false) (q_pick (t := false) rfl rfl) ?_
  refine Wl.done ?_
  refine Wx.go ?_
  refine Wc.no rfl ?_
  refine Wc.skip ?_
  refine Wx.go ?_
  refine Wc.region ?_
  refine Wl.q (v := iv 0) (q_move rfl) ?_
  refine Wl.q (v := iv 0) (q_quo (c := 0) rfl rfl (by decide) (by decide)) ?_
  refine Wl.q (v := iv 0) (q_assign rfl) ?_
  refine Wl.done ?_
  refine Wx.blockEnd ?_
  refine Wx.go ?_
  refine Wc.region ?_
  refine Wl.q (v := iv 1) (q_add (c := 1) rfl rfl (by decide)) ?_
  refine Wl.q (v := iv 1) (q_move rfl) ?_
  refine Wl.done ?_
  refine Wx.again ?_
  refine Wn.round ?_
  refine Wc.imp (L' := (mp b2 [(iv 5, iv 1)]) :: (slp 87 4 q0 q1 [iv 3, iv 5, iv 0, Value.slice none 0 0]) :: (pt b1 58 [Value.slice (some ⟨q0, 0, none⟩) 1 q1]) :: F) (fun w hs => (st_drop (st_pull [0] hs))) ?_
  refine Wc.seq ?_
  refine Wc.region ?_
  refine Wl.q (v := Value.bool false) (q_lss (r := false) rfl rfl (decide_eq_false (by decide))) ?_
  refine Wl.done ?_
  refine Wx.go ?_
  refine Wc.seq ?_
  refine Wc.no rfl ?_
  refine Wc.exit ?_
  refine Wx.thenExit ?_
  refine Wx.thenExit ?_
  refine Wx.out ?_
  refine Wx.go ?_
  refine Wc.seq ?_
  refine Wc.seq ?_
  refine Wc.imp (L' := (slp 87 4 q0 q1 [iv 3, iv 5, iv 0, Value.slice none 0 0]) :: F) (fun w hs => (st_drop (st_drop (st_pull [0, 1] hs)))) ?_
  refine Wc.region ?_
  refine Wl.q (v := iv 0) (q_move rfl) ?_
  refine Wl.q (v := iv 1) (q_move rfl) ?_
  refine Wl.q (v := iv 0) (q_quo (c := 0) rfl rfl (by decide) (by decide)) ?_
  refine Wl.q (v := Value.bool false) (q_lss (r := false) rfl rfl (decide_eq_false (by decide))) ?_
  refine Wl.done ?_
  refine Wx.go ?_
  refine Wc.no rfl ?_
  refine Wc.skip ?_
  refine Wx.go ?_
  refine Wc.seq ?_
  refine Wc.region ?_
  refine Wl.q (v := iv 0) (q_assign rfl) ?_
  refine Wl.done ?_
  refine Wx.go ?_
  refine Wc.ret ?_
  refine Wx.fin1 rfl (.inl rfl) (fun w hs => ?_)
  have hs : st W0 w ((slp 87 4 q0 q1 [iv 3, iv 5, iv 0, Value.slice none 0 0]) :: F) := hs
  exact ⟨(), trivial, rfl, hs⟩

set_option maxRecDepth 8000 in
set_option maxHeartbeats 4000000 in
theorem au23_there (W0 : World) (q0 : Nat)  :
    Con Tryd.prog W0 15 #[pv q0, iv 3] [storeW q0 tl2_3] (X := Unit) (fun _ => True) (fun _ => Value.bool true) (fun _ => [storeW q0 tl2_3]) := by
  refine Con.of (args := [pv q0, iv 3]) Tryd.func15 rfl Tryd.ntmps15 rfl (fun F => ?_)
  show Wc _ W0 _ _ _ _ _ ((storeW q0 tl2_3) :: F)
  refine Wc.seq ?_
  refine Wc.region ?_
  refine Wl.q (v := Value.bool false) (q_assign rfl) ?_
  refine Wl.done ?_
  refine Wx.go ?_
  refine Wc.seq ?_
  refine Wc.region ?_
  refine Wl.q (v := pv q0) (q_move rfl) ?_
  refine Wl.q (v := iv 3) (q_move rfl) ?_
  refine Wl.e (e_call (F := F) (args := [pv q0, iv 3]) Tryd.call30 rfl (get_w W0 q0 tl2_3 3 ⟨5, 0, 1, 0⟩ (by decide) rfl)) (fun _ _ => ?_)
  refine Wl.imp (L' := (storeW q0 tl2_3) :: F) (fun _ h => h) ?_
  refine Wl.q (v := Value.tuple #[Value.agg #[Value.int .u8 5, iv 0, iv 1, iv 0], Value.bool true]) (q_move rfl) ?_
  refine Wl.q (v := Value.agg #[Value.int .u8 5, iv 0, iv 1, iv 0]) (q_extract (i := 0) rfl rfl) ?_
  refine Wl.q (v := Value.bool true) (q_extract (i := 1) rfl rfl) ?_
  refine Wl.e (e_alloc (vs := [Value.int .u8 0, iv 0, iv 0, iv 0]) zo_29 rfl) (fun b1 _ => ?_)
  refine Wl.e (e_storeAgg (i := 0) (vs := [Value.int .u8 5, iv 0, iv 1, iv 0]) (c' := [Value.int .u8 5, iv 0, iv 1, iv 0]) sz_29 rfl rfl rfl rfl (by simp) rfl) (fun _ _ => ?_)
  refine Wl.imp (L' := (pt b1 29 [Value.int .u8 5, iv 0, iv 1, iv 0]) :: (storeW q0 tl2_3) :: F) (fun _ h => h) ?_
  refine Wl.q (v := Value.bool true) (q_assign rfl) ?_
  refine Wl.done ?_
  refine Wx.go ?_
  refine Wc.seq ?_
  refine Wc.region ?_
  refine Wl.q (v := Value.bool true) (q_move rfl) ?_
  refine Wl.q (v := Value.bool true) (q_assign rfl) ?_
  refine Wl.done ?_
  refine Wx.go ?_
  refine Wc.ret ?_
  refine Wx.fin1 rfl (.inl rfl) (fun w hs => ?_)
  have hs : st W0 w ((storeW q0 tl2_3) :: F) := (st_drop (st_pull [0] hs))
  exact ⟨(), trivial, rfl, hs⟩

def tl3_4 : List TermR := [⟨1, 1, 0, 0⟩, ⟨1, 2, 0, 0⟩, ⟨5, 0, 1, 0⟩, ⟨2, 4, 0, 0⟩]

set_option maxRecDepth 8000 in
set_option maxHeartbeats 4000000 in
theorem au25_make (W0 : World) (q0 : Nat) (q1 : Nat)  :
    Con Tryd.prog W0 17 #[pv q0, Value.agg #[Value.int .u8 2, iv 4, iv 0, iv 0]] [pt q0 52 [pv q1, iv 0], storeW q1 tl2_3] (X := Unit) (fun _ => True) (fun _ => iv 4) (fun _ => [pt q0 52 [pv q1, iv 0], storeW q1 tl3_4]) := by
  refine Con.of (args := [pv q0, Value.agg #[Value.int .u8 2, iv 4, iv 0, iv 0]]) Tryd.func17 rfl Tryd.ntmps17 rfl (fun F => ?_)
  show Wc _ W0 _ _ _ _ _ ((pt q0 52 [pv q1, iv 0]) :: (storeW q1 tl2_3) :: F)
  refine Wc.seq ?_
  refine Wc.region ?_
  refine Wl.e (e_box (x := .tmp 1) (vs := [Value.int .u8 2, iv 4, iv 0, iv 0]) rfl) (fun b1 _ => ?_)
  refine Wl.q (v := iv 0) (q_assign rfl) ?_
  refine Wl.done ?_
  refine Wx.go ?_
  refine Wc.seq ?_
  refine Wc.seq ?_
  refine Wc.region ?_
  refine Wl.q (v := pv q0) (q_move rfl) ?_
  refine Wl.q (v := pv q0) (q_nil_ptr rfl) ?_
  refine Wl.q (v := Value.pointer (some ⟨q0, 1, none⟩)) (q_field (m := 1) fo_52_1 rfl rfl) ?_
  refine Wl.q (v := iv 0) (q_load sc_34 rfl (.cel (i := 1) rfl rfl)) ?_
  refine Wl.q (v := Value.bool false) (q_neq (r := true) rfl rfl (decide_eq_true (by decide))) ?_
  refine Wl.done ?_
  refine Wx.go ?_
  refine Wc.no rfl ?_
  refine Wc.skip ?_
  refine Wx.go ?_
  refine Wc.seq ?_
  refine Wc.drawsS [5] ((pt b1 29 [Value.int .u8 2, iv 4, iv 0, iv 0]) :: (pt q0 52 [pv q1, iv 0]) :: (storeW q1 tl2_3) :: []) (by kernel_rfl) ?_
  refine Wr.pure (v := pv q0) 0 rfl (by kernel_rfl) (.inr (fun _ h => st_take [0, 0, 0] h)) (.inl ⟨rfl, fun _ => q_move rfl⟩) ?_
  refine Wr.pure (v := pv q0) 1 rfl (by kernel_rfl) (.inr (fun _ h => st_take [0, 0, 0] h)) (.inl ⟨rfl, fun _ => q_nil_ptr rfl⟩) ?_
  refine Wr.pure (v := pv q0) 2 rfl (by kernel_rfl) (.inr (fun _ h => st_take [0, 0, 0] h)) (.inl ⟨rfl, fun _ => q_field (m := 0) fo_52_0 rfl rfl⟩) ?_
  refine Wr.take (v := pv q1) 3 rfl (by kernel_rfl) (fun _ h => st_take [0, 0, 0] h) (.inl ⟨rfl, q_load sc_23 rfl (.cel (i := 1) rfl rfl)⟩) ?_
  refine Wr.take (v := Value.agg #[Value.int .u8 2, iv 4, iv 0, iv 0]) 4 rfl (by kernel_rfl) (fun _ h => st_take [0, 0, 0] h) (.inl ⟨rfl, q_loadAgg (vs := [Value.int .u8 2, iv 4, iv 0, iv 0]) ag_29 rfl (Has.of_pt (i := 0) rfl rfl)⟩) ?_
  refine Wr.imp (L' := (storeW q1 tl2_3) :: (pt b1 29 [Value.int .u8 2, iv 4, iv 0, iv 0]) :: (pt q0 52 [pv q1, iv 0]) :: F) (fun _ h => st_pull [2] h) ?_
  refine Wr.e 5 (by kernel_rfl) rfl (e_call (F := (pt b1 29 [Value.int .u8 2, iv 4, iv 0, iv 0]) :: (pt q0 52 [pv q1, iv 0]) :: F) (args := [pv q1, Value.agg #[Value.int .u8 2, iv 4, iv 0, iv 0]]) Tryd.call12 rfl (make_w W0 q1 tl2_3 tl3_4 ⟨2, 4, 0, 0⟩ 4 4 0 (by unfold okT; decide) (by decide +kernel) rfl)) (.inl (by kernel_rfl)) (fun _ _ => ?_)
  refine Wr.imp (L' := (storeW q1 tl3_4) :: (pt b1 29 [Value.int .u8 2, iv 4, iv 0, iv 0]) :: (pt q0 52 [pv q1, iv 0]) :: F) (fun _ h => h) ?_
  refine Wr.rebaseS [] ((storeW q1 tl3_4) :: (pt b1 29 [Value.int .u8 2, iv 4, iv 0, iv 0]) :: (pt q0 52 [pv q1, iv 0]) :: []) (by kernel_rfl) ?_
  refine Wr.pure (v := Value.tuple #[iv 4, iv 0]) 6 rfl (by kernel_rfl) (.inr (fun _ h => st_take [0, 0, 0] h)) (.inl ⟨rfl, fun _ => q_move rfl⟩) ?_
  refine Wr.pure (v := iv 4) 7 rfl (by kernel_rfl) (.inr (fun _ h => st_take [0, 0, 0] h)) (.inl ⟨rfl, fun _ => q_extract (i := 0) rfl rfl⟩) ?_
  refine Wr.pure (v := iv 0) 8 rfl (by kernel_rfl) (.inr (fun _ h => st_take [0, 0, 0] h)) (.inl ⟨rfl, fun _ => q_extract (i := 1) rfl rfl⟩) ?_
  refine Wr.pure (v := iv 4) 9 rfl (by kernel_rfl) (.inr (fun _ h => st_take [0, 0, 0] h)) (.inl ⟨rfl, fun _ => q_assign rfl⟩) ?_
  refine Wr.pure (v := iv 0) 10 rfl (by kernel_rfl) (.inr (fun _ h => st_take [0, 0, 0] h)) (.inl ⟨rfl, fun _ => q_assign rfl⟩) ?_
  refine Wr.done (by kernel_rfl) ?_
  refine Wx.go ?_
  refine Wc.seq ?_
  refine Wc.region ?_
  refine Wl.q (v := pv q0) (q_move rfl) ?_
  refine Wl.q (v := iv 0) (q_move rfl) ?_
  refine Wl.q (v := pv q0) (q_nil_ptr rfl) ?_
  refine Wl.q (v := Value.pointer (some ⟨q0, 1, none⟩)) (q_field (m := 1) fo_52_1 rfl rfl) ?_
  refine Wl.e (e_store (i := 2) (v := iv 0) sz_34 rfl rfl (fun _ _ => rfl) rfl (by simp)) (fun _ _ => ?_)
  refine Wl.imp (L' := (storeW q1 tl3_4) :: (pt b1 29 [Value.int .u8 2, iv 4, iv 0, iv 0]) :: (pt q0 52 [pv q1, iv 0]) :: F) (fun _ h => h) ?_
  refine Wl.done ?_
  refine Wx.go ?_
  refine Wc.seq ?_
  refine Wc.region ?_
  refine Wl.q (v := iv 4) (q_move rfl) ?_
  refine Wl.q (v := iv 4) (q_assign rfl) ?_
  refine Wl.done ?_
  refine Wx.go ?_
  refine Wc.ret ?_
  refine Wx.fin1 rfl (.inl rfl) (fun w hs => ?_)
  have hs : st W0 w ((pt q0 52 [pv q1, iv 0]) :: (storeW q1 tl3_4) :: F) := (st_pull [1, 0] (st_drop (st_pull [1] hs)))
  exact ⟨(), trivial, rfl, hs⟩

set_option maxRecDepth 8000 in
set_option maxHeartbeats 4000000 in
theorem au24_data (W0 : World) (q0 : Nat) (q1 : Nat)  :
    Con Tryd.prog W0 33 #[pv q0, iv 4] [pt q0 52 [pv q1, iv 0], storeW q1 tl2_3] (X := Unit) (fun _ => True) (fun _ => iv 4) (fun _ => [pt q0 52 [pv q1, iv 0], storeW q1 tl3_4]) := by
  refine Con.of (args := [pv q0, iv 4]) Tryd.func33 rfl Tryd.ntmps33 rfl (fun F => ?_)
  show Wc _ W0 _ _ _ _ _ ((pt q0 52 [pv q1, iv 0]) :: (storeW q1 tl2_3) :: F)
  refine Wc.seq ?_
  refine Wc.region ?_
  refine Wl.q (v := iv 0) (q_assign rfl) ?_
  refine Wl.done ?_
  refine Wx.go ?_
  refine Wc.seq ?_
  refine Wc.region ?_
  refine Wl.q (v := pv q0) (q_move rfl) ?_
  refine Wl.q (v := iv 4) (q_move rfl) ?_
  refine Wl.q (v := Value.agg #[Value.int .u8 2, iv 4, iv 0, iv 0]) (q_build (pl := [(0, 1), (1, 1), (2, 1), (3, 1)]) Tryd.underlying29 zo_29 (by kernel_rfl) (by kernel_rfl)) ?_
  refine Wl.e (e_call (F := F) (args := [pv q0, Value.agg #[Value.int .u8 2, iv 4, iv 0, iv 0]]) Tryd.call17 rfl (au25_make W0 q0 q1)) (fun _ _ => ?_)
  refine Wl.imp (L' := (pt q0 52 [pv q1, iv 0]) :: (storeW q1 tl3_4) :: F) (fun _ h => h) ?_
  refine Wl.q (v := iv 4) (q_assign rfl) ?_
  refine Wl.done ?_
  refine Wx.go ?_
  refine Wc.ret ?_
  refine Wx.fin1 rfl (.inl rfl) (fun w hs => ?_)
  have hs : st W0 w ((pt q0 52 [pv q1, iv 0]) :: (storeW q1 tl3_4) :: F) := hs
  exact ⟨(), trivial, rfl, hs⟩

def tl4_5 : List TermR := [⟨1, 1, 0, 0⟩, ⟨1, 2, 0, 0⟩, ⟨5, 0, 1, 0⟩, ⟨2, 4, 0, 0⟩, ⟨2, 0, 0, 0⟩]

set_option maxRecDepth 8000 in
set_option maxHeartbeats 4000000 in
theorem au27_make (W0 : World) (q0 : Nat) (q1 : Nat)  :
    Con Tryd.prog W0 17 #[pv q0, Value.agg #[Value.int .u8 2, iv 0, iv 0, iv 0]] [pt q0 52 [pv q1, iv 0], storeW q1 tl3_4] (X := Unit) (fun _ => True) (fun _ => iv 5) (fun _ => [pt q0 52 [pv q1, iv 0], storeW q1 tl4_5]) := by
  refine Con.of (args := [pv q0, Value.agg #[Value.int .u8 2, iv 0, iv 0, iv 0]]) Tryd.func17 rfl Tryd.ntmps17 rfl (fun F => ?_)
  show Wc _ W0 _ _ _ _ _ ((pt q0 52 [pv q1, iv 0]) :: (storeW q1 tl3_4) :: F)
  refine Wc.seq ?_
  refine Wc.region ?_
  refine Wl.e (e_box (x := .tmp 1) (vs := [Value.int .u8 2, iv 0, iv 0, iv 0]) rfl) (fun b1 _ => ?_)
  refine Wl.q (v := iv 0) (q_assign rfl) ?_
  refine Wl.done ?_
  refine Wx.go ?_
  refine Wc.seq ?_
  refine Wc.seq ?_
  refine Wc.region ?_
  refine Wl.q (v := pv q0) (q_move rfl) ?_
  refine Wl.q (v := pv q0) (q_nil_ptr rfl) ?_
  refine Wl.q (v := Value.pointer (some ⟨q0, 1, none⟩)) (q_field (m := 1) fo_52_1 rfl rfl) ?_
  refine Wl.q (v := iv 0) (q_load sc_34 rfl (.cel (i := 1) rfl rfl)) ?_
  refine Wl.q (v := Value.bool false) (q_neq (r := true) rfl rfl (decide_eq_true (by decide))) ?_
  refine Wl.done ?_
  refine Wx.go ?_
  refine Wc.no rfl ?_
  refine Wc.skip ?_
  refine Wx.go ?_
  refine Wc.seq ?_
  refine Wc.drawsS [5] ((pt b1 29 [Value.int .u8 2, iv 0, iv 0, iv 0]) :: (pt q0 52 [pv q1, iv 0]) :: (storeW q1 tl3_4) :: []) (by kernel_rfl) ?_
  refine Wr.pure (v := pv q0) 0 rfl (by kernel_rfl) (.inr (fun _ h => st_take [0, 0, 0] h)) (.inl ⟨rfl, fun _ => q_move rfl⟩) ?_
  refine Wr.pure (v := pv q0) 1 rfl (by kernel_rfl) (.inr (fun _ h => st_take [0, 0, 0] h)) (.inl ⟨rfl, fun _ => q_nil_ptr rfl⟩) ?_
  refine Wr.pure (v := pv q0) 2 rfl (by kernel_rfl) (.inr (fun _ h => st_take [0, 0, 0] h)) (.inl ⟨rfl, fun _ => q_field (m := 0) fo_52_0 rfl rfl⟩) ?_
  refine Wr.take (v := pv q1) 3 rfl (by kernel_rfl) (fun _ h => st_take [0, 0, 0] h) (.inl ⟨rfl, q_load sc_23 rfl (.cel (i := 1) rfl rfl)⟩) ?_
  refine Wr.take (v := Value.agg #[Value.int .u8 2, iv 0, iv 0, iv 0]) 4 rfl (by kernel_rfl) (fun _ h => st_take [0, 0, 0] h) (.inl ⟨rfl, q_loadAgg (vs := [Value.int .u8 2, iv 0, iv 0, iv 0]) ag_29 rfl (Has.of_pt (i := 0) rfl rfl)⟩) ?_
  refine Wr.imp (L' := (storeW q1 tl3_4) :: (pt b1 29 [Value.int .u8 2, iv 0, iv 0, iv 0]) :: (pt q0 52 [pv q1, iv 0]) :: F) (fun _ h => st_pull [2] h) ?_
  refine Wr.e 5 (by kernel_rfl) rfl (e_call (F := (pt b1 29 [Value.int .u8 2, iv 0, iv 0, iv 0]) :: (pt q0 52 [pv q1, iv 0]) :: F) (args := [pv q1, Value.agg #[Value.int .u8 2, iv 0, iv 0, iv 0]]) Tryd.call12 rfl (make_w W0 q1 tl3_4 tl4_5 ⟨2, 0, 0, 0⟩ 5 5 0 (by unfold okT; decide) (by decide +kernel) rfl)) (.inl (by kernel_rfl)) (fun _ _ => ?_)
  refine Wr.imp (L' := (storeW q1 tl4_5) :: (pt b1 29 [Value.int .u8 2, iv 0, iv 0, iv 0]) :: (pt q0 52 [pv q1, iv 0]) :: F) (fun _ h => h) ?_
  refine Wr.rebaseS [] ((storeW q1 tl4_5) :: (pt b1 29 [Value.int .u8 2, iv 0, iv 0, iv 0]) :: (pt q0 52 [pv q1, iv 0]) :: []) (by kernel_rfl) ?_
  refine Wr.pure (v := Value.tuple #[iv 5, iv 0]) 6 rfl (by kernel_rfl) (.inr (fun _ h => st_take [0, 0, 0] h)) (.inl ⟨rfl, fun _ => q_move rfl⟩) ?_
  refine Wr.pure (v := iv 5) 7 rfl (by kernel_rfl) (.inr (fun _ h => st_take [0, 0, 0] h)) (.inl ⟨rfl, fun _ => q_extract (i := 0) rfl rfl⟩) ?_
  refine Wr.pure (v := iv 0) 8 rfl (by kernel_rfl) (.inr (fun _ h => st_take [0, 0, 0] h)) (.inl ⟨rfl, fun _ => q_extract (i := 1) rfl rfl⟩) ?_
  refine Wr.pure (v := iv 5) 9 rfl (by kernel_rfl) (.inr (fun _ h => st_take [0, 0, 0] h)) (.inl ⟨rfl, fun _ => q_assign rfl⟩) ?_
  refine Wr.pure (v := iv 0) 10 rfl (by kernel_rfl) (.inr (fun _ h => st_take [0, 0, 0] h)) (.inl ⟨rfl, fun _ => q_assign rfl⟩) ?_
  refine Wr.done (by kernel_rfl) ?_
  refine Wx.go ?_
  refine Wc.seq ?_
  refine Wc.region ?_
  refine Wl.q (v := pv q0) (q_move rfl) ?_
  refine Wl.q (v := iv 0) (q_move rfl) ?_
  refine Wl.q (v := pv q0) (q_nil_ptr rfl) ?_
  refine Wl.q (v := Value.pointer (some ⟨q0, 1, none⟩)) (q_field (m := 1) fo_52_1 rfl rfl) ?_
  refine Wl.e (e_store (i := 2) (v := iv 0) sz_34 rfl rfl (fun _ _ => rfl) rfl (by simp)) (fun _ _ => ?_)
  refine Wl.imp (L' := (storeW q1 tl4_5) :: (pt b1 29 [Value.int .u8 2, iv 0, iv 0, iv 0]) :: (pt q0 52 [pv q1, iv 0]) :: F) (fun _ h => h) ?_
  refine Wl.done ?_
  refine Wx.go ?_
  refine Wc.seq ?_
  refine Wc.region ?_
  refine Wl.q (v := iv 5) (q_move rfl) ?_
  refine Wl.q (v := iv 5) (q_assign rfl) ?_
  refine Wl.done ?_
  refine Wx.go ?_
  refine Wc.ret ?_
  refine Wx.fin1 rfl (.inl rfl) (fun w hs => ?_)
  have hs : st W0 w ((pt q0 52 [pv q1, iv 0]) :: (storeW q1 tl4_5) :: F) := (st_pull [1, 0] (st_drop (st_pull [1] hs)))
  exact ⟨(), trivial, rfl, hs⟩

set_option maxRecDepth 8000 in
set_option maxHeartbeats 4000000 in
theorem au26_data (W0 : World) (q0 : Nat) (q1 : Nat)  :
    Con Tryd.prog W0 33 #[pv q0, iv 0] [pt q0 52 [pv q1, iv 0], storeW q1 tl3_4] (X := Unit) (fun _ => True) (fun _ => iv 5) (fun _ => [pt q0 52 [pv q1, iv 0], storeW q1 tl4_5]) := by
  refine Con.of (args := [pv q0, iv 0]) Tryd.func33 rfl Tryd.ntmps33 rfl (fun F => ?_)
  show Wc _ W0 _ _ _ _ _ ((pt q0 52 [pv q1, iv 0]) :: (storeW q1 tl3_4) :: F)
  refine Wc.seq ?_
  refine Wc.region ?_
  refine Wl.q (v := iv 0) (q_assign rfl) ?_
  refine Wl.done ?_
  refine Wx.go ?_
  refine Wc.seq ?_
  refine Wc.region ?_
  refine Wl.q (v := pv q0) (q_move rfl) ?_
  refine Wl.q (v := iv 0) (q_move rfl) ?_
  refine Wl.q (v := Value.agg #[Value.int .u8 2, iv 0, iv 0, iv 0]) (q_build (pl := [(0, 1), (1, 1), (2, 1), (3, 1)]) Tryd.underlying29 zo_29 (by kernel_rfl) (by kernel_rfl)) ?_
  refine Wl.e (e_call (F := F) (args := [pv q0, Value.agg #[Value.int .u8 2, iv 0, iv 0, iv 0]]) Tryd.call17 rfl (au27_make W0 q0 q1)) (fun _ _ => ?_)
  refine Wl.imp (L' := (pt q0 52 [pv q1, iv 0]) :: (storeW q1 tl4_5) :: F) (fun _ h => h) ?_
  refine Wl.q (v := iv 5) (q_assign rfl) ?_
  refine Wl.done ?_
  refine Wx.go ?_
  refine Wc.ret ?_
  refine Wx.fin1 rfl (.inl rfl) (fun w hs => ?_)
  have hs : st W0 w ((pt q0 52 [pv q1, iv 0]) :: (storeW q1 tl4_5) :: F) := hs
  exact ⟨(), trivial, rfl, hs⟩

set_option maxRecDepth 8000 in
set_option maxHeartbeats 4000000 in
theorem au29_make (W0 : World) (q0 : Nat) (q1 : Nat)  :
    Con Tryd.prog W0 17 #[pv q0, Value.agg #[Value.int .u8 2, iv 0, iv 0, iv 0]] [pt q0 52 [pv q1, iv 0], storeW q1 tl4_5] (X := Unit) (fun _ => True) (fun _ => iv 5) (fun _ => [pt q0 52 [pv q1, iv 0], storeW q1 tl4_5]) := by
  refine Con.of (args := [pv q0, Value.agg #[Value.int .u8 2, iv 0, iv 0, iv 0]]) Tryd.func17 rfl Tryd.ntmps17 rfl (fun F => ?_)
  show Wc _ W0 _ _ _ _ _ ((pt q0 52 [pv q1, iv 0]) :: (storeW q1 tl4_5) :: F)
  refine Wc.seq ?_
  refine Wc.region ?_
  refine Wl.e (e_box (x := .tmp 1) (vs := [Value.int .u8 2, iv 0, iv 0, iv 0]) rfl) (fun b1 _ => ?_)
  refine Wl.q (v := iv 0) (q_assign rfl) ?_
  refine Wl.done ?_
  refine Wx.go ?_
  refine Wc.seq ?_
  refine Wc.seq ?_
  refine Wc.region ?_
  refine Wl.q (v := pv q0) (q_move rfl) ?_
  refine Wl.q (v := pv q0) (q_nil_ptr rfl) ?_
  refine Wl.q (v := Value.pointer (some ⟨q0, 1, none⟩)) (q_field (m := 1) fo_52_1 rfl rfl) ?_
  refine Wl.q (v := iv 0) (q_load sc_34 rfl (.cel (i := 1) rfl rfl)) ?_
  refine Wl.q (v := Value.bool false) (q_neq (r := true) rfl rfl (decide_eq_true (by decide))) ?_
  refine Wl.done ?_
  refine Wx.go ?_
  refine Wc.no rfl ?_
  refine Wc.skip ?_
  refine Wx.go ?_
  refine Wc.seq ?_
  refine Wc.drawsS [5] ((pt b1 29 [Value.int .u8 2, iv 0, iv 0, iv 0]) :: (pt q0 52 [pv q1, iv 0]) :: (storeW q1 tl4_5) :: []) (by kernel_rfl) ?_
  refine Wr.pure (v := pv q0) 0 rfl (by kernel_rfl) (.inr (fun _ h => st_take [0, 0, 0] h)) (.inl ⟨rfl, fun _ => q_move rfl⟩) ?_
  refine Wr.pure (v := pv q0) 1 rfl (by kernel_rfl) (.inr (fun _ h => st_take [0, 0, 0] h)) (.inl ⟨rfl, fun _ => q_nil_ptr rfl⟩) ?_
  refine Wr.pure (v := pv q0) 2 rfl (by kernel_rfl) (.inr (fun _ h => st_take [0, 0, 0] h)) (.inl ⟨rfl, fun _ => q_field (m := 0) fo_52_0 rfl rfl⟩) ?_
  refine Wr.take (v := pv q1) 3 rfl (by kernel_rfl) (fun _ h => st_take [0, 0, 0] h) (.inl ⟨rfl, q_load sc_23 rfl (.cel (i := 1) rfl rfl)⟩) ?_
  refine Wr.take (v := Value.agg #[Value.int .u8 2, iv 0, iv 0, iv 0]) 4 rfl (by kernel_rfl) (fun _ h => st_take [0, 0, 0] h) (.inl ⟨rfl, q_loadAgg (vs := [Value.int .u8 2, iv 0, iv 0, iv 0]) ag_29 rfl (Has.of_pt (i := 0) rfl rfl)⟩) ?_
  refine Wr.imp (L' := (storeW q1 tl4_5) :: (pt b1 29 [Value.int .u8 2, iv 0, iv 0, iv 0]) :: (pt q0 52 [pv q1, iv 0]) :: F) (fun _ h => st_pull [2] h) ?_
  refine Wr.e 5 (by kernel_rfl) rfl (e_call (F := (pt b1 29 [Value.int .u8 2, iv 0, iv 0, iv 0]) :: (pt q0 52 [pv q1, iv 0]) :: F) (args := [pv q1, Value.agg #[Value.int .u8 2, iv 0, iv 0, iv 0]]) Tryd.call12 rfl (make_w W0 q1 tl4_5 tl4_5 ⟨2, 0, 0, 0⟩ 5 5 0 (by unfold okT; decide) (by decide +kernel) rfl)) (.inl (by kernel_rfl)) (fun _ _ => ?_)
  refine Wr.imp (L' := (storeW q1 tl4_5) :: (pt b1 29 [Value.int .u8 2, iv 0, iv 0, iv 0]) :: (pt q0 52 [pv q1, iv 0]) :: F) (fun _ h => h) ?_
  refine Wr.rebaseS [] ((storeW q1 tl4_5) :: (pt b1 29 [Value.int .u8 2, iv 0, iv 0, iv 0]) :: (pt q0 52 [pv q1, iv 0]) :: []) (by kernel_rfl) ?_
  refine Wr.pure (v := Value.tuple #[iv 5, iv 0]) 6 rfl (by kernel_rfl) (.inr (fun _ h => st_take [0, 0, 0] h)) (.inl ⟨rfl, fun _ => q_move rfl⟩) ?_
  refine Wr.pure (v := iv 5) 7 rfl (by kernel_rfl) (.inr (fun _ h => st_take [0, 0, 0] h)) (.inl ⟨rfl, fun _ => q_extract (i := 0) rfl rfl⟩) ?_
  refine Wr.pure (v := iv 0) 8 rfl (by kernel_rfl) (.inr (fun _ h => st_take [0, 0, 0] h)) (.inl ⟨rfl, fun _ => q_extract (i := 1) rfl rfl⟩) ?_
  refine Wr.pure (v := iv 5) 9 rfl (by kernel_rfl) (.inr (fun _ h => st_take [0, 0, 0] h)) (.inl ⟨rfl, fun _ => q_assign rfl⟩) ?_
  refine Wr.pure (v := iv 0) 10 rfl (by kernel_rfl) (.inr (fun _ h => st_take [0, 0, 0] h)) (.inl ⟨rfl, fun _ => q_assign rfl⟩) ?_
  refine Wr.done (by kernel_rfl) ?_
  refine Wx.go ?_
  refine Wc.seq ?_
  refine Wc.region ?_
  refine Wl.q (v := pv q0) (q_move rfl) ?_
  refine Wl.q (v := iv 0) (q_move rfl) ?_
  refine Wl.q (v := pv q0) (q_nil_ptr rfl) ?_
  refine Wl.q (v := Value.pointer (some ⟨q0, 1, none⟩)) (q_field (m := 1) fo_52_1 rfl rfl) ?_
  refine Wl.e (e_store (i := 2) (v := iv 0) sz_34 rfl rfl (fun _ _ => rfl) rfl (by simp)) (fun _ _ => ?_)
  refine Wl.imp (L' := (storeW q1 tl4_5) :: (pt b1 29 [Value.int .u8 2, iv 0, iv 0, iv 0]) :: (pt q0 52 [pv q1, iv 0]) :: F) (fun _ h => h) ?_
  refine Wl.done ?_
  refine Wx.go ?_
  refine Wc.seq ?_
  refine Wc.region ?_
  refine Wl.q (v := iv 5) (q_move rfl) ?_
  refine Wl.q (v := iv 5) (q_assign rfl) ?_
  refine Wl.done ?_
  refine Wx.go ?_
  refine Wc.ret ?_
  refine Wx.fin1 rfl (.inl rfl) (fun w hs => ?_)
  have hs : st W0 w ((pt q0 52 [pv q1, iv 0]) :: (storeW q1 tl4_5) :: F) := (st_pull [1, 0] (st_drop (st_pull [1] hs)))
  exact ⟨(), trivial, rfl, hs⟩

set_option maxRecDepth 8000 in
set_option maxHeartbeats 4000000 in
theorem au28_data (W0 : World) (q0 : Nat) (q1 : Nat)  :
    Con Tryd.prog W0 33 #[pv q0, iv 0] [pt q0 52 [pv q1, iv 0], storeW q1 tl4_5] (X := Unit) (fun _ => True) (fun _ => iv 5) (fun _ => [pt q0 52 [pv q1, iv 0], storeW q1 tl4_5]) := by
  refine Con.of (args := [pv q0, iv 0]) Tryd.func33 rfl Tryd.ntmps33 rfl (fun F => ?_)
  show Wc _ W0 _ _ _ _ _ ((pt q0 52 [pv q1, iv 0]) :: (storeW q1 tl4_5) :: F)
  refine Wc.seq ?_
  refine Wc.region ?_
  refine Wl.q (v := iv 0) (q_assign rfl) ?_
  refine Wl.done ?_
  refine Wx.go ?_
  refine Wc.seq ?_
  refine Wc.region ?_
  refine Wl.q (v := pv q0) (q_move rfl) ?_
  refine Wl.q (v := iv 0) (q_move rfl) ?_
  refine Wl.q (v := Value.agg #[Value.int .u8 2, iv 0, iv 0, iv 0]) (q_build (pl := [(0, 1), (1, 1), (2, 1), (3, 1)]) Tryd.underlying29 zo_29 (by kernel_rfl) (by kernel_rfl)) ?_
  refine Wl.e (e_call (F := F) (args := [pv q0, Value.agg #[Value.int .u8 2, iv 0, iv 0, iv 0]]) Tryd.call17 rfl (au29_make W0 q0 q1)) (fun _ _ => ?_)
  refine Wl.imp (L' := (pt q0 52 [pv q1, iv 0]) :: (storeW q1 tl4_5) :: F) (fun _ h => h) ?_
  refine Wl.q (v := iv 5) (q_assign rfl) ?_
  refine Wl.done ?_
  refine Wx.go ?_
  refine Wc.ret ?_
  refine Wx.fin1 rfl (.inl rfl) (fun w hs => ?_)
  have hs : st W0 w ((pt q0 52 [pv q1, iv 0]) :: (storeW q1 tl4_5) :: F) := hs
  exact ⟨(), trivial, rfl, hs⟩

def tl5_6 : List TermR := [⟨1, 1, 0, 0⟩, ⟨1, 2, 0, 0⟩, ⟨5, 0, 1, 0⟩, ⟨2, 4, 0, 0⟩, ⟨2, 0, 0, 0⟩, ⟨2, 5, 0, 0⟩]

set_option maxRecDepth 8000 in
set_option maxHeartbeats 4000000 in
theorem au31_make (W0 : World) (q0 : Nat) (q1 : Nat)  :
    Con Tryd.prog W0 17 #[pv q0, Value.agg #[Value.int .u8 2, iv 5, iv 0, iv 0]] [pt q0 52 [pv q1, iv 0], storeW q1 tl4_5] (X := Unit) (fun _ => True) (fun _ => iv 6) (fun _ => [pt q0 52 [pv q1, iv 0], storeW q1 tl5_6]) := by
  refine Con.of (args := [pv q0, Value.agg #[Value.int .u8 2, iv 5, iv 0, iv 0]]) Tryd.func17 rfl Tryd.ntmps17 rfl (fun F => ?_)
  show Wc _ W0 _ _ _ _ _ ((pt q0 52 [pv q1, iv 0]) :: (storeW q1 tl4_5) :: F)
  refine Wc.seq ?_
  refine Wc.region ?_
  refine Wl.e (e_box (x := .tmp 1) (vs := [Value.int .u8 2, iv 5, iv 0, iv 0]) rfl) (fun b1 _ => ?_)
  refine Wl.q (v := iv 0) (q_assign rfl) ?_
  refine Wl.done ?_
  refine Wx.go ?_
  refine Wc.seq ?_
  refine Wc.seq ?_
  refine Wc.region ?_
  refine Wl.q (v := pv q0) (q_move rfl) ?_
  refine Wl.q (v := pv q0) (q_nil_ptr rfl) ?_
  refine Wl.q (v := Value.pointer (some ⟨q0, 1, none⟩)) (q_field (m := 1) fo_52_1 rfl rfl) ?_
  refine Wl.q (v := iv 0) (q_load sc_34 rfl (.cel (i := 1) rfl rfl)) ?_
  refine Wl.q (v := Value.bool false) (q_neq (r := true) rfl rfl (decide_eq_true (by decide))) ?_
  refine Wl.done ?_
  refine Wx.go ?_
  refine Wc.no rfl ?_
  refine Wc.skip ?_
  refine Wx.go ?_
  refine Wc.seq ?_
  refine Wc.drawsS [5] ((pt b1 29 [Value.int .u8 2, iv 5, iv 0, iv 0]) :: (pt q0 52 [pv q1, iv 0]) :: (storeW q1 tl4_5) :: []) (by kernel_rfl) ?_
  refine Wr.pure (v := pv q0) 0 rfl (by kernel_rfl) (.inr (fun _ h => st_take [0, 0, 0] h)) (.inl ⟨rfl, fun _ => q_move rfl⟩) ?_
  refine Wr.pure (v := pv q0) 1 rfl (by kernel_rfl) (.inr (fun _ h => st_take [0, 0, 0] h)) (.inl ⟨rfl, fun _ => q_nil_ptr rfl⟩) ?_
  refine Wr.pure (v := pv q0) 2 rfl (by kernel_rfl) (.inr (fun _ h => st_take [0, 0, 0] h)) (.inl ⟨rfl, fun _ => q_field (m := 0) fo_52_0 rfl rfl⟩) ?_
  refine Wr.take (v := pv q1) 3 rfl (by kernel_rfl) (fun _ h => st_take [0, 0, 0] h) (.inl ⟨rfl, q_load sc_23 rfl (.cel (i := 1) rfl rfl)⟩) ?_
  refine Wr.take (v := Value.agg #[Value.int .u8 2, iv 5, iv 0, iv 0]) 4 rfl (by kernel_rfl) (fun _ h => st_take [0, 0, 0] h) (.inl ⟨rfl, q_loadAgg (vs := [Value.int .u8 2, iv 5, iv 0, iv 0]) ag_29 rfl (Has.of_pt (i := 0) rfl rfl)⟩) ?_
  refine Wr.imp (L' := (storeW q1 tl4_5) :: (pt b1 29 [Value.int .u8 2, iv 5, iv 0, iv 0]) :: (pt q0 52 [pv q1, iv 0]) :: F) (fun _ h => st_pull [2] h) ?_
  refine Wr.e 5 (by kernel_rfl) rfl (e_call (F := (pt b1 29 [Value.int .u8 2, iv 5, iv 0, iv 0]) :: (pt q0 52 [pv q1, iv 0]) :: F) (args := [pv q1, Value.agg #[Value.int .u8 2, iv 5, iv 0, iv 0]]) Tryd.call12 rfl (make_w W0 q1 tl4_5 tl5_6 ⟨2, 5, 0, 0⟩ 6 6 0 (by unfold okT; decide) (by decide +kernel) rfl)) (.inl (by kernel_rfl)) (fun _ _ => ?_)
  refine Wr.imp (L' := (storeW q1 tl5_6) :: (pt b1 29 [Value.int .u8 2, iv 5, iv 0, iv 0]) :: (pt q0 52 [pv q1, iv 0]) :: F) (fun _ h => h) ?_
  refine Wr.rebaseS [] ((storeW q1 tl5_6) :: (pt b1 29 [Value.int .u8 2, iv 5, iv 0, iv 0]) :: (pt q0 52 [pv q1, iv 0]) :: []) (by kernel_rfl) ?_
  refine Wr.pure (v := Value.tuple #[iv 6, iv 0]) 6 rfl (by kernel_rfl) (.inr (fun _ h => st_take [0, 0, 0] h)) (.inl ⟨rfl, fun _ => q_move rfl⟩) ?_
  refine Wr.pure (v := iv 6) 7 rfl (by kernel_rfl) (.inr (fun _ h => st_take [0, 0, 0] h)) (.inl ⟨rfl, fun _ => q_extract (i := 0) rfl rfl⟩) ?_
  refine Wr.pure (v := iv 0) 8 rfl (by kernel_rfl) (.inr (fun _ h => st_take [0, 0, 0] h)) (.inl ⟨rfl, fun _ => q_extract (i := 1) rfl rfl⟩) ?_
  refine Wr.pure (v := iv 6) 9 rfl (by kernel_rfl) (.inr (fun _ h => st_take [0, 0, 0] h)) (.inl ⟨rfl, fun _ => q_assign rfl⟩) ?_
  refine Wr.pure (v := iv 0) 10 rfl (by kernel_rfl) (.inr (fun _ h => st_take [0, 0, 0] h)) (.inl ⟨rfl, fun _ => q_assign rfl⟩) ?_
  refine Wr.done (by kernel_rfl) ?_
  refine Wx.go ?_
  refine Wc.seq ?_
  refine Wc.region ?_
  refine Wl.q (v := pv q0) (q_move rfl) ?_
  refine Wl.q (v := iv 0) (q_move rfl) ?_
  refine Wl.q (v := pv q0) (q_nil_ptr rfl) ?_
  refine Wl.q (v := Value.pointer (some ⟨q0, 1, none⟩)) (q_field (m := 1) fo_52_1 rfl rfl) ?_
  refine Wl.e (e_store (i := 2) (v := iv 0) sz_34 rfl rfl (fun _ _ => rfl) rfl (by simp)) (fun _ _ => ?_)
  refine Wl.imp (L' := (storeW q1 tl5_6) :: (pt b1 29 [Value.int .u8 2, iv 5, iv 0, iv 0]) :: (pt q0 52 [pv q1, iv 0]) :: F) (fun _ h => h) ?_
  refine Wl.done ?_
  refine Wx.go ?_
  refine Wc.seq ?_
  refine Wc.region ?_
  refine Wl.q (v := iv 6) (q_move rfl) ?_
  refine Wl.q (v := iv 6) (q_assign rfl) ?_
  refine Wl.done ?_
  refine Wx.go ?_
  refine Wc.ret ?_
  refine Wx.fin1 rfl (.inl rfl) (fun w hs => ?_)
  have hs : st W0 w ((pt q0 52 [pv q1, iv 0]) :: (storeW q1 tl5_6) :: F) := (st_pull [1, 0] (st_drop (st_pull [1] hs)))
  exact ⟨(), trivial, rfl, hs⟩

set_option maxRecDepth 8000 in
set_option maxHeartbeats 4000000 in
theorem au30_data (W0 : World) (q0 : Nat) (q1 : Nat)  :
    Con Tryd.prog W0 33 #[pv q0, iv 5] [pt q0 52 [pv q1, iv 0], storeW q1 tl4_5] (X := Unit) (fun _ => True) (fun _ => iv 6) (fun _ => [pt q0 52 [pv q1, iv 0], storeW q1 tl5_6]) := by
  refine Con.of (args := [pv q0, iv 5]) Tryd.func33 rfl Tryd.ntmps33 rfl (fun F => ?_)
  show Wc _ W0 _ _ _ _ _ ((pt q0 52 [pv q1, iv 0]) :: (storeW q1 tl4_5) :: F)
  refine Wc.seq ?_
  refine Wc.region ?_
  refine Wl.q (v := iv 0) (q_assign rfl) ?_
  refine Wl.done ?_
  refine Wx.go ?_
  refine Wc.seq ?_
  refine Wc.region ?_
  refine Wl.q (v := pv q0) (q_move rfl) ?_
  refine Wl.q (v := iv 5) (q_move rfl) ?_
  refine Wl.q (v := Value.agg #[Value.int .u8 2, iv 5, iv 0, iv 0]) (q_build (pl := [(0, 1), (1, 1), (2, 1), (3, 1)]) Tryd.underlying29 zo_29 (by kernel_rfl) (by kernel_rfl)) ?_
  refine Wl.e (e_call (F := F) (args := [pv q0, Value.agg #[Value.int .u8 2, iv 5, iv 0, iv 0]]) Tryd.call17 rfl (au31_make W0 q0 q1)) (fun _ _ => ?_)
  refine Wl.imp (L' := (pt q0 52 [pv q1, iv 0]) :: (storeW q1 tl5_6) :: F) (fun _ h => h) ?_
  refine Wl.q (v := iv 6) (q_assign rfl) ?_
  refine Wl.done ?_
  refine Wx.go ?_
  refine Wc.ret ?_
  refine Wx.fin1 rfl (.inl rfl) (fun w hs => ?_)
  have hs : st W0 w ((pt q0 52 [pv q1, iv 0]) :: (storeW q1 tl5_6) :: F) := hs
  exact ⟨(), trivial, rfl, hs⟩

set_option maxRecDepth 8000 in
set_option maxHeartbeats 4000000 in
theorem au33_make (W0 : World) (q0 : Nat) (q1 : Nat)  :
    Con Tryd.prog W0 17 #[pv q0, Value.agg #[Value.int .u8 2, iv 0, iv 0, iv 0]] [pt q0 52 [pv q1, iv 0], storeW q1 tl5_6] (X := Unit) (fun _ => True) (fun _ => iv 5) (fun _ => [pt q0 52 [pv q1, iv 0], storeW q1 tl5_6]) := by
  refine Con.of (args := [pv q0, Value.agg #[Value.int .u8 2, iv 0, iv 0, iv 0]]) Tryd.func17 rfl Tryd.ntmps17 rfl (fun F => ?_)
  show Wc _ W0 _ _ _ _ _ ((pt q0 52 [pv q1, iv 0]) :: (storeW q1 tl5_6) :: F)
  refine Wc.seq ?_
  refine Wc.region ?_
  refine Wl.e (e_box (x := .tmp 1) (vs := [Value.int .u8 2, iv 0, iv 0, iv 0]) rfl) (fun b1 _ => ?_)
  refine Wl.q (v := iv 0) (q_assign rfl) ?_
  refine Wl.done ?_
  refine Wx.go ?_
  refine Wc.seq ?_
  refine Wc.seq ?_
  refine Wc.region ?_
  refine Wl.q (v := pv q0) (q_move rfl) ?_
  refine Wl.q (v := pv q0) (q_nil_ptr rfl) ?_
  refine Wl.q (v := Value.pointer (some ⟨q0, 1, none⟩)) (q_field (m := 1) fo_52_1 rfl rfl) ?_
  refine Wl.q (v := iv 0) (q_load sc_34 rfl (.cel (i := 1) rfl rfl)) ?_
  refine Wl.q (v := Value.bool false) (q_neq (r := true) rfl rfl (decide_eq_true (by decide))) ?_
  refine Wl.done ?_
  refine Wx.go ?_
  refine Wc.no rfl ?_
  refine Wc.skip ?_
  refine Wx.go ?_
  refine Wc.seq ?_
  refine Wc.drawsS [5] ((pt b1 29 [Value.int .u8 2, iv 0, iv 0, iv 0]) :: (pt q0 52 [pv q1, iv 0]) :: (storeW q1 tl5_6) :: []) (by kernel_rfl) ?_
  refine Wr.pure (v := pv q0) 0 rfl (by kernel_rfl) (.inr (fun _ h => st_take [0, 0, 0] h)) (.inl ⟨rfl, fun _ => q_move rfl⟩) ?_
  refine Wr.pure (v := pv q0) 1 rfl (by kernel_rfl) (.inr (fun _ h => st_take [0, 0, 0] h)) (.inl ⟨rfl, fun _ => q_nil_ptr rfl⟩) ?_
  refine Wr.pure (v := pv q0) 2 rfl (by kernel_rfl) (.inr (fun _ h => st_take [0, 0, 0] h)) (.inl ⟨rfl, fun _ => q_field (m := 0) fo_52_0 rfl rfl⟩) ?_
  refine Wr.take (v := pv q1) 3 rfl (by kernel_rfl) (fun _ h => st_take [0, 0, 0] h) (.inl ⟨rfl, q_load sc_23 rfl (.cel (i := 1) rfl rfl)⟩) ?_
  refine Wr.take (v := Value.agg #[Value.int .u8 2, iv 0, iv 0, iv 0]) 4 rfl (by kernel_rfl) (fun _ h => st_take [0, 0, 0] h) (.inl ⟨rfl, q_loadAgg (vs := [Value.int .u8 2, iv 0, iv 0, iv 0]) ag_29 rfl (Has.of_pt (i := 0) rfl rfl)⟩) ?_
  refine Wr.imp (L' := (storeW q1 tl5_6) :: (pt b1 29 [Value.int .u8 2, iv 0, iv 0, iv 0]) :: (pt q0 52 [pv q1, iv 0]) :: F) (fun _ h => st_pull [2] h) ?_
  refine Wr.e 5 (by kernel_rfl) rfl (e_call (F := (pt b1 29 [Value.int .u8 2, iv 0, iv 0, iv 0]) :: (pt q0 52 [pv q1, iv 0]) :: F) (args := [pv q1, Value.agg #[Value.int .u8 2, iv 0, iv 0, iv 0]]) Tryd.call12 rfl (make_w W0 q1 tl5_6 tl5_6 ⟨2, 0, 0, 0⟩ 5 5 0 (by unfold okT; decide) (by decide +kernel) rfl)) (.inl (by kernel_rfl)) (fun _ _ => ?_)
  refine Wr.imp (L' := (storeW q1 tl5_6) :: (pt b1 29 [Value.int .u8 2, iv 0, iv 0, iv 0]) :: (pt q0 52 [pv q1, iv 0]) :: F) (fun _ h => h) ?_
  refine Wr.rebaseS [] ((storeW q1 tl5_6) :: (pt b1 29 [Value.int .u8 2, iv 0, iv 0, iv 0]) :: (pt q0 52 [pv q1, iv 0]) :: []) (by kernel_rfl) ?_
  refine Wr.pure (v := Value.tuple #[iv 5, iv 0]) 6 rfl (by kernel_rfl) (.inr (fun _ h => st_take [0, 0, 0] h)) (.inl ⟨rfl, fun _ => q_move rfl⟩) ?_
  refine Wr.pure (v := iv 5) 7 rfl (by kernel_rfl) (.inr (fun _ h => st_take [0, 0, 0] h)) (.inl ⟨rfl, fun _ => q_extract (i := 0) rfl rfl⟩) ?_
  refine Wr.pure (v := iv 0) 8 rfl (by kernel_rfl) (.inr (fun _ h => st_take [0, 0, 0] h)) (.inl ⟨rfl, fun _ => q_extract (i := 1) rfl rfl⟩) ?_
  refine Wr.pure (v := iv 5) 9 rfl (by kernel_rfl) (.inr (fun _ h => st_take [0, 0, 0] h)) (.inl ⟨rfl, fun _ => q_assign rfl⟩) ?_
  refine Wr.pure (v := iv 0) 10 rfl (by kernel_rfl) (.inr (fun _ h => st_take [0, 0, 0] h)) (.inl ⟨rfl, fun _ => q_assign rfl⟩) ?_
  refine Wr.done (by kernel_rfl) ?_
  refine Wx.go ?_
  refine Wc.seq ?_
  refine Wc.region ?_
  refine Wl.q (v := pv q0) (q_move rfl) ?_
  refine Wl.q (v := iv 0) (q_move rfl) ?_
  refine Wl.q (v := pv q0) (q_nil_ptr rfl) ?_
  refine Wl.q (v := Value.pointer (some ⟨q0, 1, none⟩)) (q_field (m := 1) fo_52_1 rfl rfl) ?_
  refine Wl.e (e_store (i := 2) (v := iv 0) sz_34 rfl rfl (fun _ _ => rfl) rfl (by simp)) (fun _ _ => ?_)
  refine Wl.imp (L' := (storeW q1 tl5_6) :: (pt b1 29 [Value.int .u8 2, iv 0, iv 0, iv 0]) :: (pt q0 52 [pv q1, iv 0]) :: F) (fun _ h => h) ?_
  refine Wl.done ?_
  refine Wx.go ?_
  refine Wc.seq ?_
  refine Wc.region ?_
  refine Wl.q (v := iv 5) (q_move rfl) ?_
  refine Wl.q (v := iv 5) (q_assign rfl) ?_
  refine Wl.done ?_
  refine Wx.go ?_
  refine Wc.ret ?_
  refine Wx.fin1 rfl (.inl rfl) (fun w hs => ?_)
  have hs : st W0 w ((pt q0 52 [pv q1, iv 0]) :: (storeW q1 tl5_6) :: F) := (st_pull [1, 0] (st_drop (st_pull [1] hs)))
  exact ⟨(), trivial, rfl, hs⟩

set_option maxRecDepth 8000 in
set_option maxHeartbeats 4000000 in
theorem au32_data (W0 : World) (q0 : Nat) (q1 : Nat)  :
    Con Tryd.prog W0 33 #[pv q0, iv 0] [pt q0 52 [pv q1, iv 0], storeW q1 tl5_6] (X := Unit) (fun _ => True) (fun _ => iv 5) (fun _ => [pt q0 52 [pv q1, iv 0], storeW q1 tl5_6]) := by
  refine Con.of (args := [pv q0, iv 0]) Tryd.func33 rfl Tryd.ntmps33 rfl (fun F => ?_)
  show Wc _ W0 _ _ _ _ _ ((pt q0 52 [pv q1, iv 0]) :: (storeW q1 tl5_6) :: F)
  refine Wc.seq ?_
  refine Wc.region ?_
  refine Wl.q (v := iv 0) (q_assign rfl) ?_
  refine Wl.done ?_
  refine Wx.go ?_
  refine Wc.seq ?_
  refine Wc.region ?_
  refine Wl.q (v := pv q0) (q_move rfl) ?_
  refine Wl.q (v := iv 0) (q_move rfl) ?_
  refine Wl.q (v := Value.agg #[Value.int .u8 2, iv 0, iv 0, iv 0]) (q_build (pl := [(0, 1), (1, 1), (2, 1), (3, 1)]) Tryd.underlying29 zo_29 (by kernel_rfl) (by kernel_rfl)) ?_
  refine Wl.e (e_call (F := F) (args := [pv q0, Value.agg #[Value.int .u8 2, iv 0, iv 0, iv 0]]) Tryd.call17 rfl (au33_make W0 q0 q1)) (fun _ _ => ?_)
  refine Wl.imp (L' := (pt q0 52 [pv q1, iv 0]) :: (storeW q1 tl5_6) :: F) (fun _ h => h) ?_
  refine Wl.q (v := iv 5) (q_assign rfl) ?_
  refine Wl.done ?_
  refine Wx.go ?_
  refine Wc.ret ?_
  refine Wx.fin1 rfl (.inl rfl) (fun w hs => ?_)
  have hs : st W0 w ((pt q0 52 [pv q1, iv 0]) :: (storeW q1 tl5_6) :: F) := hs
  exact ⟨(), trivial, rfl, hs⟩

def tl6_7 : List TermR := [⟨1, 1, 0, 0⟩, ⟨1, 2, 0, 0⟩, ⟨5, 0, 1, 0⟩, ⟨2, 4, 0, 0⟩, ⟨2, 0, 0, 0⟩, ⟨2, 5, 0, 0⟩, ⟨3, 0, 6, 5⟩]

def tl7_8 : List TermR := [⟨1, 1, 0, 0⟩, ⟨1, 2, 0, 0⟩, ⟨5, 0, 1, 0⟩, ⟨2, 4, 0, 0⟩, ⟨2, 0, 0, 0⟩, ⟨2, 5, 0, 0⟩, ⟨3, 0, 6, 5⟩, ⟨3, 0, 3, 7⟩]

def tl8_9 : List TermR := [⟨1, 1, 0, 0⟩, ⟨1, 2, 0, 0⟩, ⟨5, 0, 1, 0⟩, ⟨2, 4, 0, 0⟩, ⟨2, 0, 0, 0⟩, ⟨2, 5, 0, 0⟩, ⟨3, 0, 6, 5⟩, ⟨3, 0, 3, 7⟩, ⟨3, 0, 5, 8⟩]

def tl9_10 : List TermR := [⟨1, 1, 0, 0⟩, ⟨1, 2, 0, 0⟩, ⟨5, 0, 1, 0⟩, ⟨2, 4, 0, 0⟩, ⟨2, 0, 0, 0⟩, ⟨2, 5, 0, 0⟩, ⟨3, 0, 6, 5⟩, ⟨3, 0, 3, 7⟩, ⟨3, 0, 5, 8⟩, ⟨3, 0, 5, 9⟩]

def tl10_11 : List TermR := [⟨1, 1, 0, 0⟩, ⟨1, 2, 0, 0⟩, ⟨5, 0, 1, 0⟩, ⟨2, 4, 0, 0⟩, ⟨2, 0, 0, 0⟩, ⟨2, 5, 0, 0⟩, ⟨3, 0, 6, 5⟩, ⟨3, 0, 3, 7⟩, ⟨3, 0, 5, 8⟩, ⟨3, 0, 5, 9⟩, ⟨3, 0, 4, 10⟩]

set_option maxRecDepth 8000 in
set_option maxHeartbeats 4000000 in
theorem au34_List (W0 : World) (q0 : Nat) (u1 : Value)  :
    Con Tryd.prog W0 29 #[pv q0, u1] [storeW q0 tl5_6, sl 3 1 u1 6 [iv 4, iv 5, iv 5, iv 3, iv 6, iv 5]] (X := Unit) (fun _ => True) (fun _ => Value.tuple #[iv 11, iv 0]) (fun _ => [storeW q0 tl10_11, sl 3 1 u1 6 [iv 4, iv 5, iv 5, iv 3, iv 6, iv 5]]) := by
  refine Con.of (args := [pv q0, u1]) Tryd.func29 rfl Tryd.ntmps29 rfl (fun F => ?_)
  show Wc _ W0 _ _ _ _ _ ((storeW q0 tl5_6) :: (sl 3 1 u1 6 [iv 4, iv 5, iv 5, iv 3, iv 6, iv 5]) :: F)
  refine Wc.seq ?_
  refine Wc.region ?_
  refine Wl.q (v := iv 0) (q_assign rfl) ?_
  refine Wl.q (v := iv 0) (q_assign rfl) ?_
  refine Wl.done ?_
  refine Wx.go ?_
  refine Wc.seq ?_
  refine Wc.seq ?_
  refine Wc.region ?_
  refine Wl.q (v := pv q0) (q_move rfl) ?_
  refine Wl.e (e_call (F := (sl 3 1 u1 6 [iv 4, iv 5, iv 5, iv 3, iv 6, iv 5]) :: F) (args := [pv q0]) Tryd.call26 rfl (made_w W0 q0 tl5_6)) (fun _ _ => ?_)
  refine Wl.imp (L' := (storeW q0 tl5_6) :: (sl 3 1 u1 6 [iv 4, iv 5, iv 5, iv 3, iv 6, iv 5]) :: F) (fun _ h => h) ?_
  refine Wl.q (v := Value.bool false) (q_not rfl rfl) ?_
  refine Wl.done ?_
  refine Wx.go ?_
  refine Wc.no rfl ?_
  refine Wc.skip ?_
  refine Wx.go ?_
  refine Wc.seq ?_
  refine Wc.seq ?_
  refine Wc.region ?_
  refine Wl.q (v := u1) (q_move rfl) ?_
  refine Wl.q (v := iv 6) (q_len_sl (i := 1) Tryd.underlying31 rfl rfl) ?_
  refine Wl.q (v := iv 0) (q_move rfl) ?_
  refine Wl.done ?_
  refine Wx.go ?_
  refine Wc.block ?_
  refine Wc.rounds 64 ?_
  refine Wn.round ?_
  refine Wc.seq ?_
  refine Wc.region ?_
  refine Wl.q (v := Value.bool true) (q_lss (r := true) rfl rfl (decide_eq_true (by decide))) ?_
  refine Wl.done ?_
  refine Wx.go ?_
  refine Wc.seq ?_
  refine Wc.yes rfl ?_
  refine Wc.skip ?_
  refine Wx.go ?_
  refine Wc.seq ?_
  refine Wc.block ?_
  refine Wc.seq ?_
  refine Wc.region ?_
  refine Wl.sl (i := 1) (m := 6) rfl (by decide) (fun b1 c2 hv3 hc4 => ?_)
  subst hv3
  refine Wl.imp (L' := (storeW q0 tl5_6) :: (slp 3 1 b1 c2 [iv 4, iv 5, iv 5, iv 3, iv 6, iv 5]) :: F) (fun _ h => h) ?_
  refine Wl.q (v := pv b1) (q_idx (m := 0) se_31 rfl rfl (by omega) (by omega) rfl) ?_
  refine Wl.q (v := iv 4) (q_load sc_3 rfl (.row (i := 1) rfl rfl)) ?_
  refine Wl.q (v := iv 4) (q_assign rfl) ?_
  refine Wl.done ?_
  refine Wx.go ?_
  refine Wc.seq ?_
  refine Wc.region ?_
  refine Wl.q (v := pv q0) (q_move rfl) ?_
  refine Wl.q (v := iv 4) (q_move rfl) ?_
  refine Wl.e (e_call (F := (slp 3 1 b1 c2 [iv 4, iv 5, iv 5, iv 3, iv 6, iv 5]) :: F) (args := [pv q0, iv 4]) Tryd.call36 rfl (there_w W0 q0 tl5_6 4 true (by decide))) (fun _ _ => ?_)
  refine Wl.imp (L' := (storeW q0 tl5_6) :: (slp 3 1 b1 c2 [iv 4, iv 5, iv 5, iv 3, iv 6, iv 5]) :: F) (fun _ h => h) ?_
  refine Wl.q (v := Value.bool false) (q_not rfl rfl) ?_
  refine Wl.done ?_
  refine Wx.go ?_
  refine Wc.no rfl ?_
  refine Wc.skip ?_
  refine Wx.blockEnd ?_
  refine Wx.go ?_
  refine Wc.region ?_
  refine Wl.q (v := iv 1) (q_add (c := 1) rfl rfl (by decide)) ?_
  refine Wl.q (v := iv 1) (q_move rfl) ?_
  refine Wl.done ?_
  refine Wx.again ?_
  refine Wn.round ?_
  refine Wc.seq ?_
  refine Wc.region ?_
  refine Wl.q (v := Value.bool true) (q_lss (r := true) rfl rfl (decide_eq_true (by decide))) ?_
  refine Wl.done ?_
  refine Wx.go ?_
  refine Wc.seq ?_
  refine Wc.yes rfl ?_
  refine Wc.skip ?_
  refine Wx.go ?_
  refine Wc.seq ?_
  refine Wc.block ?_
  refine Wc.seq ?_
  refine Wc.region ?_
  refine Wl.q (v := Value.pointer (some ⟨b1, 1, none⟩)) (q_idx (m := 1) se_31 rfl rfl (by omega) (by omega) rfl) ?_
  refine Wl.q (v := iv 5) (q_load sc_3 rfl (.row (i := 1) rfl rfl)) ?_
  refine Wl.q (v := iv 5) (q_assign rfl) ?_
  refine Wl.done ?_
  refine Wx.go ?_
  refine Wc.seq ?_
  refine Wc.region ?_
  refine Wl.q (v := pv q0) (q_move rfl) ?_
  refine Wl.q (v := iv 5) (q_move rfl) ?_
  refine Wl.e (e_call (F := (slp 3 1 b1 c2 [iv 4, iv 5, iv 5, iv 3, iv 6, iv 5]) :: F) (args := [pv q0, iv 5]) Tryd.call36 rfl (there_w W0 q0 tl5_6 5 true (by decide))) (fun _ _ => ?_)
  refine Wl.imp (L' := (storeW q0 tl5_6) :: (slp 3 1 b1 c2 [iv 4, iv 5, iv 5, iv 3, iv 6, iv 5]) :: F) (fun _ h => h) ?_
  refine Wl.q (v := Value.bool false) (q_not rfl rfl) ?_
  refine Wl.done ?_
  refine Wx.go ?_
  refine Wc.no rfl ?_
  refine Wc.skip ?_
  refine Wx.blockEnd ?_
  refine Wx.go ?_
  refine Wc.region ?_
  refine Wl.q (v := iv 2) (q_add (c := 2) rfl rfl (by decide)) ?_
  refine Wl.q (v := iv 2) (q_move rfl) ?_
  refine Wl.done ?_
  refine Wx.again ?_
  refine Wn.round ?_
  refine Wc.seq ?_
  refine Wc.region ?_
  refine Wl.q (v := Value.bool true) (q_lss (r := true) rfl rfl (decide_eq_true (by decide))) ?_
  refine Wl.done ?_
  refine Wx.go ?_
  refine Wc.seq ?_
  refine Wc.yes rfl ?_
  refine Wc.skip ?_
  refine Wx.go ?_
  refine Wc.seq ?_
  refine Wc.block ?_
  refine Wc.seq ?_
  refine Wc.region ?_
  refine Wl.q (v := Value.pointer (some ⟨b1, 2, none⟩)) (q_idx (m := 2) se_31 rfl rfl (by omega) (by omega) rfl) ?_
  refine Wl.q (v := iv 5) (q_load sc_3 rfl (.row (i := 1) rfl rfl)) ?_
  refine Wl.q (v := iv 5) (q_assign rfl) ?_
  refine Wl.done ?_
  refine Wx.go ?_
  refine Wc.seq ?_
  refine Wc.region ?_
  refine Wl.q (v := pv q0) (q_move rfl) ?_
  refine Wl.q (v := iv 5) (q_move rfl) ?_
  refine Wl.e (e_call (F := (slp 3 1 b1 c2 [iv 4, iv 5, iv 5, iv 3, iv 6, iv 5]) :: F) (args := [pv q0, iv 5]) Tryd.call36 rfl (there_w W0 q0 tl5_6 5 true (by decide))) (fun _ _ => ?_)
  refine Wl.imp (L' := (storeW q0 tl5_6) :: (slp 3 1 b1 c2 [iv 4, iv 5, iv 5, iv 3, iv 6, iv 5]) :: F) (fun _ h => h) ?_
  refine Wl.q (v := Value.bool false) (q_not rfl rfl) ?_
  refine Wl.done ?_
  refine Wx.go ?_
  refine Wc.no rfl ?_
  refine Wc.skip ?_
  refine Wx.blockEnd ?_
  refine Wx.go ?_
  refine Wc.region ?_
  refine Wl.q (v := iv 3) (q_add (c := 3) rfl rfl (by decide)) ?_
  refine Wl.q (v := iv 3) (q_move rfl) ?_
  refine Wl.done ?_
  refine Wx.again ?_
  refine Wn.round ?_
  refine Wc.seq ?_
  refine Wc.region ?_
  refine Wl.q (v := Value.bool true) (q_lss (r := true) rfl rfl (decide_eq_true (by decide))) ?_
  refine Wl.done ?_
  refine Wx.go ?_
  refine Wc.seq ?_
  refine Wc.yes rfl ?_
  refine Wc.skip ?_
  refine Wx.go ?_
  refine Wc.seq ?_
  refine Wc.block ?_
  refine Wc.seq ?_
  refine Wc.region ?_
  refine Wl.q (v := Value.pointer (some ⟨b1, 3, none⟩)) (q_idx (m := 3) se_31 rfl rfl (by omega) (by omega) rfl) ?_
  refine Wl.q (v := iv 3) (q_load sc_3 rfl (.row (i := 1) rfl rfl)) ?_
  refine Wl.q (v := iv 3) (q_assign rfl) ?_
  refine Wl.done ?_
  refine Wx.go ?_
  refine Wc.seq ?_
  refine Wc.region ?_
  refine Wl.q (v := pv q0) (q_move rfl) ?_
  refine Wl.q (v := iv 3) (q_move rfl) ?_
  refine Wl.e (e_call (F := (slp 3 1 b1 c2 [iv 4, iv 5, iv 5, iv 3, iv 6, iv 5]) :: F) (args := [pv q0, iv 3]) Tryd.call36 rfl (there_w W0 q0 tl5_6 3 true (by decide))) (fun _ _ => ?_)
  refine Wl.imp (L' := (storeW q0 tl5_6) :: (slp 3 1 b1 c2 [iv 4, iv 5, iv 5, iv 3, iv 6, iv 5]) :: F) (fun _ h => h) ?_
  refine Wl.q (v := Value.bool false) (q_not rfl rfl) ?_
  refine Wl.done ?_
  refine Wx.go ?_
  refine Wc.no rfl ?_
  refine Wc.skip ?_
  refine Wx.blockEnd ?_
  refine Wx.go ?_
  refine Wc.region ?_
  refine Wl.q (v := iv 4) (q_add (c := 4) rfl rfl (by decide)) ?_
  refine Wl.q (v := iv 4) (q_move rfl) ?_
  refine Wl.done ?_
  refine Wx.again ?_
  refine Wn.round ?_
  refine Wc.seq ?_
  refine Wc.region ?_
  refine Wl.q (v := Value.bool true) (q_lss (r := true) rfl rfl (decide_eq_true (by decide))) ?_
  refine Wl.done ?_
  refine Wx.go ?_
  refine Wc.seq ?_
  refine Wc.yes rfl ?_
  refine Wc.skip ?_
  refine Wx.go ?_
  refine Wc.seq ?_
  refine Wc.block ?_
  refine Wc.seq ?_
  refine Wc.region ?_
  refine Wl.q (v := Value.pointer (some ⟨b1, 4, none⟩)) (q_idx (m := 4) se_31 rfl rfl (by omega) (by omega) rfl) ?_
  refine Wl.q (v := iv 6) (q_load sc_3 rfl (.row (i := 1) rfl rfl)) ?_
  refine Wl.q (v := iv 6) (q_assign rfl) ?_
  refine Wl.done ?_
  refine Wx.go ?_
  refine Wc.seq ?_
  refine Wc.region ?_
  refine Wl.q (v := pv q0) (q_move rfl) ?_
  refine Wl.q (v := iv 6) (q_move rfl) ?_
  refine Wl.e (e_call (F := (slp 3 1 b1 c2 [iv 4, iv 5, iv 5, iv 3, iv 6, iv 5]) :: F) (args := [pv q0, iv 6]) Tryd.call36 rfl (there_w W0 q0 tl5_6 6 true (by decide))) (fun _ _ => ?_)
  refine Wl.imp (L' := (storeW q0 tl5_6) :: (slp 3 1 b1 c2 [iv 4, iv 5, iv 5, iv 3, iv 6, iv 5]) :: F) (fun _ h => h) ?_
  refine Wl.q (v := Value.bool false) (q_not rfl rfl) ?_
  refine Wl.done ?_
  refine Wx.go ?_
  refine Wc.no rfl ?_
  refine Wc.skip ?_
  refine Wx.blockEnd ?_
  refine Wx.go ?_
  refine Wc.region ?_
  refine Wl.q (v := iv 5) (q_add (c := 5) rfl rfl (by decide)) ?_
  refine Wl.q (v := iv 5) (q_move rfl) ?_
  refine Wl.done ?_
  refine Wx.again ?_
  refine Wn.round ?_
  refine Wc.seq ?_
  refine Wc.region ?_
  refine Wl.q (v := Value.bool true) (q_lss (r := true) rfl rfl (decide_eq_true (by decide))) ?_
  refine Wl.done ?_
  refine Wx.go ?_
  refine Wc.seq ?_
  refine Wc.yes rfl ?_
  refine Wc.skip ?_
  refine Wx.go ?_
  refine Wc.seq ?_
  refine Wc.block ?_
  refine Wc.seq ?_
  refine Wc.region ?_
  refine Wl.q (v := Value.pointer (some ⟨b1, 5, none⟩)) (q_idx (m := 5) se_31 rfl rfl (by omega) (by omega) rfl) ?_
  refine Wl.q (v := iv 5) (q_load sc_3 rfl (.row (i := 1) rfl rfl)) ?_
  refine Wl.q (v := iv 5) (q_assign rfl) ?_
  refine Wl.done ?_
  refine Wx.go ?_
  refine Wc.seq ?_
  refine Wc.region ?_
  refine Wl.q (v := pv q0) (q_move rfl) ?_
  refine Wl.q (v := iv 5) (q_move rfl) ?_
  refine Wl.e (e_call (F := (slp 3 1 b1 c2 [iv 4, iv 5, iv 5, iv 3, iv 6, iv 5]) :: F) (args := [pv q0, iv 5]) Tryd.call36 rfl (there_w W0 q0 tl5_6 5 true (by decide))) (fun _ _ => ?_)
  refine Wl.imp (L' := (storeW q0 tl5_6) :: (slp 3 1 b1 c2 [iv 4, iv 5, iv 5, iv 3, iv 6, iv 5]) :: F) (fun _ h => h) ?_
  refine Wl.q (v := Value.bool false) (q_not rfl rfl) ?_
  refine Wl.done ?_
  refine Wx.go ?_
  refine Wc.no rfl ?_
  refine Wc.skip ?_
  refine Wx.blockEnd ?_
  refine Wx.go ?_
  refine Wc.region ?_
  refine Wl.q (v := iv 6) (q_add (c := 6) rfl rfl (by decide)) ?_
  refine Wl.q (v := iv 6) (q_move rfl) ?_
  refine Wl.done ?_
  refine Wx.again ?_
  refine Wn.round ?_
  refine Wc.seq ?_
  refine Wc.region ?_
  refine Wl.q (v := Value.bool false) (q_lss (r := false) rfl rfl (decide_eq_false (by decide))) ?_
  refine Wl.done ?_
  refine Wx.go ?_
  refine Wc.seq ?_
  refine Wc.no rfl ?_
  refine Wc.exit ?_
  refine Wx.thenExit ?_
  refine Wx.thenExit ?_
  refine Wx.out ?_
  refine Wx.go ?_
  refine Wc.seq ?_
  refine Wc.seq ?_
  refine Wc.region ?_
  refine Wl.q (v := Value.slice (some ⟨b1, 0, none⟩) 6 c2) (q_move rfl) ?_
  refine Wl.q (v := iv 6) (q_len_slice Tryd.underlying31 rfl) ?_
  refine Wl.q (v := Value.bool false) (q_eql (r := false) rfl rfl (decide_eq_false (by decide))) ?_
  refine Wl.done ?_
  refine Wx.go ?_
  refine Wc.no rfl ?_
  refine Wc.skip ?_
  refine Wx.go ?_
  refine Wc.seq ?_
  refine Wc.region ?_
  refine Wl.q (v := Value.slice (some ⟨b1, 0, none⟩) 6 c2) (q_move rfl) ?_
  refine Wl.q (v := Value.slice (some ⟨b1, 0, none⟩) 6 c2) (q_move rfl) ?_
  refine Wl.q (v := iv 6) (q_len_slice Tryd.underlying31 rfl) ?_
  refine Wl.q (v := iv 5) (q_sub (c := 5) rfl rfl (by decide)) ?_
  refine Wl.q (v := Value.pointer (some ⟨b1, 5, none⟩)) (q_idx (m := 5) se_31 rfl rfl (by omega) (by omega) rfl) ?_
  refine Wl.q (v := iv 5) (q_load sc_3 rfl (.row (i := 1) rfl rfl)) ?_
  refine Wl.q (v := iv 5) (q_assign rfl) ?_
  refine Wl.done ?_
  refine Wx.go ?_
  refine Wc.seq ?_
  refine Wc.seq ?_
  refine Wc.region ?_
  refine Wl.q (v := Value.slice (some ⟨b1, 0, none⟩) 6 c2) (q_move rfl) ?_
  refine Wl.q (v := iv 6) (q_len_slice Tryd.underlying31 rfl) ?_
  refine Wl.q (v := iv 4) (q_sub (c := 4) rfl rfl (by decide)) ?_
  refine Wl.q (v := iv 4) (q_assign rfl) ?_
  refine Wl.done ?_
  refine Wx.go ?_
  refine Wc.block ?_
  refine Wc.rounds 64 ?_
  refine Wn.round ?_
  refine Wc.seq ?_
  refine Wc.seq ?_
  refine Wc.region ?_
  refine Wl.q (v := iv 4) (q_move rfl) ?_
  refine Wl.q (v := Value.bool true) (q_geq (r := true) rfl rfl (decide_eq_true (by decide))) ?_
  refine Wl.done ?_
  refine Wx.go ?_
  refine Wc.yes rfl ?_
  refine Wc.skip ?_
  refine Wx.go ?_
  refine Wc.seq ?_
  refine Wc.block ?_
  refine Wc.seq ?_
  refine Wc.region ?_
  refine Wl.q (v := pv q0) (q_move rfl) ?_
  refine Wl.q (v := Value.slice (some ⟨b1, 0, none⟩) 6 c2) (q_move rfl) ?_
  refine Wl.q (v := iv 4) (q_move rfl) ?_
  refine Wl.q (v := Value.pointer (some ⟨b1, 4, none⟩)) (q_idx (m := 4) se_31 rfl rfl (by omega) (by omega) rfl) ?_
  refine Wl.q (v := iv 6) (q_load sc_3 rfl (.row (i := 1) rfl rfl)) ?_
  refine Wl.q (v := iv 5) (q_move rfl) ?_
  refine Wl.q (v := Value.agg #[Value.int .u8 3, iv 0, iv 6, iv 5]) (q_build (pl := [(0, 1), (1, 1), (2, 1), (3, 1)]) Tryd.underlying29 zo_29 (by kernel_rfl) (by kernel_rfl)) ?_
  refine Wl.e (e_call (F := (slp 3 1 b1 c2 [iv 4, iv 5, iv 5, iv 3, iv 6, iv 5]) :: F) (args := [pv q0, Value.agg #[Value.int .u8 3, iv 0, iv 6, iv 5]]) Tryd.call12 rfl (make_w W0 q0 tl5_6 tl6_7 ⟨3, 0, 6, 5⟩ 7 7 0 (by unfold okT; decide) (by decide +kernel) rfl)) (fun _ _ => ?_)
  refine Wl.imp (L' := (storeW q0 tl6_7) :: (slp 3 1 b1 c2 [iv 4, iv 5, iv 5, iv 3, iv 6, iv 5]) :: F) (fun _ h => h) ?_
  refine Wl.q (v := Value.tuple #[iv 7, iv 0]) (q_move rfl) ?_
  refine Wl.q (v := iv 7) (q_extract (i := 0) rfl rfl) ?_
  refine Wl.q (v := iv 0) (q_extract (i := 1) rfl rfl) ?_
  refine Wl.q (v := iv 7) (q_assign rfl) ?_
  refine Wl.q (v := iv 0) (q_assign rfl) ?_
  refine Wl.done ?_
  refine Wx.go ?_
  refine Wc.seq ?_
  refine Wc.seq ?_
  refine Wc.region ?_
  refine Wl.q (v := iv 0) (q_move rfl) ?_
  refine Wl.q (v := Value.bool false) (q_neq (r := true) rfl rfl (decide_eq_true (by decide))) ?_
  refine Wl.done ?_
  refine Wx.go ?_
  refine Wc.no rfl ?_
  refine Wc.skip ?_
  refine Wx.go ?_
  refine Wc.region ?_
  refine Wl.q (v := iv 7) (q_move rfl) ?_
  refine Wl.q (v := iv 7) (q_assign rfl) ?_
  refine Wl.done ?_
  refine Wx.blockEnd ?_
  refine Wx.go ?_
  refine Wc.region ?_
  refine Wl.q (v := iv 4) (q_move rfl) ?_
  refine Wl.q (v := iv 3) (q_sub (c := 3) rfl rfl (by decide)) ?_
  refine Wl.q (v := iv 3) (q_assign rfl) ?_
  refine Wl.done ?_
  refine Wx.again ?_
  refine Wn.round ?_
  refine Wc.seq ?_
  refine Wc.seq ?_
  refine Wc.region ?_
  refine Wl.q (v := iv 3) (q_move rfl) ?_
  refine Wl.q (v := Value.bool true) (q_geq (r := true) rfl rfl (decide_eq_true (by decide))) ?_
  refine Wl.done ?_
  refine Wx.go ?_
  refine Wc.yes rfl ?_
  refine Wc.skip ?_
  refine Wx.go ?_
  refine Wc.seq ?_
  refine Wc.block ?_
  refine Wc.seq ?_
  refine Wc.region ?_
  refine Wl.q (v := pv q0) (q_move rfl) ?_
  refine Wl.q (v := Value.slice (some ⟨b1, 0, none⟩) 6 c2) (q_move rfl) ?_
  refine Wl.q (v := iv 3) (q_move rfl) ?_
  refine Wl.q (v := Value.pointer (some ⟨b1, 3, none⟩)) (q_idx (m := 3) se_31 rfl rfl (by omega) (by omega) rfl) ?_
  refine Wl.q (v := iv 3) (q_load sc_3 rfl (.row (i := 1) rfl rfl)) ?_
  refine Wl.q (v := iv 7) (q_move rfl) ?_
  refine Wl.q (v := Value.agg #[Value.int .u8 3, iv 0, iv 3, iv 7]) (q_build (pl := [(0, 1), (1, 1), (2, 1), (3, 1)]) Tryd.underlying29 zo_29 (by kernel_rfl) (by kernel_rfl)) ?_
  refine Wl.e (e_call (F := (slp 3 1 b1 c2 [iv 4, iv 5, iv 5, iv 3, iv 6, iv 5]) :: F) (args := [pv q0, Value.agg #[Value.int .u8 3, iv 0, iv 3, iv 7]]) Tryd.call12 rfl (make_w W0 q0 tl6_7 tl7_8 ⟨3, 0, 3, 7⟩ 8 8 0 (by unfold okT; decide) (by decide +kernel) rfl)) (fun _ _ => ?_)
  refine Wl.imp (L' := (storeW q0 tl7_8) :: (slp 3 1 b1 c2 [iv 4, iv 5, iv 5, iv 3, iv 6, iv 5]) :: F) (fun _ h => h) ?_
  refine Wl.q (v := Value.tuple #[iv 8, iv 0]) (q_move rfl) ?_
  refine Wl.q (v := iv 8) (q_extract (i := 0) rfl rfl) ?_
  refine Wl.q (v := iv 0) (q_extract (i := 1) rfl rfl) ?_
  refine Wl.q (v := iv 8) (q_assign rfl) ?_
  refine Wl.q (v := iv 0) (q_assign rfl) ?_
  refine Wl.done ?_
  refine Wx.go ?_
  refine Wc.seq ?_
  refine Wc.seq ?_
  refine Wc.region ?_
  refine Wl.q (v := iv 0) (q_move rfl) ?_
  refine Wl.q (v := Value.bool false) (q_neq (r := true) rfl rfl (decide_eq_true (by decide))) ?_
  refine Wl.done ?_
  refine Wx.go ?_
  refine Wc.no rfl ?_
  refine Wc.skip ?_
  refine Wx.go ?_
  refine Wc.region ?_
  refine Wl.q (v := iv 8) (q_move rfl) ?_
  refine Wl.q (v := iv 8) (q_assign rfl) ?_
  refine Wl.done ?_
  refine Wx.blockEnd ?_
  refine Wx.go ?_
  refine Wc.region ?_
  refine Wl.q (v := iv 3) (q_move rfl) ?_
  refine Wl.q (v := iv 2) (q_sub (c := 2) rfl rfl (by decide)) ?_
  refine Wl.q (v := iv 2) (q_assign rfl) ?_
  refine Wl.done ?_
  refine Wx.again ?_
  refine Wn.round ?_
  refine Wc.seq ?_
  refine Wc.seq ?_
  refine Wc.region ?_
  refine Wl.q (v := iv 2) (q_move rfl) ?_
  refine Wl.q (v := Value.bool true) (q_geq (r := true) rfl rfl (decide_eq_true (by decide))) ?_
  refine Wl.done ?_
  refine Wx.go ?_
  refine Wc.yes rfl ?_
  refine Wc.skip ?_
  refine Wx.go ?_
  refine Wc.seq ?_
  refine Wc.block ?_
  refine Wc.seq ?_
  refine Wc.region ?_
  refine Wl.q (v := pv q0) (q_move rfl) ?_
  refine Wl.q (v := Value.slice (some ⟨b1, 0, none⟩) 6 c2) (q_move rfl) ?_
  refine Wl.q (v := iv 2) (q_move rfl) ?_
  refine Wl.q (v := Value.pointer (some ⟨b1, 2, none⟩)) (q_idx (m := 2) se_31 rfl rfl (by omega) (by omega) rfl) ?_
  refine Wl.q (v := iv 5) (q_load sc_3 rfl (.row (i := 1) rfl rfl)) ?_
  refine Wl.q (v := iv 8) (q_move rfl) ?_
  refine Wl.q (v := Value.agg #[Value.int .u8 3, iv 0, iv 5, iv 8]) (q_build (pl := [(0, 1), (1, 1), (2, 1), (3, 1)]) Tryd.underlying29 zo_29 (by kernel_rfl) (by kernel_rfl)) ?_
  refine Wl.e (e_call (F := (slp 3 1 b1 c2 [iv 4, iv 5, iv 5, iv 3, iv 6, iv 5]) :: F) (args := [pv q0, Value.agg #[Value.int .u8 3, iv 0, iv 5, iv 8]]) Tryd.call12 rfl (make_w W0 q0 tl7_8 tl8_9 ⟨3, 0, 5, 8⟩ 9 9 0 (by unfold okT; decide) (by decide +kernel) rfl)) (fun _ _ => ?_)
  refine Wl.imp (L' := (storeW q0 tl8_9) :: (slp 3 1 b1 c2 [iv 4, iv 5, iv 5, iv 3, iv 6, iv 5]) :: F) (fun _ h => h) ?_
  refine Wl.q (v := Value.tuple #[iv 9, iv 0]) (q_move rfl) ?_
  refine Wl.q (v := iv 9) (q_extract (i := 0) rfl rfl) ?_
  refine Wl.q (v := iv 0) (q_extract (i := 1) rfl rfl) ?_
  refine Wl.q (v := iv 9) (q_assign rfl) ?_
  refine Wl.q (v := iv 0) (q_assign rfl) ?_
  refine Wl.done ?_
  refine Wx.go ?_
  refine Wc.seq ?_
  refine Wc.seq ?_
  refine Wc.region ?_
  refine Wl.q (v := iv 0) (q_move rfl) ?_
  refine Wl.q (v := Value.bool false) (q_neq (r := true) rfl rfl (decide_eq_true (by decide))) ?_
  refine Wl.done ?_
  refine Wx.go ?_
  refine Wc.no rfl ?_
  refine Wc.skip ?_
  refine Wx.go ?_
  refine Wc.region ?_
  refine Wl.q (v := iv 9) (q_move rfl) ?_
  refine Wl.q (v := iv 9) (q_assign rfl) ?_
  refine Wl.done ?_
  refine Wx.blockEnd ?_
  refine Wx.go ?_
  refine Wc.region ?_
  refine Wl.q (v := iv 2) (q_move rfl) ?_
  refine Wl.q (v := iv 1) (q_sub (c := 1) rfl rfl (by decide)) ?_
  refine Wl.q (v := iv 1) (q_assign rfl) ?_
  refine Wl.done ?_
  refine Wx.again ?_
  refine Wn.round ?_
  refine Wc.seq ?_
  refine Wc.seq ?_
  refine Wc.region ?_
  refine Wl.q (v := iv 1) (q_move rfl) ?_
  refine Wl.q (v := Value.bool true) (q_geq (r := true) rfl rfl (decide_eq_true (by decide))) ?_
  refine Wl.done ?_
  refine Wx.go ?_
  refine Wc.yes rfl ?_
  refine Wc.skip ?_
  refine Wx.go ?_
  refine Wc.seq ?_
  refine Wc.block ?_
  refine Wc.seq ?_
  refine Wc.region ?_
  refine Wl.q (v := pv q0) (q_move rfl) ?_
  refine Wl.q (v := Value.slice (some ⟨b1, 0, none⟩) 6 c2) (q_move rfl) ?_
  refine Wl.q (v := iv 1) (q_move rfl) ?_
  refine Wl.q (v := Value.pointer (some ⟨b1, 1, none⟩)) (q_idx (m := 1) se_31 rfl rfl (by omega) (by omega) rfl) ?_
  refine Wl.q (v := iv 5) (q_load sc_3 rfl (.row (i := 1) rfl rfl)) ?_
  refine Wl.q (v := iv 9) (q_move rfl) ?_
  refine Wl.q (v := Value.agg #[Value.int .u8 3, iv 0, iv 5, iv 9]) (q_build (pl := [(0, 1), (1, 1), (2, 1), (3, 1)]) Tryd.underlying29 zo_29 (by kernel_rfl) (by kernel_rfl)) ?_
  refine Wl.e (e_call (F := (slp 3 1 b1 c2 [iv 4, iv 5, iv 5, iv 3, iv 6, iv 5]) :: F) (args := [pv q0, Value.agg #[Value.int .u8 3, iv 0, iv 5, iv 9]]) Tryd.call12 rfl (make_w W0 q0 tl8_9 tl9_10 ⟨3, 0, 5, 9⟩ 10 10 0 (by unfold okT; decide) (by decide +kernel) rfl)) (fun _ _ => ?_)
  refine Wl.imp (L' := (storeW q0 tl9_10) :: (slp 3 1 b1 c2 [iv 4, iv 5, iv 5, iv 3, iv 6, iv 5]) :: F) (fun _ h => h) ?_
  refine Wl.q (v := Value.tuple #[iv 10, iv 0]) (q_move rfl) ?_
  refine Wl.q (v := iv 10) (q_extract (i := 0) rfl rfl) ?_
  refine Wl.q (v := iv 0) (q_extract (i := 1) rfl rfl) ?_
  refine Wl.q (v := iv 10) (q_assign rfl) ?_
  refine Wl.q (v := iv 0) (q_assign rfl) ?_
  refine Wl.done ?_
  refine Wx.go ?_
  refine Wc.seq ?_
  refine Wc.seq ?_
  refine Wc.region ?_
  refine Wl.q (v := iv 0) (q_move rfl) ?_
  refine Wl.q (v := Value.bool false) (q_neq (r := true) rfl rfl (decide_eq_true (by decide))) ?_
  refine Wl.done ?_
  refine Wx.go ?_
  refine Wc.no rfl ?_
  refine Wc.skip ?_
  refine Wx.go ?_
  refine Wc.region ?_
  refine Wl.q (v := iv 10) (q_move rfl) ?_
  refine Wl.q (v := iv 10) (q_assign rfl) ?_
  refine Wl.done ?_
  refine Wx.blockEnd ?_
  refine Wx.go ?_
  refine Wc.region ?_
  refine Wl.q (v := iv 1) (q_move rfl) ?_
  refine Wl.q (v := iv 0) (q_sub (c := 0) rfl rfl (by decide)) ?_
  refine Wl.q (v := iv 0) (q_assign rfl) ?_
  refine Wl.done ?_
  refine Wx.again ?_
  refine Wn.round ?_
  refine Wc.seq ?_
  refine Wc.seq ?_
  refine Wc.region ?_
  refine Wl.q (v := iv 0) (q_move rfl) ?_
  refine Wl.q (v := Value.bool true) (q_geq (r := true) rfl rfl (decide_eq_true (by decide))) ?_
  refine Wl.done ?_
  refine Wx.go ?_
  refine Wc.yes rfl ?_
  refine Wc.skip ?_
  refine Wx.go ?_
  refine Wc.seq ?_
  refine Wc.block ?_
  refine Wc.seq ?_
  refine Wc.region ?_
  refine Wl.q (v := pv q0) (q_move rfl) ?_
  refine Wl.q (v := Value.slice (some ⟨b1, 0, none⟩) 6 c2) (q_move rfl) ?_
  refine Wl.q (v := iv 0) (q_move rfl) ?_
  refine Wl.q (v := pv b1) (q_idx (m := 0) se_31 rfl rfl (by omega) (by omega) rfl) ?_
  refine Wl.q (v := iv 4) (q_load sc_3 rfl (.row (i := 1) rfl rfl)) ?_
  refine Wl.q (v := iv 10) (q_move rfl) ?_
  refine Wl.q (v := Value.agg #[Value.int .u8 3, iv 0, iv 4, iv 10]) (q_build (pl := [(0, 1), (1, 1), (2, 1), (3, 1)]) Tryd.underlying29 zo_29 (by kernel_rfl) (by kernel_rfl)) ?_
  refine Wl.e (e_call (F := (slp 3 1 b1 c2 [iv 4, iv 5, iv 5, iv 3, iv 6, iv 5]) :: F) (args := [pv q0, Value.agg #[Value.int .u8 3, iv 0, iv 4, iv 10]]) Tryd.call12 rfl (make_w W0 q0 tl9_10 tl10_11 ⟨3, 0, 4, 10⟩ 11 11 0 (by unfold okT; decide) (by decide +kernel) rfl)) (fun _ _ => ?_)
  refine Wl.imp (L' := (storeW q0 tl10_11) :: (slp 3 1 b1 c2 [iv 4, iv 5, iv 5, iv 3, iv 6, iv 5]) :: F) (fun _ h => h) ?_
  refine Wl.q (v := Value.tuple #[iv 11, iv 0]) (q_move rfl) ?_
  refine Wl.q (v := iv 11) (q_extract (i := 0) rfl rfl) ?_
  refine Wl.q (v := iv 0) (q_extract (i := 1) rfl rfl) ?_
  refine Wl.q (v := iv 11) (q_assign rfl) ?_
  refine Wl.q (v := iv 0) (q_assign rfl) ?_
  refine Wl.done ?_
  refine Wx.go ?_
  refine Wc.seq ?_
  refine Wc.seq ?_
  refine Wc.region ?_
  refine Wl.q (v := iv 0) (q_move rfl) ?_
  refine Wl.q (v := Value.bool false) (q_neq (r := true) rfl rfl (decide_eq_true (by decide))) ?_
  refine Wl.done ?_
  refine Wx.go ?_
  refine Wc.no rfl ?_
  refine Wc.skip ?_
  refine Wx.go ?_
  refine Wc.region ?_
  refine Wl.q (v := iv 11) (q_move rfl) ?_
  refine Wl.q (v := iv 11) (q_assign rfl) ?_
  refine Wl.done ?_
  refine Wx.blockEnd ?_
  refine Wx.go ?_
  refine Wc.region ?_
  refine Wl.q (v := iv 0) (q_move rfl) ?_
  refine Wl.q (v := iv (-1)) (q_sub (c := (-1)) rfl rfl (by decide)) ?_
  refine Wl.q (v := iv (-1)) (q_assign rfl) ?_
  refine Wl.done ?_
  refine Wx.again ?_
  refine Wn.round ?_
  refine Wc.seq ?_
  refine Wc.seq ?_
  refine Wc.region ?_
  refine Wl.q (v := iv (-1)) (q_move rfl) ?_
  refine Wl.q (v := Value.bool false) (q_geq (r := false) rfl rfl (decide_eq_false (by decide))) ?_
  refine Wl.done ?_
  refine Wx.go ?_
  refine Wc.no rfl ?_
  refine Wc.exit ?_
  refine Wx.thenExit ?_
  refine Wx.thenExit ?_
  refine Wx.out ?_
  refine Wx.go ?_
  refine Wc.seq ?_
  refine Wc.region ?_
  refine Wl.q (v := iv 11) (q_move rfl) ?_
  refine Wl.q (v := iv 11) (q_assign rfl) ?_
  refine Wl.q (v := iv 0) (q_assign rfl) ?_
  refine Wl.done ?_
  refine Wx.go ?_
  refine Wc.ret ?_
  refine Wx.fin2 rfl (.inl rfl) (fun w hs => ?_)
  have hs : st W0 w ((storeW q0 tl10_11) :: (slp 3 1 b1 c2 [iv 4, iv 5, iv 5, iv 3, iv 6, iv 5]) :: F) := hs
  have hs : st W0 w ((sl 3 1 (Value.slice (some ⟨b1, 0, none⟩) 6 c2) 6 [iv 4, iv 5, iv 5, iv 3, iv 6, iv 5]) :: (storeW q0 tl10_11) :: F) := st_sl_mk rfl hc4 (st_pull [1] hs)
  have hs : st W0 w ((storeW q0 tl10_11) :: (sl 3 1 (Value.slice (some ⟨b1, 0, none⟩) 6 c2) 6 [iv 4, iv 5, iv 5, iv 3, iv 6, iv 5]) :: F) := st_pull [1, 0] hs
  exact ⟨(), trivial, rfl, hs⟩

def tl11_12 : List TermR := [⟨1, 1, 0, 0⟩, ⟨1, 2, 0, 0⟩, ⟨5, 0, 1, 0⟩, ⟨2, 4, 0, 0⟩, ⟨2, 0, 0, 0⟩, ⟨2, 5, 0, 0⟩, ⟨3, 0, 6, 5⟩, ⟨3, 0, 3, 7⟩, ⟨3, 0, 5, 8⟩, ⟨3, 0, 5, 9⟩, ⟨3, 0, 4, 10⟩, ⟨7, 0, 11, 0⟩]

set_option maxRecDepth 8000 in
set_option maxHeartbeats 4000000 in
theorem au15_Context (W0 : World) (q0 : Nat) (q1 : Nat) (q2 : Nat) (hq1 : 1 ≤ q2) :
    Con Tryd.prog W0 20 #[pv q0, iv 4, iv 0, Value.agg #[Value.slice (some ⟨q1, 0, none⟩) 1 q2]] [storeW q0 tl2_3, slp 87 4 q1 q2 [iv 3, iv 5, iv 0, Value.slice none 0 0]] (X := Unit) (fun _ => True) (fun _ => Value.tuple #[iv 12, iv 0]) (fun _ => [storeW q0 tl11_12, slp 87 4 q1 q2 [iv 3, iv 5, iv 0, Value.slice none 0 0]]) := by
  refine Con.of (args := [pv q0, iv 4, iv 0, Value.agg #[Value.slice (some ⟨q1, 0, none⟩) 1 q2]]) Tryd.func20 rfl Tryd.ntmps20 rfl (fun F => ?_)
  show Wc _ W0 _ _ _ _ _ ((storeW q0 tl2_3) :: (slp 87 4 q1 q2 [iv 3, iv 5, iv 0, Value.slice none 0 0]) :: F)
  refine Wc.seq ?_
  refine Wc.region ?_
  refine Wl.e (e_box (x := .tmp 3) (vs := [Value.slice (some ⟨q1, 0, none⟩) 1 q2]) rfl) (fun b1 _ => ?_)
  refine Wl.q (v := iv 0) (q_assign rfl) ?_
  refine Wl.q (v := iv 0) (q_assign rfl) ?_
  refine Wl.done ?_
  refine Wx.go ?_
  refine Wc.seq ?_
  refine Wc.seq ?_
  refine Wc.region ?_
  refine Wl.q (v := pv q0) (q_move rfl) ?_
  refine Wl.imp (L' := (storeW q0 tl2_3) :: (pt b1 58 [Value.slice (some ⟨q1, 0, none⟩) 1 q2]) :: (slp 87 4 q1 q2 [iv 3, iv 5, iv 0, Value.slice none 0 0]) :: F) (fun _ h => st_pull [1] h) ?_
  refine Wl.e (e_call (F := (pt b1 58 [Value.slice (some ⟨q1, 0, none⟩) 1 q2]) :: (slp 87 4 q1 q2 [iv 3, iv 5, iv 0, Value.slice none 0 0]) :: F) (args := [pv q0]) Tryd.call14 rfl (au16_alive W0 q0)) (fun _ _ => ?_)
  refine Wl.imp (L' := (storeW q0 tl2_3) :: (pt b1 58 [Value.slice (some ⟨q1, 0, none⟩) 1 q2]) :: (slp 87 4 q1 q2 [iv 3, iv 5, iv 0, Value.slice none 0 0]) :: F) (fun _ h => h) ?_
  refine Wl.q (v := Value.bool false) (q_not rfl rfl) ?_
  refine Wl.done ?_
  refine Wx.go ?_
  refine Wc.no rfl ?_
  refine Wc.skip ?_
  refine Wx.go ?_
  refine Wc.seq ?_
  refine Wc.seq ?_
  refine Wc.region ?_
  refine Wl.q (v := Value.agg #[Value.slice (some ⟨q1, 0, none⟩) 1 q2]) (q_loadAgg (vs := [Value.slice (some ⟨q1, 0, none⟩) 1 q2]) ag_58 rfl (Has.of_pt (i := 1) rfl rfl)) ?_
  refine Wl.imp (L' := (slp 87 4 q1 q2 [iv 3, iv 5, iv 0, Value.slice none 0 0]) :: (storeW q0 tl2_3) :: (pt b1 58 [Value.slice (some ⟨q1, 0, none⟩) 1 q2]) :: F) (fun _ h => st_pull [2] h) ?_
  refine Wl.e (e_call (F := (storeW q0 tl2_3) :: (pt b1 58 [Value.slice (some ⟨q1, 0, none⟩) 1 q2]) :: F) (args := [Value.agg #[Value.slice (some ⟨q1, 0, none⟩) 1 q2]]) Tryd.call32 rfl (au18_Check W0 q1 q2 hq1)) (fun _ _ => ?_)
  refine Wl.imp (L' := (slp 87 4 q1 q2 [iv 3, iv 5, iv 0, Value.slice none 0 0]) :: (storeW q0 tl2_3) :: (pt b1 58 [Value.slice (some ⟨q1, 0, none⟩) 1 q2]) :: F) (fun _ h => h) ?_
  refine Wl.q (v := Value.bool false) (q_neq (r := true) rfl rfl (decide_eq_true (by decide))) ?_
  refine Wl.done ?_
  refine Wx.go ?_
  refine Wc.no rfl ?_
  refine Wc.skip ?_
  refine Wx.go ?_
  refine Wc.seq ?_
  refine Wc.seq ?_
  refine Wc.region ?_
  refine Wl.q (v := pv b1) (q_field (m := 0) fo_58_0 rfl rfl) ?_
  refine Wl.q (v := Value.slice (some ⟨q1, 0, none⟩) 1 q2) (q_load sc_56 rfl (.cel (i := 2) rfl rfl)) ?_
  refine Wl.q (v := iv 1) (q_len_slice Tryd.underlying56 rfl) ?_
  refine Wl.q (v := iv 0) (q_move rfl) ?_
  refine Wl.done ?_
  refine Wx.go ?_
  refine Wc.block ?_
  refine Wc.rounds 64 ?_
  refine Wn.round ?_
  refine Wc.seq ?_
  refine Wc.region ?_
  refine Wl.q (v := Value.bool true) (q_lss (r := true) rfl rfl (decide_eq_true (by decide))) ?_
  refine Wl.done ?_
  refine Wx.go ?_
  refine Wc.seq ?_
  refine Wc.yes rfl ?_
  refine Wc.skip ?_
  refine Wx.go ?_
  refine Wc.seq ?_
  refine Wc.block ?_
  refine Wc.seq ?_
  refine Wc.region ?_
  refine Wl.q (v := pv q1) (q_idx (m := 0) se_56 rfl rfl (by omega) (by omega) rfl) ?_
  refine Wl.q (v := Value.agg #[iv 3, iv 5, iv 0, Value.slice none 0 0]) (q_loadAgg (vs := [iv 3, iv 5, iv 0, Value.slice none 0 0]) ag_87 rfl (Has.of_slp (i := 0) rfl rfl)) ?_
  refine Wl.e (e_alloc (vs := [iv 0, iv 0, iv 0, Value.slice none 0 0]) zo_87 rfl) (fun b2 _ => ?_)
  refine Wl.e (e_storeAgg (i := 0) (vs := [iv 3, iv 5, iv 0, Value.slice none 0 0]) (c' := [iv 3, iv 5, iv 0, Value.slice none 0 0]) sz_87 rfl rfl rfl rfl (by simp) rfl) (fun _ _ => ?_)
  refine Wl.imp (L' := (pt b2 87 [iv 3, iv 5, iv 0, Value.slice none 0 0]) :: (slp 87 4 q1 q2 [iv 3, iv 5, iv 0, Value.slice none 0 0]) :: (storeW q0 tl2_3) :: (pt b1 58 [Value.slice (some ⟨q1, 0, none⟩) 1 q2]) :: F) (fun _ h => h) ?_
  refine Wl.done ?_
  refine Wx.go ?_
  refine Wc.seq ?_
  refine Wc.region ?_
  refine Wl.q (v := pv b2) (q_field (m := 0) fo_87_0 rfl rfl) ?_
  refine Wl.q (v := iv 3) (q_load sc_3 rfl (.cel (i := 0) rfl rfl)) ?_
  refine Wl.q (v := Value.bool true) (q_neq (r := false) rfl rfl (decide_eq_false (by decide))) ?_
  refine Wl.q (v := Value.bool true) (q_move rfl) ?_
  refine Wl.q (v := pv q0) (q_move rfl) ?_
  refine Wl.q (v := pv b2) (q_field (m := 0) fo_87_0 rfl rfl) ?_
  refine Wl.q (v := iv 3) (q_load sc_3 rfl (.cel (i := 0) rfl rfl)) ?_
  refine Wl.imp (L' := (storeW q0 tl2_3) :: (pt b2 87 [iv 3, iv 5, iv 0, Value.slice none 0 0]) :: (slp 87 4 q1 q2 [iv 3, iv 5, iv 0, Value.slice none 0 0]) :: (pt b1 58 [Value.slice (some ⟨q1, 0, none⟩) 1 q2]) :: F) (fun _ h => st_pull [2] h) ?_
  refine Wl.e (e_call (F := (pt b2 87 [iv 3, iv 5, iv 0, Value.slice none 0 0]) :: (slp 87 4 q1 q2 [iv 3, iv 5, iv 0, Value.slice none 0 0]) :: (pt b1 58 [Value.slice (some ⟨q1, 0, none⟩) 1 q2]) :: F) (args := [pv q0, iv 3]) Tryd.call15 rfl (au23_there W0 q0)) (fun _ _ => ?_)
  refine Wl.imp (L' := (storeW q0 tl2_3) :: (pt b2 87 [iv 3, iv 5, iv 0, Value.slice none 0 0]) :: (slp 87 4 q1 q2 [iv 3, iv 5, iv 0, Value.slice none 0 0]) :: (pt b1 58 [Value.slice (some ⟨q1, 0, none⟩) 1 q2]) :: F) (fun _ h => h) ?_
  refine Wl.q (v := Value.bool false) (q_not rfl rfl) ?_
  refine Wl.q (v := Value.bool false) (q_pick (t := true) rfl rfl) ?_
  refine Wl.done ?_
  refine Wx.go ?_
  refine Wc.no rfl ?_
  refine Wc.skip ?_
  refine Wx.blockEnd ?_
  refine Wx.go ?_
  refine Wc.region ?_
  refine Wl.q (v := iv 1) (q_add (c := 1) rfl rfl (by decide)) ?_
  refine Wl.q (v := iv 1) (q_move rfl) ?_
  refine Wl.done ?_
  refine Wx.again ?_
  refine Wn.round ?_
  refine Wc.imp (L' := (storeW q0 tl2_3) :: (slp 87 4 q1 q2 [iv 3, iv 5, iv 0, Value.slice none 0 0]) :: (pt b1 58 [Value.slice (some ⟨q1, 0, none⟩) 1 q2]) :: F) (fun w hs => (st_drop (st_pull [1] hs))) ?_
  refine Wc.seq ?_
  refine Wc.region ?_
  refine Wl.q (v := Value.bool false) (q_lss (r := false) rfl rfl (decide_eq_false (by decide))) ?_
  refine Wl.done ?_
  refine Wx.go ?_
  refine Wc.seq ?_
  refine Wc.no rfl ?_
  refine Wc.exit ?_
  refine Wx.thenExit ?_
  refine Wx.thenExit ?_
  refine Wx.out ?_
  refine Wx.go ?_
  refine Wc.seq ?_
  refine Wc.region ?_
  refine Wl.q (v := pv q0) (q_move rfl) ?_
  refine Wl.q (v := Value.agg #[pv q0, iv 0]) (q_build (pl := [(0, 1), (1, 1)]) Tryd.underlying52 zo_52 (by kernel_rfl) (by kernel_rfl)) ?_
  refine Wl.e (e_box (x := .tmp 45) (vs := [pv q0, iv 0]) rfl) (fun b3 _ => ?_)
  refine Wl.q (v := pv b3) (q_assign rfl) ?_
  refine Wl.done ?_
  refine Wx.go ?_
  refine Wc.seq ?_
  refine Wc.region ?_
  refine Wl.q (v := pv b3) (q_move rfl) ?_
  refine Wl.q (v := iv 4) (q_move rfl) ?_
  refine Wl.e (e_call (F := (slp 87 4 q1 q2 [iv 3, iv 5, iv 0, Value.slice none 0 0]) :: (pt b1 58 [Value.slice (some ⟨q1, 0, none⟩) 1 q2]) :: F) (args := [pv b3, iv 4]) Tryd.call33 rfl (au24_data W0 b3 q0)) (fun _ _ => ?_)
  refine Wl.imp (L' := (pt b3 52 [pv q0, iv 0]) :: (storeW q0 tl3_4) :: (slp 87 4 q1 q2 [iv 3, iv 5, iv 0, Value.slice none 0 0]) :: (pt b1 58 [Value.slice (some ⟨q1, 0, none⟩) 1 q2]) :: F) (fun _ h => h) ?_
  refine Wl.q (v := pv b3) (q_move rfl) ?_
  refine Wl.q (v := iv 0) (q_move rfl) ?_
  refine Wl.e (e_call (F := (slp 87 4 q1 q2 [iv 3, iv 5, iv 0, Value.slice none 0 0]) :: (pt b1 58 [Value.slice (some ⟨q1, 0, none⟩) 1 q2]) :: F) (args := [pv b3, iv 0]) Tryd.call33 rfl (au26_data W0 b3 q0)) (fun _ _ => ?_)
  refine Wl.imp (L' := (pt b3 52 [pv q0, iv 0]) :: (storeW q0 tl4_5) :: (slp 87 4 q1 q2 [iv 3, iv 5, iv 0, Value.slice none 0 0]) :: (pt b1 58 [Value.slice (some ⟨q1, 0, none⟩) 1 q2]) :: F) (fun _ h => h) ?_
  refine Wl.e (e_buildSlice (cs := [iv 4, iv 5]) se_31 zo_3 (by decide) (by decide) (by kernel_rfl)) (fun b4 _ => ?_)
  refine Wl.q (v := Value.slice (some ⟨b4, 0, none⟩) 2 2) (q_assign rfl) ?_
  refine Wl.done ?_
  refine Wx.go ?_
  refine Wc.seq ?_
  refine Wc.seq ?_
  refine Wc.region ?_
  refine Wl.q (v := pv b1) (q_field (m := 0) fo_58_0 rfl rfl) ?_
  refine Wl.q (v := Value.slice (some ⟨q1, 0, none⟩) 1 q2) (q_load sc_56 rfl (.cel (i := 4) rfl rfl)) ?_
  refine Wl.q (v := iv 1) (q_len_slice Tryd.underlying56 rfl) ?_
  refine Wl.q (v := iv 0) (q_move rfl) ?_
  refine Wl.done ?_
  refine Wx.go ?_
  refine Wc.block ?_
  refine Wc.rounds 64 ?_
  refine Wn.round ?_
  refine Wc.imp (L' := (pt b4 3 [iv 4, iv 5]) :: (pt b3 52 [pv q0, iv 0]) :: (storeW q0 tl4_5) :: (slp 87 4 q1 q2 [iv 3, iv 5, iv 0, Value.slice none 0 0]) :: F) (fun w hs => (st_drop (st_pull [4] hs))) ?_
  refine Wc.seq ?_
  refine Wc.region ?_
  refine Wl.q (v := Value.bool true) (q_lss (r := true) rfl rfl (decide_eq_true (by decide))) ?_
  refine Wl.done ?_
  refine Wx.go ?_
  refine Wc.seq ?_
  refine Wc.yes rfl ?_
  refine Wc.skip ?_
  refine Wx.go ?_
  refine Wc.seq ?_
  refine Wc.block ?_
  refine Wc.seq ?_
  refine Wc.region ?_
  refine Wl.q (v := iv 0) (q_move rfl) ?_
  refine Wl.q (v := pv q1) (q_idx (m := 0) se_56 rfl rfl (by omega) (by omega) rfl) ?_
  refine Wl.q (v := Value.agg #[iv 3, iv 5, iv 0, Value.slice none 0 0]) (q_loadAgg (vs := [iv 3, iv 5, iv 0, Value.slice none 0 0]) ag_87 rfl (Has.of_slp (i := 3) rfl rfl)) ?_
  refine Wl.e (e_alloc (vs := [iv 0, iv 0, iv 0, Value.slice none 0 0]) zo_87 rfl) (fun b5 _ => ?_)
  refine Wl.q (v := iv 0) (q_assign rfl) ?_
  refine Wl.e (e_storeAgg (i := 0) (vs := [iv 3, iv 5, iv 0, Value.slice none 0 0]) (c' := [iv 3, iv 5, iv 0, Value.slice none 0 0]) sz_87 rfl rfl rfl rfl (by simp) rfl) (fun _ _ => ?_)
  refine Wl.imp (L' := (pt b5 87 [iv 3, iv 5, iv 0, Value.slice none 0 0]) :: (pt b4 3 [iv 4, iv 5]) :: (pt b3 52 [pv q0, iv 0]) :: (storeW q0 tl4_5) :: (slp 87 4 q1 q2 [iv 3, iv 5, iv 0, Value.slice none 0 0]) :: F) (fun _ h => h) ?_
  refine Wl.done ?_
  refine Wx.go ?_
  refine Wc.seq ?_
  refine Wc.seq ?_
  refine Wc.region ?_
  refine Wl.q (v := pv b5) (q_field (m := 0) fo_87_0 rfl rfl) ?_
  refine Wl.q (v := iv 3) (q_load sc_3 rfl (.cel (i := 0) rfl rfl)) ?_
  refine Wl.q (v := Value.bool false) (q_eql (r := false) rfl rfl (decide_eq_false (by decide))) ?_
  refine Wl.done ?_
  refine Wx.go ?_
  refine Wc.no rfl ?_
  refine Wc.skip ?_
  refine Wx.go ?_
  refine Wc.seq ?_
  refine Wc.imp (L' := (sl 3 1 (Value.slice (some ⟨b4, 0, none⟩) 2 2) 2 [iv 4, iv 5]) :: (pt b5 87 [iv 3, iv 5, iv 0, Value.slice none 0 0]) :: (pt b3 52 [pv q0, iv 0]) :: (storeW q0 tl4_5) :: (slp 87 4 q1 q2 [iv 3, iv 5, iv 0, Value.slice none 0 0]) :: F) (fun w hs => st_sl_mk rfl (by decide) (st_slp_pt rfl (by decide) (st_pull [1] hs))) ?_
  refine Wc.drawsS [] ((pt b5 87 [iv 3, iv 5, iv 0, Value.slice none 0 0]) :: (slp 87 4 q1 q2 [iv 3, iv 5, iv 0, Value.slice none 0 0]) :: []) (by kernel_rfl) ?_
  refine Wr.pure (v := Value.slice (some ⟨b4, 0, none⟩) 2 2) 0 rfl (by kernel_rfl) (.inr (fun _ h => st_take [1, 3] h)) (.inl ⟨rfl, fun _ => q_move rfl⟩) ?_
  refine Wr.pure (v := pv b3) 1 rfl (by kernel_rfl) (.inr (fun _ h => st_take [1, 3] h)) (.inl ⟨rfl, fun _ => q_move rfl⟩) ?_
  refine Wr.pure (v := iv 0) 2 rfl (by kernel_rfl) (.inr (fun _ h => st_take [1, 3] h)) (.inl ⟨rfl, fun _ => q_move rfl⟩) ?_
  refine Wr.pure (v := pv b5) 4 rfl (by kernel_rfl) (.inr (fun _ h => st_take [1, 3] h)) (.inl ⟨rfl, fun _ => q_field (m := 0) fo_87_0 rfl rfl⟩) ?_
  refine Wr.take (v := iv 3) 5 rfl (by kernel_rfl) (fun _ h => st_take [1, 3] h) (.inl ⟨rfl, q_load sc_3 rfl (.cel (i := 0) rfl rfl)⟩) ?_
  refine Wr.imp (L' := (pt b3 52 [pv q0, iv 0]) :: (storeW q0 tl4_5) :: (sl 3 1 (Value.slice (some ⟨b4, 0, none⟩) 2 2) 2 [iv 4, iv 5]) :: (pt b5 87 [iv 3, iv 5, iv 0, Value.slice none 0 0]) :: (slp 87 4 q1 q2 [iv 3, iv 5, iv 0, Value.slice none 0 0]) :: F) (fun _ h => st_pull [2, 2] h) ?_
  refine Wr.e 3 (by kernel_rfl) rfl (e_call (F := (sl 3 1 (Value.slice (some ⟨b4, 0, none⟩) 2 2) 2 [iv 4, iv 5]) :: (pt b5 87 [iv 3, iv 5, iv 0, Value.slice none 0 0]) :: (slp 87 4 q1 q2 [iv 3, iv 5, iv 0, Value.slice none 0 0]) :: F) (args := [pv b3, iv 0]) Tryd.call33 rfl (au28_data W0 b3 q0)) (.inr fun _ _ _ h => st_take [3, 3] h) (fun _ _ => ?_)
  refine Wr.imp (L' := (pt b3 52 [pv q0, iv 0]) :: (storeW q0 tl4_5) :: (sl 3 1 (Value.slice (some ⟨b4, 0, none⟩) 2 2) 2 [iv 4, iv 5]) :: (pt b5 87 [iv 3, iv 5, iv 0, Value.slice none 0 0]) :: (slp 87 4 q1 q2 [iv 3, iv 5, iv 0, Value.slice none 0 0]) :: F) (fun _ h => h) ?_
  refine Wr.e 6 (by kernel_rfl) rfl (e_buildSlice (cs := [iv 5, iv 3]) se_31 zo_3 (by decide) (by decide) (by kernel_rfl)) (.inr fun _ _ _ h => st_take [4, 4] h) (fun b6 _ => ?_)
  refine Wr.more (S' := (pt b6 3 [iv 5, iv 3]) :: (pt b5 87 [iv 3, iv 5, iv 0, Value.slice none 0 0]) :: (slp 87 4 q1 q2 [iv 3, iv 5, iv 0, Value.slice none 0 0]) :: []) (fun _ h => st_drop h) ?_
  refine Wr.e 7 (by kernel_rfl) rfl (e_append (i := 3) (k := 1) (m := 2) (off := 0) (news := [iv 5, iv 3]) Tryd.underlying31 sz_3 by_3 zo_3 rfl rfl rfl rfl rfl (Has.of_pt (i := 0) rfl rfl) rfl (by decide) (by simp only [maxLen]; omega) (by omega)) (.inr fun _ _ _ h => st_take [0, 3, 3] h) (fun v7 _ => ?_)
  refine Wr.imp (L' := (pt b6 3 [iv 5, iv 3]) :: (pt b3 52 [pv q0, iv 0]) :: (storeW q0 tl4_5) :: (sl 3 1 v7 4 [iv 4, iv 5, iv 5, iv 3]) :: (pt b5 87 [iv 3, iv 5, iv 0, Value.slice none 0 0]) :: (slp 87 4 q1 q2 [iv 3, iv 5, iv 0, Value.slice none 0 0]) :: F) (fun _ h => h) ?_
  refine Wr.pure (v := v7) 8 rfl (by kernel_rfl) (.inr (fun _ h => st_take [0, 3, 3] h)) (.inl ⟨rfl, fun _ => q_assign rfl⟩) ?_
  refine Wr.done (by kernel_rfl) ?_
  refine Wx.go ?_
  refine Wc.seq ?_
  refine Wc.seq ?_
  refine Wc.region ?_
  refine Wl.q (v := iv 0) (q_move rfl) ?_
  refine Wl.q (v := iv 0) (q_rem (c := 0) rfl rfl (by decide) (by decide)) ?_
  refine Wl.q (v := Value.bool true) (q_eql (r := true) rfl rfl (decide_eq_true (by decide))) ?_
  refine Wl.done ?_
  refine Wx.go ?_
  refine Wc.yes rfl ?_
  refine Wc.drawsS [8] ((pt b6 3 [iv 5, iv 3]) :: (pt b5 87 [iv 3, iv 5, iv 0, Value.slice none 0 0]) :: (slp 87 4 q1 q2 [iv 3, iv 5, iv 0, Value.slice none 0 0]) :: []) (by kernel_rfl) ?_
  refine Wr.pure (v := v7) 0 rfl (by kernel_rfl) (.inr (fun _ h => st_take [0, 3, 3] h)) (.inl ⟨rfl, fun _ => q_move rfl⟩) ?_
  refine Wr.pure (v := pv b3) 1 rfl (by kernel_rfl) (.inr (fun _ h => st_take [0, 3, 3] h)) (.inl ⟨rfl, fun _ => q_move rfl⟩) ?_
  refine Wr.pure (v := Value.pointer (some ⟨b5, 1, none⟩)) 2 rfl (by kernel_rfl) (.inr (fun _ h => st_take [0, 3, 3] h)) (.inl ⟨rfl, fun _ => q_field (m := 1) fo_87_1 rfl rfl⟩) ?_
  refine Wr.take (v := iv 5) 3 rfl (by kernel_rfl) (fun _ h => st_take [0, 3, 3] h) (.inl ⟨rfl, q_load sc_3 rfl (.cel (i := 1) rfl rfl)⟩) ?_
  refine Wr.pure (v := pv b3) 5 rfl (by kernel_rfl) (.inr (fun _ h => st_take [0, 3, 3] h)) (.inl ⟨rfl, fun _ => q_move rfl⟩) ?_
  refine Wr.pure (v := Value.pointer (some ⟨b5, 2, none⟩)) 6 rfl (by kernel_rfl) (.inr (fun _ h => st_take [0, 3, 3] h)) (.inl ⟨rfl, fun _ => q_field (m := 2) fo_87_2 rfl rfl⟩) ?_
  refine Wr.take (v := iv 0) 7 rfl (by kernel_rfl) (fun _ h => st_take [0, 3, 3] h) (.inl ⟨rfl, q_load sc_3 rfl (.cel (i := 1) rfl rfl)⟩) ?_
  refine Wr.imp (L' := (pt b3 52 [pv q0, iv 0]) :: (storeW q0 tl4_5) :: (pt b6 3 [iv 5, iv 3]) :: (sl 3 1 v7 4 [iv 4, iv 5, iv 5, iv 3]) :: (pt b5 87 [iv 3, iv 5, iv 0, Value.slice none 0 0]) :: (slp 87 4 q1 q2 [iv 3, iv 5, iv 0, Value.slice none 0 0]) :: F) (fun _ h => st_pull [1, 1] h) ?_
  refine Wr.e 4 (by kernel_rfl) rfl (e_call (F := (pt b6 3 [iv 5, iv 3]) :: (sl 3 1 v7 4 [iv 4, iv 5, iv 5, iv 3]) :: (pt b5 87 [iv 3, iv 5, iv 0, Value.slice none 0 0]) :: (slp 87 4 q1 q2 [iv 3, iv 5, iv 0, Value.slice none 0 0]) :: F) (args := [pv b3, iv 5]) Tryd.call33 rfl (au30_data W0 b3 q0)) (.inr fun _ _ _ h => st_take [2, 3, 3] h) (fun _ _ => ?_)
  refine Wr.imp (L' := (pt b3 52 [pv q0, iv 0]) :: (storeW q0 tl5_6) :: (pt b6 3 [iv 5, iv 3]) :: (sl 3 1 v7 4 [iv 4, iv 5, iv 5, iv 3]) :: (pt b5 87 [iv 3, iv 5, iv 0, Value.slice none 0 0]) :: (slp 87 4 q1 q2 [iv 3, iv 5, iv 0, Value.slice none 0 0]) :: F) (fun _ h => h) ?_
  refine Wr.e 8 (by kernel_rfl) rfl (e_call (F := (pt b6 3 [iv 5, iv 3]) :: (sl 3 1 v7 4 [iv 4, iv 5, iv 5, iv 3]) :: (pt b5 87 [iv 3, iv 5, iv 0, Value.slice none 0 0]) :: (slp 87 4 q1 q2 [iv 3, iv 5, iv 0, Value.slice none 0 0]) :: F) (args := [pv b3, iv 0]) Tryd.call33 rfl (au32_data W0 b3 q0)) (.inl (by kernel_rfl)) (fun _ _ => ?_)
  refine Wr.imp (L' := (pt b3 52 [pv q0, iv 0]) :: (storeW q0 tl5_6) :: (pt b6 3 [iv 5, iv 3]) :: (sl 3 1 v7 4 [iv 4, iv 5, iv 5, iv 3]) :: (pt b5 87 [iv 3, iv 5, iv 0, Value.slice none 0 0]) :: (slp 87 4 q1 q2 [iv 3, iv 5, iv 0, Value.slice none 0 0]) :: F) (fun _ h => h) ?_
  refine Wr.rebaseS [] ((pt b3 52 [pv q0, iv 0]) :: (storeW q0 tl5_6) :: (pt b6 3 [iv 5, iv 3]) :: (pt b5 87 [iv 3, iv 5, iv 0, Value.slice none 0 0]) :: (slp 87 4 q1 q2 [iv 3, iv 5, iv 0, Value.slice none 0 0]) :: []) (by kernel_rfl) ?_
  refine Wr.e 9 (by kernel_rfl) rfl (e_buildSlice (cs := [iv 6, iv 5]) se_31 zo_3 (by decide) (by decide) (by kernel_rfl)) (.inr fun _ _ _ h => st_take [1, 1, 1, 2, 2] h) (fun b8 _ => ?_)
  refine Wr.more (S' := (pt b8 3 [iv 6, iv 5]) :: (pt b3 52 [pv q0, iv 0]) :: (storeW q0 tl5_6) :: (pt b6 3 [iv 5, iv 3]) :: (pt b5 87 [iv 3, iv 5, iv 0, Value.slice none 0 0]) :: (slp 87 4 q1 q2 [iv 3, iv 5, iv 0, Value.slice none 0 0]) :: []) (fun _ h => st_drop h) ?_
  refine Wr.e 10 (by kernel_rfl) rfl (e_append (i := 4) (k := 1) (m := 2) (off := 0) (news := [iv 6, iv 5]) Tryd.underlying31 sz_3 by_3 zo_3 rfl rfl rfl rfl rfl (Has.of_pt (i := 0) rfl rfl) rfl (by decide) (by simp only [maxLen]; omega) (by omega)) (.inr fun _ _ _ h => st_take [0, 0, 0, 0, 1, 1] h) (fun v9 _ => ?_)
  refine Wr.imp (L' := (pt b8 3 [iv 6, iv 5]) :: (pt b3 52 [pv q0, iv 0]) :: (storeW q0 tl5_6) :: (pt b6 3 [iv 5, iv 3]) :: (sl 3 1 v9 6 [iv 4, iv 5, iv 5, iv 3, iv 6, iv 5]) :: (pt b5 87 [iv 3, iv 5, iv 0, Value.slice none 0 0]) :: (slp 87 4 q1 q2 [iv 3, iv 5, iv 0, Value.slice none 0 0]) :: F) (fun _ h => h) ?_
  refine Wr.pure (v := v9) 11 rfl (by kernel_rfl) (.inr (fun _ h => st_take [0, 0, 0, 0, 1, 1] h)) (.inl ⟨rfl, fun _ => q_assign rfl⟩) ?_
  refine Wr.done (by kernel_rfl) ?_
  refine Wx.go ?_
  refine Wc.seq ?_
  refine Wc.imp (L' := (pt b3 52 [pv q0, iv 0]) :: (storeW q0 tl5_6) :: (sl 3 1 v9 6 [iv 4, iv 5, iv 5, iv 3, iv 6, iv 5]) :: (pt b5 87 [iv 3, iv 5, iv 0, Value.slice none 0 0]) :: (slp 87 4 q1 q2 [iv 3, iv 5, iv 0, Value.slice none 0 0]) :: F) (fun w hs => (st_drop (st_drop (st_pull [0, 2] hs)))) ?_
  refine Wc.region ?_
  refine Wl.q (v := Value.pointer (some ⟨b5, 3, none⟩)) (q_field (m := 3) fo_87_3 rfl rfl) ?_
  refine Wl.q (v := Value.slice none 0 0) (q_load sc_31 rfl (.cel (i := 3) rfl rfl)) ?_
  refine Wl.q (v := iv 0) (q_len_slice Tryd.underlying31 rfl) ?_
  refine Wl.q (v := iv 0) (q_move rfl) ?_
  refine Wl.done ?_
  refine Wx.go ?_
  refine Wc.block ?_
  refine Wc.rounds 64 ?_
  refine Wn.round ?_
  refine Wc.imp (L' := (pt b3 52 [pv q0, iv 0]) :: (storeW q0 tl5_6) :: (sl 3 1 v9 6 [iv 4, iv 5, iv 5, iv 3, iv 6, iv 5]) :: (slp 87 4 q1 q2 [iv 3, iv 5, iv 0, Value.slice none 0 0]) :: F) (fun w hs => (st_drop (st_pull [3] hs))) ?_
  refine Wc.seq ?_
  refine Wc.region ?_
  refine Wl.q (v := Value.bool false) (q_lss (r := false) rfl rfl (decide_eq_false (by decide))) ?_
  refine Wl.done ?_
  refine Wx.go ?_
  refine Wc.seq ?_
  refine Wc.no rfl ?_
  refine Wc.exit ?_
  refine Wx.thenExit ?_
  refine Wx.thenExit ?_
  refine Wx.out ?_
  refine Wx.blockEnd ?_
  refine Wx.go ?_
  refine Wc.region ?_
  refine Wl.q (v := iv 1) (q_add (c := 1) rfl rfl (by decide)) ?_
  refine Wl.q (v := iv 1) (q_move rfl) ?_
  refine Wl.done ?_
  refine Wx.again ?_
  refine Wn.round ?_
  refine Wc.seq ?_
  refine Wc.region ?_
  refine Wl.q (v := Value.bool false) (q_lss (r := false) rfl rfl (decide_eq_false (by decide))) ?_
  refine Wl.done ?_
  refine Wx.go ?_
  refine Wc.seq ?_
  refine Wc.no rfl ?_
  refine Wc.exit ?_
  refine Wx.thenExit ?_
  refine Wx.thenExit ?_
  refine Wx.out ?_
  refine Wx.go ?_
  refine Wc.seq ?_
  refine Wc.seq ?_
  refine Wc.region ?_
  refine Wl.q (v := pv b3) (q_move rfl) ?_
  refine Wl.q (v := pv b3) (q_nil_ptr rfl) ?_
  refine Wl.q (v := Value.pointer (some ⟨b3, 1, none⟩)) (q_field (m := 1) fo_52_1 rfl rfl) ?_
  refine Wl.q (v := iv 0) (q_load sc_34 rfl (.cel (i := 0) rfl rfl)) ?_
  refine Wl.q (v := Value.bool false) (q_neq (r := true) rfl rfl (decide_eq_true (by decide))) ?_
  refine Wl.done ?_
  refine Wx.go ?_
  refine Wc.no rfl ?_
  refine Wc.skip ?_
  refine Wx.go ?_
  refine Wc.seq ?_
  refine Wc.region ?_
  refine Wl.q (v := pv q0) (q_move rfl) ?_
  refine Wl.q (v := v9) (q_move rfl) ?_
  refine Wl.imp (L' := (storeW q0 tl5_6) :: (sl 3 1 v9 6 [iv 4, iv 5, iv 5, iv 3, iv 6, iv 5]) :: (pt b3 52 [pv q0, iv 0]) :: (slp 87 4 q1 q2 [iv 3, iv 5, iv 0, Value.slice none 0 0]) :: F) (fun _ h => st_pull [1, 1] h) ?_
  refine Wl.e (e_call (F := (pt b3 52 [pv q0, iv 0]) :: (slp 87 4 q1 q2 [iv 3, iv 5, iv 0, Value.slice none 0 0]) :: F) (args := [pv q0, v9]) Tryd.call29 rfl (au34_List W0 q0 v9)) (fun _ _ => ?_)
  refine Wl.imp (L' := (storeW q0 tl10_11) :: (sl 3 1 v9 6 [iv 4, iv 5, iv 5, iv 3, iv 6, iv 5]) :: (pt b3 52 [pv q0, iv 0]) :: (slp 87 4 q1 q2 [iv 3, iv 5, iv 0, Value.slice none 0 0]) :: F) (fun _ h => h) ?_
  refine Wl.q (v := Value.tuple #[iv 11, iv 0]) (q_move rfl) ?_
  refine Wl.q (v := iv 11) (q_extract (i := 0) rfl rfl) ?_
  refine Wl.q (v := iv 0) (q_extract (i := 1) rfl rfl) ?_
  refine Wl.q (v := iv 11) (q_assign rfl) ?_
  refine Wl.q (v := iv 0) (q_assign rfl) ?_
  refine Wl.done ?_
  refine Wx.go ?_
  refine Wc.seq ?_
  refine Wc.seq ?_
  refine Wc.imp (L' := (storeW q0 tl10_11) :: (slp 87 4 q1 q2 [iv 3, iv 5, iv 0, Value.slice none 0 0]) :: F) (fun w hs => (st_drop (st_drop (st_pull [1, 1] hs)))) ?_
  refine Wc.region ?_
  refine Wl.q (v := iv 0) (q_move rfl) ?_
  refine Wl.q (v := Value.bool false) (q_neq (r := true) rfl rfl (decide_eq_true (by decide))) ?_
  refine Wl.done ?_
  refine Wx.go ?_
  refine Wc.no rfl ?_
  refine Wc.skip ?_
  refine Wx.go ?_
  refine Wc.seq ?_
  refine Wc.region ?_
  refine Wl.q (v := pv q0) (q_move rfl) ?_
  refine Wl.q (v := iv 11) (q_move rfl) ?_
  refine Wl.q (v := Value.agg #[Value.int .u8 7, iv 0, iv 11, iv 0]) (q_build (pl := [(0, 1), (1, 1), (2, 1), (3, 1)]) Tryd.underlying29 zo_29 (by kernel_rfl) (by kernel_rfl)) ?_
  refine Wl.e (e_call (F := (slp 87 4 q1 q2 [iv 3, iv 5, iv 0, Value.slice none 0 0]) :: F) (args := [pv q0, Value.agg #[Value.int .u8 7, iv 0, iv 11, iv 0]]) Tryd.call12 rfl (make_w W0 q0 tl10_11 tl11_12 ⟨7, 0, 11, 0⟩ 12 12 0 (by unfold okT; decide) (by decide +kernel) rfl)) (fun _ _ => ?_)
  refine Wl.imp (L' := (storeW q0 tl11_12) :: (slp 87 4 q1 q2 [iv 3, iv 5, iv 0, Value.slice none 0 0]) :: F) (fun _ h => h) ?_
  refine Wl.q (v := iv 12) (q_extract (i := 0) rfl rfl) ?_
  refine Wl.q (v := iv 0) (q_extract (i := 1) rfl rfl) ?_
  refine Wl.q (v := iv 12) (q_assign rfl) ?_
  refine Wl.q (v := iv 0) (q_assign rfl) ?_
  refine Wl.done ?_
  refine Wx.go ?_
  refine Wc.ret ?_
  refine Wx.fin2 rfl (.inl rfl) (fun w hs => ?_)
  have hs : st W0 w ((storeW q0 tl11_12) :: (slp 87 4 q1 q2 [iv 3, iv 5, iv 0, Value.slice none 0 0]) :: F) := hs
  exact ⟨(), trivial, rfl, hs⟩

set_option maxRecDepth 8000 in
set_option maxHeartbeats 4000000 in
theorem au37_List (W0 : World) (q0 : Nat)  :
    Con Tryd.prog W0 29 #[pv q0, Value.slice none 0 0] [storeW q0 tl11_12] (X := Unit) (fun _ => True) (fun _ => Value.tuple #[iv 0, iv 0]) (fun _ => [storeW q0 tl11_12]) := by
  refine Con.of (args := [pv q0, Value.slice none 0 0]) Tryd.func29 rfl Tryd.ntmps29 rfl (fun F => ?_)
  show Wc _ W0 _ _ _ _ _ ((storeW q0 tl11_12) :: F)
  refine Wc.seq ?_
  refine Wc.region ?_
  refine Wl.q (v := iv 0) (q_assign rfl) ?_
  refine Wl.q (v := iv 0) (q_assign rfl) ?_
  refine Wl.done ?_
  refine Wx.go ?_
  refine Wc.seq ?_
  refine Wc.seq ?_
  refine Wc.region ?_
  refine Wl.q (v := pv q0) (q_move rfl) ?_
  refine Wl.e (e_call (F := F) (args := [pv q0]) Tryd.call26 rfl (made_w W0 q0 tl11_12)) (fun _ _ => ?_)
  refine Wl.imp (L' := (storeW q0 tl11_12) :: F) (fun _ h => h) ?_
  refine Wl.q (v := Value.bool false) (q_not rfl rfl) ?_
  refine Wl.done ?_
  refine Wx.go ?_
  refine Wc.no rfl ?_
  refine Wc.skip ?_
  refine Wx.go ?_
  refine Wc.seq ?_
  refine Wc.seq ?_
  refine Wc.region ?_
  refine Wl.q (v := Value.slice none 0 0) (q_move rfl) ?_
  refine Wl.q (v := iv 0) (q_len_slice Tryd.underlying31 rfl) ?_
  refine Wl.q (v := iv 0) (q_move rfl) ?_
  refine Wl.done ?_
  refine Wx.go ?_
  refine Wc.block ?_
  refine Wc.rounds 64 ?_
  refine Wn.round ?_
  refine Wc.seq ?_
  refine Wc.region ?_
  refine Wl.q (v := Value.bool false) (q_lss (r := false) rfl rfl (decide_eq_false (by decide))) ?_
  refine Wl.done ?_
  refine Wx.go ?_
  refine Wc.seq ?_
  refine Wc.no rfl ?_
  refine Wc.exit ?_
  refine Wx.thenExit ?_
  refine Wx.thenExit ?_
  refine Wx.out ?_
  refine Wx.go ?_
  refine Wc.seq ?_
  refine Wc.seq ?_
  refine Wc.region ?_
  refine Wl.q (v := Value.slice none 0 0) (q_move rfl) ?_
  refine Wl.q (v := iv 0) (q_len_slice Tryd.underlying31 rfl) ?_
  refine Wl.q (v := Value.bool true) (q_eql (r := true) rfl rfl (decide_eq_true (by decide))) ?_
  refine Wl.done ?_
  refine Wx.go ?_
  refine Wc.yes rfl ?_
  refine Wc.seq ?_
  refine Wc.region ?_
  refine Wl.q (v := iv 0) (q_assign rfl) ?_
  refine Wl.q (v := iv 0) (q_assign rfl) ?_
  refine Wl.done ?_
  refine Wx.go ?_
  refine Wc.ret ?_
  refine Wx.thenRet ?_
  refine Wx.fin2 rfl (.inl rfl) (fun w hs => ?_)
  have hs : st W0 w ((storeW q0 tl11_12) :: F) := hs
  exact ⟨(), trivial, rfl, hs⟩

set_option maxRecDepth 8000 in
set_option maxHeartbeats 4000000 in
theorem au36_alive (W0 : World) (q0 : Nat)  :
    Con Tryd.prog W0 14 #[pv q0] [storeW q0 tl11_12] (X := Unit) (fun _ => True) (fun _ => Value.bool true) (fun _ => [storeW q0 tl11_12]) := by
  refine Con.of (args := [pv q0]) Tryd.func14 rfl Tryd.ntmps14 rfl (fun F => ?_)
  show Wc _ W0 _ _ _ _ _ ((storeW q0 tl11_12) :: F)
  refine Wc.seq ?_
  refine Wc.region ?_
  refine Wl.q (v := Value.bool false) (q_assign rfl) ?_
  refine Wl.done ?_
  refine Wx.go ?_
  refine Wc.seq ?_
  refine Wc.region ?_
  refine Wl.q (v := pv q0) (q_move rfl) ?_
  refine Wl.e (e_call (F := F) (args := [pv q0, Value.slice none 0 0]) Tryd.call29 rfl (au37_List W0 q0)) (fun _ _ => ?_)
  refine Wl.imp (L' := (storeW q0 tl11_12) :: F) (fun _ h => h) ?_
  refine Wl.q (v := Value.tuple #[iv 0, iv 0]) (q_move rfl) ?_
  refine Wl.q (v := iv 0) (q_extract (i := 0) rfl rfl) ?_
  refine Wl.q (v := iv 0) (q_extract (i := 1) rfl rfl) ?_
  refine Wl.q (v := iv 0) (q_assign rfl) ?_
  refine Wl.q (v := iv 0) (q_assign rfl) ?_
  refine Wl.done ?_
  refine Wx.go ?_
  refine Wc.seq ?_
  refine Wc.region ?_
  refine Wl.q (v := iv 0) (q_move rfl) ?_
  refine Wl.q (v := Value.bool true) (q_neq (r := false) rfl rfl (decide_eq_false (by decide))) ?_
  refine Wl.q (v := Value.bool true) (q_assign rfl) ?_
  refine Wl.done ?_
  refine Wx.go ?_
  refine Wc.ret ?_
  refine Wx.fin1 rfl (.inl rfl) (fun w hs => ?_)
  have hs : st W0 w ((storeW q0 tl11_12) :: F) := hs
  exact ⟨(), trivial, rfl, hs⟩

set_option maxRecDepth 8000 in
set_option maxHeartbeats 4000000 in
theorem au38_there (W0 : World) (q0 : Nat)  :
    Con Tryd.prog W0 15 #[pv q0, iv 1] [storeW q0 tl11_12] (X := Unit) (fun _ => True) (fun _ => Value.bool true) (fun _ => [storeW q0 tl11_12]) := by
  refine Con.of (args := [pv q0, iv 1]) Tryd.func15 rfl Tryd.ntmps15 rfl (fun F => ?_)
  show Wc _ W0 _ _ _ _ _ ((storeW q0 tl11_12) :: F)
  refine Wc.seq ?_
  refine Wc.region ?_
  refine Wl.q (v := Value.bool false) (q_assign rfl) ?_
  refine Wl.done ?_
  refine Wx.go ?_
  refine Wc.seq ?_
  refine Wc.region ?_
  refine Wl.q (v := pv q0) (q_move rfl) ?_
  refine Wl.q (v := iv 1) (q_move rfl) ?_
  refine Wl.e (e_call (F := F) (args := [pv q0, iv 1]) Tryd.call30 rfl (get_w W0 q0 tl11_12 1 ⟨1, 1, 0, 0⟩ (by decide) rfl)) (fun _ _ => ?_)
  refine Wl.imp (L' := (storeW q0 tl11_12) :: F) (fun _ h => h) ?_
  refine Wl.q (v := Value.tuple #[Value.agg #[Value.int .u8 1, iv 1, iv 0, iv 0], Value.bool true]) (q_move rfl) ?_
  refine Wl.q (v := Value.agg #[Value.int .u8 1, iv 1, iv 0, iv 0]) (q_extract (i := 0) rfl rfl) ?_
  refine Wl.q (v := Value.bool true) (q_extract (i := 1) rfl rfl) ?_
  refine Wl.e (e_alloc (vs := [Value.int .u8 0, iv 0, iv 0, iv 0]) zo_29 rfl) (fun b1 _ => ?_)
  refine Wl.e (e_storeAgg (i := 0) (vs := [Value.int .u8 1, iv 1, iv 0, iv 0]) (c' := [Value.int .u8 1, iv 1, iv 0, iv 0]) sz_29 rfl rfl rfl rfl (by simp) rfl) (fun _ _ => ?_)
  refine Wl.imp (L' := (pt b1 29 [Value.int .u8 1, iv 1, iv 0, iv 0]) :: (storeW q0 tl11_12) :: F) (fun _ h => h) ?_
  refine Wl.q (v := Value.bool true) (q_assign rfl) ?_
  refine Wl.done ?_
  refine Wx.go ?_
  refine Wc.seq ?_
  refine Wc.region ?_
  refine Wl.q (v := Value.bool true) (q_move rfl) ?_
  refine Wl.q (v := Value.bool true) (q_assign rfl) ?_
  refine Wl.done ?_
  refine Wx.go ?_
  refine Wc.ret ?_
  refine Wx.fin1 rfl (.inl rfl) (fun w hs => ?_)
  have hs : st W0 w ((storeW q0 tl11_12) :: F) := (st_drop (st_pull [0] hs))
  exact ⟨(), trivial, rfl, hs⟩

set_option maxRecDepth 8000 in
set_option maxHeartbeats 4000000 in
theorem au39_there (W0 : World) (q0 : Nat)  :
    Con Tryd.prog W0 15 #[pv q0, iv 2] [storeW q0 tl11_12] (X := Unit) (fun _ => True) (fun _ => Value.bool true) (fun _ => [storeW q0 tl11_12]) := by
  refine Con.of (args := [pv q0, iv 2]) Tryd.func15 rfl Tryd.ntmps15 rfl (fun F => ?_)
  show Wc _ W0 _ _ _ _ _ ((storeW q0 tl11_12) :: F)
  refine Wc.seq ?_
  refine Wc.region ?_
  refine Wl.q (v := Value.bool false) (q_assign rfl) ?_
  refine Wl.done ?_
  refine Wx.go ?_
  refine Wc.seq ?_
  refine Wc.region ?_
  refine Wl.q (v := pv q0) (q_move rfl) ?_
  refine Wl.q (v := iv 2) (q_move rfl) ?_
  refine Wl.e (e_call (F := F) (args := [pv q0, iv 2]) Tryd.call30 rfl (get_w W0 q0 tl11_12 2 ⟨1, 2, 0, 0⟩ (by decide) rfl)) (fun _ _ => ?_)
  refine Wl.imp (L' := (storeW q0 tl11_12) :: F) (fun _ h => h) ?_
  refine Wl.q (v := Value.tuple #[Value.agg #[Value.int .u8 1, iv 2, iv 0, iv 0], Value.bool true]) (q_move rfl) ?_
  refine Wl.q (v := Value.agg #[Value.int .u8 1, iv 2, iv 0, iv 0]) (q_extract (i := 0) rfl rfl) ?_
  refine Wl.q (v := Value.bool true) (q_extract (i := 1) rfl rfl) ?_
  refine Wl.e (e_alloc (vs := [Value.int .u8 0, iv 0, iv 0, iv 0]) zo_29 rfl) (fun b1 _ => ?_)
  refine Wl.e (e_storeAgg (i := 0) (vs := [Value.int .u8 1, iv 2, iv 0, iv 0]) (c' := [Value.int .u8 1, iv 2, iv 0, iv 0]) sz_29 rfl rfl rfl rfl (by simp) rfl) (fun _ _ => ?_)
  refine Wl.imp (L' := (pt b1 29 [Value.int .u8 1, iv 2, iv 0, iv 0]) :: (storeW q0 tl11_12) :: F) (fun _ h => h) ?_
  refine Wl.q (v := Value.bool true) (q_assign rfl) ?_
  refine Wl.done ?_
  refine Wx.go ?_
  refine Wc.seq ?_
  refine Wc.region ?_
  refine Wl.q (v := Value.bool true) (q_move rfl) ?_
  refine Wl.q (v := Value.bool true) (q_assign rfl) ?_
  refine Wl.done ?_
  refine Wx.go ?_
  refine Wc.ret ?_
  refine Wx.fin1 rfl (.inl rfl) (fun w hs => ?_)
  have hs : st W0 w ((storeW q0 tl11_12) :: F) := (st_drop (st_pull [0] hs))
  exact ⟨(), trivial, rfl, hs⟩

set_option maxRecDepth 8000 in
set_option maxHeartbeats 4000000 in
theorem au40_there (W0 : World) (q0 : Nat)  :
    Con Tryd.prog W0 15 #[pv q0, iv 12] [storeW q0 tl11_12] (X := Unit) (fun _ => True) (fun _ => Value.bool true) (fun _ => [storeW q0 tl11_12]) := by
  refine Con.of (args := [pv q0, iv 12]) Tryd.func15 rfl Tryd.ntmps15 rfl (fun F => ?_)
  show Wc _ W0 _ _ _ _ _ ((storeW q0 tl11_12) :: F)
  refine Wc.seq ?_
  refine Wc.region ?_
  refine Wl.q (v := Value.bool false) (q_assign rfl) ?_
  refine Wl.done ?_
  refine Wx.go ?_
  refine Wc.seq ?_
  refine Wc.region ?_
  refine Wl.q (v := pv q0) (q_move rfl) ?_
  refine Wl.q (v := iv 12) (q_move rfl) ?_
  refine Wl.e (e_call (F := F) (args := [pv q0, iv 12]) Tryd.call30 rfl (get_w W0 q0 tl11_12 12 ⟨7, 0, 11, 0⟩ (by decide) rfl)) (fun _ _ => ?_)
  refine Wl.imp (L' := (storeW q0 tl11_12) :: F) (fun _ h => h) ?_
  refine Wl.q (v := Value.tuple #[Value.agg #[Value.int .u8 7, iv 0, iv 11, iv 0], Value.bool true]) (q_move rfl) ?_
  refine Wl.q (v := Value.agg #[Value.int .u8 7, iv 0, iv 11, iv 0]) (q_extract (i := 0) rfl rfl) ?_
  refine Wl.q (v := Value.bool true) (q_extract (i := 1) rfl rfl) ?_
  refine Wl.e (e_alloc (vs := [Value.int .u8 0, iv 0, iv 0, iv 0]) zo_29 rfl) (fun b1 _ => ?_)
  refine Wl.e (e_storeAgg (i := 0) (vs := [Value.int .u8 7, iv 0, iv 11, iv 0]) (c' := [Value.int .u8 7, iv 0, iv 11, iv 0]) sz_29 rfl rfl rfl rfl (by simp) rfl) (fun _ _ => ?_)
  refine Wl.imp (L' := (pt b1 29 [Value.int .u8 7, iv 0, iv 11, iv 0]) :: (storeW q0 tl11_12) :: F) (fun _ h => h) ?_
  refine Wl.q (v := Value.bool true) (q_assign rfl) ?_
  refine Wl.done ?_
  refine Wx.go ?_
  refine Wc.seq ?_
  refine Wc.region ?_
  refine Wl.q (v := Value.bool true) (q_move rfl) ?_
  refine Wl.q (v := Value.bool true) (q_assign rfl) ?_
  refine Wl.done ?_
  refine Wx.go ?_
  refine Wc.ret ?_
  refine Wx.fin1 rfl (.inl rfl) (fun w hs => ?_)
  have hs : st W0 w ((storeW q0 tl11_12) :: F) := (st_drop (st_pull [0] hs))
  exact ⟨(), trivial, rfl, hs⟩

def tl12_13 : List TermR := [⟨1, 1, 0, 0⟩, ⟨1, 2, 0, 0⟩, ⟨5, 0, 1, 0⟩, ⟨2, 4, 0, 0⟩, ⟨2, 0, 0, 0⟩, ⟨2, 5, 0, 0⟩, ⟨3, 0, 6, 5⟩, ⟨3, 0, 3, 7⟩, ⟨3, 0, 5, 8⟩, ⟨3, 0, 5, 9⟩, ⟨3, 0, 4, 10⟩, ⟨7, 0, 11, 0⟩, ⟨3, 0, 1, 2⟩]

set_option maxRecDepth 8000 in
set_option maxHeartbeats 4000000 in
theorem au41_make (W0 : World) (q0 : Nat) (q1 : Nat)  :
    Con Tryd.prog W0 17 #[pv q0, Value.agg #[Value.int .u8 3, iv 0, iv 1, iv 2]] [pt q0 52 [pv q1, iv 0], storeW q1 tl11_12] (X := Unit) (fun _ => True) (fun _ => iv 13) (fun _ => [pt q0 52 [pv q1, iv 0], storeW q1 tl12_13]) := by
  refine Con.of (args := [pv q0, Value.agg #[Value.int .u8 3, iv 0, iv 1, iv 2]]) Tryd.func17 rfl Tryd.ntmps17 rfl (fun F => ?_)
  show Wc _ W0 _ _ _ _ _ ((pt q0 52 [pv q1, iv 0]) :: (storeW q1 tl11_12) :: F)
  refine Wc.seq ?_
  refine Wc.region ?_
  refine Wl.e (e_box (x := .tmp 1) (vs := [Value.int .u8 3, iv 0, iv 1, iv 2]) rfl) (fun b1 _ => ?_)
  refine Wl.q (v := iv 0) (q_assign rfl) ?_
  refine Wl.done ?_
  refine Wx.go ?_
  refine Wc.seq ?_
  refine Wc.seq ?_
  refine Wc.region ?_
  refine Wl.q (v := pv q0) (q_move rfl) ?_
  refine Wl.q (v := pv q0) (q_nil_ptr rfl) ?_
  refine Wl.q (v := Value.pointer (some ⟨q0, 1, none⟩)) (q_field (m := 1) fo_52_1 rfl rfl) ?_
  refine Wl.q (v := iv 0) (q_load sc_34 rfl (.cel (i := 1) rfl rfl)) ?_
  refine Wl.q (v := Value.bool false) (q_neq (r := true) rfl rfl (decide_eq_true (by decide))) ?_
  refine Wl.done ?_
  refine Wx.go ?_
  refine Wc.no rfl ?_
  refine Wc.skip ?_
  refine Wx.go ?_
  refine Wc.seq ?_
  refine Wc.drawsS [5] ((pt b1 29 [Value.int .u8 3, iv 0, iv 1, iv 2]) :: (pt q0 52 [pv q1, iv 0]) :: (storeW q1 tl11_12) :: []) (by kernel_rfl) ?_
  refine Wr.pure (v := pv q0) 0 rfl (by kernel_rfl) (.inr (fun _ h => st_take [0, 0, 0] h)) (.inl ⟨rfl, fun _ => q_move rfl⟩) ?_
  refine Wr.pure (v := pv q0) 1 rfl (by kernel_rfl) (.inr (fun _ h => st_take [0, 0, 0] h)) (.inl ⟨rfl, fun _ => q_nil_ptr rfl⟩) ?_
  refine Wr.pure (v := pv q0) 2 rfl (by kernel_rfl) (.inr (fun _ h => st_take [0, 0, 0] h)) (.inl ⟨rfl, fun _ => q_field (m := 0) fo_52_0 rfl rfl⟩) ?_
  refine Wr.take (v := pv q1) 3 rfl (by kernel_rfl) (fun _ h => st_take [0, 0, 0] h) (.inl ⟨rfl, q_load sc_23 rfl (.cel (i := 1) rfl rfl)⟩) ?_
  refine Wr.take (v := Value.agg #[Value.int .u8 3, iv 0, iv 1, iv 2]) 4 rfl (by kernel_rfl) (fun _ h => st_take [0, 0, 0] h) (.inl ⟨rfl, q_loadAgg (vs := [Value.int .u8 3, iv 0, iv 1, iv 2]) ag_29 rfl (Has.of_pt (i := 0) rfl rfl)⟩) ?_
  refine Wr.imp (L' := (storeW q1 tl11_12) :: (pt b1 29 [Value.int .u8 3, iv 0, iv 1, iv 2]) :: (pt q0 52 [pv q1, iv 0]) :: F) (fun _ h => st_pull [2] h) ?_
  refine Wr.e 5 (by kernel_rfl) rfl (e_call (F := (pt b1 29 [Value.int .u8 3, iv 0, iv 1, iv 2]) :: (pt q0 52 [pv q1, iv 0]) :: F) (args := [pv q1, Value.agg #[Value.int .u8 3, iv 0, iv 1, iv 2]]) Tryd.call12 rfl (make_w W0 q1 tl11_12 tl12_13 ⟨3, 0, 1, 2⟩ 13 13 0 (by unfold okT; decide) (by decide +kernel) rfl)) (.inl (by kernel_rfl)) (fun _ _ => ?_)
  refine Wr.imp (L' := (storeW q1 tl12_13) :: (pt b1 29 [Value.int .u8 3, iv 0, iv 1, iv 2]) :: (pt q0 52 [pv q1, iv 0]) :: F) (fun _ h => h) ?_
  refine Wr.rebaseS [] ((storeW q1 tl12_13) :: (pt b1 29 [Value.int .u8 3, iv 0, iv 1, iv 2]) :: (pt q0 52 [pv q1, iv 0]) :: []) (by kernel_rfl) ?_
  refine Wr.pure (v := Value.tuple #[iv 13, iv 0]) 6 rfl (by kernel_rfl) (.inr (fun _ h => st_take [0, 0, 0] h)) (.inl ⟨rfl, fun _ => q_move rfl⟩) ?_
  refine Wr.pure (v := iv 13) 7 rfl (by kernel_rfl) (.inr (fun _ h => st_take [0, 0, 0] h)) (.inl ⟨rfl, fun _ => q_extract (i := 0) rfl rfl⟩) ?_
  refine Wr.pure (v := iv 0) 8 rfl (by kernel_rfl) (.inr (fun _ h => st_take [0, 0, 0] h)) (.inl ⟨rfl, fun _ => q_extract (i := 1) rfl rfl⟩) ?_
  refine Wr.pure (v := iv 13) 9 rfl (by kernel_rfl) (.inr (fun _ h => st_take [0, 0, 0] h)) (.inl ⟨rfl, fun _ => q_assign rfl⟩) ?_
  refine Wr.pure (v := iv 0) 10 rfl (by kernel_rfl) (.inr (fun _ h => st_take [0, 0, 0] h)) (.inl ⟨rfl, fun _ => q_assign rfl⟩) ?_
  refine Wr.done (by kernel_rfl) ?_
  refine Wx.go ?_
  refine Wc.seq ?_
  refine Wc.region ?_
  refine Wl.q (v := pv q0) (q_move rfl) ?_
  refine Wl.q (v := iv 0) (q_move rfl) ?_
  refine Wl.q (v := pv q0) (q_nil_ptr rfl) ?_
  refine Wl.q (v := Value.pointer (some ⟨q0, 1, none⟩)) (q_field (m := 1) fo_52_1 rfl rfl) ?_
  refine Wl.e (e_store (i := 2) (v := iv 0) sz_34 rfl rfl (fun _ _ => rfl) rfl (by simp)) (fun _ _ => ?_)
  refine Wl.imp (L' := (storeW q1 tl12_13) :: (pt b1 29 [Value.int .u8 3, iv 0, iv 1, iv 2]) :: (pt q0 52 [pv q1, iv 0]) :: F) (fun _ h => h) ?_
  refine Wl.done ?_
  refine Wx.go ?_
  refine Wc.seq ?_
  refine Wc.region ?_
  refine Wl.q (v := iv 13) (q_move rfl) ?_
  refine Wl.q (v := iv 13) (q_assign rfl) ?_
  refine Wl.done ?_
  refine Wx.go ?_
  refine Wc.ret ?_
  refine Wx.fin1 rfl (.inl rfl) (fun w hs => ?_)
  have hs : st W0 w ((pt q0 52 [pv q1, iv 0]) :: (storeW q1 tl12_13) :: F) := (st_pull [1, 0] (st_drop (st_pull [1] hs)))
  exact ⟨(), trivial, rfl, hs⟩

def tl13_14 : List TermR := [⟨1, 1, 0, 0⟩, ⟨1, 2, 0, 0⟩, ⟨5, 0, 1, 0⟩, ⟨2, 4, 0, 0⟩, ⟨2, 0, 0, 0⟩, ⟨2, 5, 0, 0⟩, ⟨3, 0, 6, 5⟩, ⟨3, 0, 3, 7⟩, ⟨3, 0, 5, 8⟩, ⟨3, 0, 5, 9⟩, ⟨3, 0, 4, 10⟩, ⟨7, 0, 11, 0⟩, ⟨3, 0, 1, 2⟩, ⟨4, 3, 13, 0⟩]

set_option maxRecDepth 8000 in
set_option maxHeartbeats 4000000 in
theorem au43_make (W0 : World) (q0 : Nat) (q1 : Nat)  :
    Con Tryd.prog W0 17 #[pv q0, Value.agg #[Value.int .u8 4, iv 3, iv 13, iv 0]] [pt q0 52 [pv q1, iv 0], storeW q1 tl12_13] (X := Unit) (fun _ => True) (fun _ => iv 14) (fun _ => [pt q0 52 [pv q1, iv 0], storeW q1 tl13_14]) := by
  refine Con.of (args := [pv q0, Value.agg #[Value.int .u8 4, iv 3, iv 13, iv 0]]) Tryd.func17 rfl Tryd.ntmps17 rfl (fun F => ?_)
  show Wc _ W0 _ _ _ _ _ ((pt q0 52 [pv q1, iv 0]) :: (storeW q1 tl12_13) :: F)
  refine Wc.seq ?_
  refine Wc.region ?_
  refine Wl.e (e_box (x := .tmp 1) (vs := [Value.int .u8 4, iv 3, iv 13, iv 0]) rfl) (fun b1 _ => ?_)
  refine Wl.q (v := iv 0) (q_assign rfl) ?_
  refine Wl.done ?_
  refine Wx.go ?_
  refine Wc.seq ?_
  refine Wc.seq ?_
  refine Wc.region ?_
  refine Wl.q (v := pv q0) (q_move rfl) ?_
  refine Wl.q (v := pv q0) (q_nil_ptr rfl) ?_
  refine Wl.q (v := Value.pointer (some ⟨q0, 1, none⟩)) (q_field (m := 1) fo_52_1 rfl rfl) ?_
  refine Wl.q (v := iv 0) (q_load sc_34 rfl (.cel (i := 1) rfl rfl)) ?_
  refine Wl.q (v := Value.bool false) (q_neq (r := true) rfl rfl (decide_eq_true (by decide))) ?_
  refine Wl.done ?_
  refine Wx.go ?_
  refine Wc.no rfl ?_
  refine Wc.skip ?_
  refine Wx.go ?_
  refine Wc.seq ?_
  refine Wc.drawsS [5] ((pt b1 29 [Value.int .u8 4, iv 3, iv 13, iv 0]) :: (pt q0 52 [pv q1, iv 0]) :: (storeW q1 tl12_13) :: []) (by kernel_rfl) ?_
  refine Wr.pure (v := pv q0) 0 rfl (by kernel_rfl) (.inr (fun _ h => st_take [0, 0, 0] h)) (.inl ⟨rfl, fun _ => q_move rfl⟩) ?_
  refine Wr.pure (v := pv q0) 1 rfl (by kernel_rfl) (.inr (fun _ h => st_take [0, 0, 0] h)) (.inl ⟨rfl, fun _ => q_nil_ptr rfl⟩) ?_
  refine Wr.pure (v := pv q0) 2 rfl (by kernel_rfl) (.inr (fun _ h => st_take [0, 0, 0] h)) (.inl ⟨rfl, fun _ => q_field (m := 0) fo_52_0 rfl rfl⟩) ?_
  refine Wr.take (v := pv q1) 3 rfl (by kernel_rfl) (fun _ h => st_take [0, 0, 0] h) (.inl ⟨rfl, q_load sc_23 rfl (.cel (i := 1) rfl rfl)⟩) ?_
  refine Wr.take (v := Value.agg #[Value.int .u8 4, iv 3, iv 13, iv 0]) 4 rfl (by kernel_rfl) (fun _ h => st_take [0, 0, 0] h) (.inl ⟨rfl, q_loadAgg (vs := [Value.int .u8 4, iv 3, iv 13, iv 0]) ag_29 rfl (Has.of_pt (i := 0) rfl rfl)⟩) ?_
  refine Wr.imp (L' := (storeW q1 tl12_13) :: (pt b1 29 [Value.int .u8 4, iv 3, iv 13, iv 0]) :: (pt q0 52 [pv q1, iv 0]) :: F) (fun _ h => st_pull [2] h) ?_
  refine Wr.e 5 (by kernel_rfl) rfl (e_call (F := (pt b1 29 [Value.int .u8 4, iv 3, iv 13, iv 0]) :: (pt q0 52 [pv q1, iv 0]) :: F) (args := [pv q1, Value.agg #[Value.int .u8 4, iv 3, iv 13, iv 0]]) Tryd.call12 rfl (make_w W0 q1 tl12_13 tl13_14 ⟨4, 3, 13, 0⟩ 14 14 0 (by unfold okT; decide) (by decide +kernel) rfl)) (.inl (by kernel_rfl)) (fun _ _ => ?_)
  refine Wr.imp (L' := (storeW q1 tl13_14) :: (pt b1 29 [Value.int .u8 4, iv 3, iv 13, iv 0]) :: (pt q0 52 [pv q1, iv 0]) :: F) (fun _ h => h) ?_
  refine Wr.rebaseS [] ((storeW q1 tl13_14) :: (pt b1 29 [Value.int .u8 4, iv 3, iv 13, iv 0]) :: (pt q0 52 [pv q1, iv 0]) :: []) (by kernel_rfl) ?_
  refine Wr.pure (v := Value.tuple #[iv 14, iv 0]) 6 rfl (by kernel_rfl) (.inr (fun _ h => st_take [0, 0, 0] h)) (.inl ⟨rfl, fun _ => q_move rfl⟩) ?_
  refine Wr.pure (v := iv 14) 7 rfl (by kernel_rfl) (.inr (fun _ h => st_take [0, 0, 0] h)) (.inl ⟨rfl, fun _ => q_extract (i := 0) rfl rfl⟩) ?_
  refine Wr.pure (v := iv 0) 8 rfl (by kernel_rfl) (.inr (fun _ h => st_take [0, 0, 0] h)) (.inl ⟨rfl, fun _ => q_extract (i := 1) rfl rfl⟩) ?_
  refine Wr.pure (v := iv 14) 9 rfl (by kernel_rfl) (.inr (fun _ h => st_take [0, 0, 0] h)) (.inl ⟨rfl, fun _ => q_assign rfl⟩) ?_
  refine Wr.pure (v := iv 0) 10 rfl (by kernel_rfl) (.inr (fun _ h => st_take [0, 0, 0] h)) (.inl ⟨rfl, fun _ => q_assign rfl⟩) ?_
  refine Wr.done (by kernel_rfl) ?_
  refine Wx.go ?_
  refine Wc.seq ?_
  refine Wc.region ?_
  refine Wl.q (v := pv q0) (q_move rfl) ?_
  refine Wl.q (v := iv 0) (q_move rfl) ?_
  refine Wl.q (v := pv q0) (q_nil_ptr rfl) ?_
  refine Wl.q (v := Value.pointer (some ⟨q0, 1, none⟩)) (q_field (m := 1) fo_52_1 rfl rfl) ?_
  refine Wl.e (e_store (i := 2) (v := iv 0) sz_34 rfl rfl (fun _ _ => rfl) rfl (by simp)) (fun _ _ => ?_)
  refine Wl.imp (L' := (storeW q1 tl13_14) :: (pt b1 29 [Value.int .u8 4, iv 3, iv 13, iv 0]) :: (pt q0 52 [pv q1, iv 0]) :: F) (fun _ h => h) ?_
  refine Wl.done ?_
  refine Wx.go ?_
  refine Wc.seq ?_
  refine Wc.region ?_
  refine Wl.q (v := iv 14) (q_move rfl) ?_
  refine Wl.q (v := iv 14) (q_assign rfl) ?_
  refine Wl.done ?_
  refine Wx.go ?_
  refine Wc.ret ?_
  refine Wx.fin1 rfl (.inl rfl) (fun w hs => ?_)
  have hs : st W0 w ((pt q0 52 [pv q1, iv 0]) :: (storeW q1 tl13_14) :: F) := (st_pull [1, 0] (st_drop (st_pull [1] hs)))
  exact ⟨(), trivial, rfl, hs⟩

end Go.Proofs.YtoehhbapilfdbaaDoor
