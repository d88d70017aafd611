/- What follows: contracts of the calls. -/
import Derived.Test.YtjjghmkjdgogiaaGreatDoorDdCj
import Derived.Test.YtjjghmkjdgogiaaGreatDoorSLK
import Derived.Test.YtjjghmkjdgogiaaGreatDoorSLA
namespace Go.Proofs.YtjjghmkjdgogiaaGreatDoor
open Go Go.SL Go.Dd Go.RowKit
set_option linter.unusedVariables false
set_option maxRecDepth 8000

def tl0_1 : List TermR := [⟨1, 1, 0, 0⟩]

set_option maxRecDepth 8000 in
set_option maxHeartbeats 4000000 in
theorem la1_Build (W0 : World) (q0 : Nat)  :
  Con Tryz.prog W0 4 #[Value.slice (some ⟨q0, 0, none⟩) 1 1] [pt q0 89 [Value.int .u8 1, iv 1, iv 0, iv 0]] (X := Nat × Nat) (fun _ => True) (fun y => Value.tuple #[Value.pointer (some ⟨y.1, 0, none⟩), Value.pointer (some ⟨y.2, 0, none⟩), Value.bool true]) (fun y => [pt q0 89 [Value.int .u8 1, iv 1, iv 0, iv 0], storeW y.1 tl0_1, refW y.2 tl0_1]) := by
 refine Con.of (args := [Value.slice (some ⟨q0, 0, none⟩) 1 1]) Tryz.func4 rfl Tryz.ntmps4 rfl (fun F => ?_)
 show Wc _ W0 _ _ _ _ _ ((pt q0 89 [Value.int .u8 1, iv 1, iv 0, iv 0]) :: F)
 refine Wc.seq ?_
 refine Wc.region ?_
 refine Wl.q (v := Value.pointer none) (q_assign rfl) ?_
 refine Wl.q (v := Value.pointer none) (q_assign rfl) ?_
 refine Wl.q (v := Value.bool false) (q_assign rfl) ?_
 refine Wl.done ?_
 refine Wx.go ?_
 refine Wc.seq ?_
 refine Wc.region ?_
 refine Wl.e (e_call (F := (pt q0 89 [Value.int .u8 1, iv 1, iv 0, iv 0]) :: F) (args := []) Tryz.call16 rfl (tnew_w W0)) (fun s1 _ => ?_)
 refine Wl.imp (L' := (storeW s1 []) :: (pt q0 89 [Value.int .u8 1, iv 1, iv 0, iv 0]) :: F) (fun _ h => h) ?_
 refine Wl.q (v := pv s1) (q_assign rfl) ?_
 refine Wl.done ?_
 refine Wx.go ?_
 refine Wc.seq ?_
 refine Wc.region ?_
 refine Wl.e (e_call (F := (storeW s1 []) :: (pt q0 89 [Value.int .u8 1, iv 1, iv 0, iv 0]) :: F) (args := []) Tryz.call17 rfl (rtnew_w W0)) (fun s2 _ => ?_)
 refine Wl.imp (L' := (refW s2 []) :: (storeW s1 []) :: (pt q0 89 [Value.int .u8 1, iv 1, iv 0, iv 0]) :: F) (fun _ h => h) ?_
 refine Wl.q (v := pv s2) (q_assign rfl) ?_
 refine Wl.done ?_
 refine Wx.go ?_
 refine Wc.seq ?_
 refine Wc.seq ?_
 refine Wc.region ?_
 refine Wl.q (v := iv 0) (q_assign rfl) ?_
 refine Wl.done ?_
 refine Wx.go ?_
 refine Wc.block ?_
 refine Wc.rounds 64 ?_
 refine Wn.round ?_
 refine Wc.seq ?_
 refine Wc.seq ?_
 refine Wc.region ?_
 refine Wl.q (v := iv 0) (q_move rfl) ?_
 refine Wl.q (v := Value.slice (some ⟨q0, 0, none⟩) 1 1) (q_move rfl) ?_
 refine Wl.q (v := iv 1) (q_len_slice Tryz.underlying22 rfl) ?_
 refine Wl.q (v := Value.bool true) (q_lss (r := true) rfl rfl (decide_eq_true (by decide))) ?_
 refine Wl.done ?_
 refine Wx.go ?_
 refine Wc.yes rfl ?_
 refine Wc.skip ?_
 refine Wx.go ?_
 refine Wc.seq ?_
 refine Wc.block ?_
 refine Wc.seq ?_
 refine Wc.region ?_
 refine Wl.q (v := pv s1) (q_move rfl) ?_
 refine Wl.q (v := Value.slice (some ⟨q0, 0, none⟩) 1 1) (q_move rfl) ?_
 refine Wl.q (v := iv 0) (q_move rfl) ?_
 refine Wl.q (v := pv q0) (q_idx (m := 0) se_22 rfl rfl (by omega) (by omega) rfl) ?_
 refine Wl.q (v := Value.agg #[Value.int .u8 1, iv 1, iv 0, iv 0]) (q_loadAgg (vs := [Value.int .u8 1, iv 1, iv 0, iv 0]) ag_89 rfl (Has.of_pt (i := 2) rfl rfl)) ?_
 refine Wl.imp (L' := (storeW s1 []) :: (refW s2 []) :: (pt q0 89 [Value.int .u8 1, iv 1, iv 0, iv 0]) :: F) (fun _ h => st_pull [1] h) ?_
 refine Wl.e (e_call (F := (refW s2 []) :: (pt q0 89 [Value.int .u8 1, iv 1, iv 0, iv 0]) :: F) (args := [pv s1, Value.agg #[Value.int .u8 1, iv 1, iv 0, iv 0]]) Tryz.call18 rfl (make_w W0 s1 [] tl0_1 ⟨1, 1, 0, 0⟩ 1 1 0 (by unfold okT; decide) (by decide +kernel) rfl)) (fun _ _ => ?_)
 refine Wl.imp (L' := (storeW s1 tl0_1) :: (refW s2 []) :: (pt q0 89 [Value.int .u8 1, iv 1, iv 0, iv 0]) :: F) (fun _ h => h) ?_
 refine Wl.q (v := Value.tuple #[iv 1, iv 0]) (q_move rfl) ?_
 refine Wl.q (v := iv 1) (q_extract (i := 0) rfl rfl) ?_
 refine Wl.q (v := iv 0) (q_extract (i := 1) rfl rfl) ?_
 refine Wl.q (v := iv 1) (q_assign rfl) ?_
 refine Wl.q (v := iv 0) (q_assign rfl) ?_
 refine Wl.done ?_
 refine Wx.go ?_
 refine Wc.seq ?_
 refine Wc.region ?_
 refine Wl.q (v := pv s2) (q_move rfl) ?_
 refine Wl.q (v := Value.slice (some ⟨q0, 0, none⟩) 1 1) (q_move rfl) ?_
 refine Wl.q (v := iv 0) (q_move rfl) ?_
 refine Wl.q (v := pv q0) (q_idx (m := 0) se_22 rfl rfl (by omega) (by omega) rfl) ?_
 refine Wl.q (v := Value.agg #[Value.int .u8 1, iv 1, iv 0, iv 0]) (q_loadAgg (vs := [Value.int .u8 1, iv 1, iv 0, iv 0]) ag_89 rfl (Has.of_pt (i := 2) rfl rfl)) ?_
 refine Wl.imp (L' := (refW s2 []) :: (storeW s1 tl0_1) :: (pt q0 89 [Value.int .u8 1, iv 1, iv 0, iv 0]) :: F) (fun _ h => st_pull [1] h) ?_
 refine Wl.e (e_call (F := (storeW s1 tl0_1) :: (pt q0 89 [Value.int .u8 1, iv 1, iv 0, iv 0]) :: F) (args := [pv s2, Value.agg #[Value.int .u8 1, iv 1, iv 0, iv 0]]) Tryz.call19 rfl (rmake_w W0 s2 [] tl0_1 ⟨1, 1, 0, 0⟩ 1 1 0 (by unfold okT; decide) (by decide +kernel) rfl)) (fun _ _ => ?_)
 refine Wl.imp (L' := (refW s2 tl0_1) :: (storeW s1 tl0_1) :: (pt q0 89 [Value.int .u8 1, iv 1, iv 0, iv 0]) :: F) (fun _ h => h) ?_
 refine Wl.q (v := Value.tuple #[iv 1, iv 0]) (q_move rfl) ?_
 refine Wl.q (v := iv 1) (q_extract (i := 0) rfl rfl) ?_
 refine Wl.q (v := iv 0) (q_extract (i := 1) rfl rfl) ?_
 refine Wl.q (v := iv 1) (q_assign rfl) ?_
 refine Wl.q (v := iv 0) (q_assign rfl) ?_
 refine Wl.done ?_
 refine Wx.go ?_
 refine Wc.seq ?_
 refine Wc.region ?_
 refine Wl.q (v := iv 1) (q_move rfl) ?_
 refine Wl.q (v := iv 1) (q_move rfl) ?_
 refine Wl.q (v := Value.bool false) (q_neq (r := true) rfl rfl (decide_eq_true (by decide))) ?_
 refine Wl.q (v := Value.bool false) (q_move rfl) ?_
 refine Wl.q (v := iv 0) (q_move rfl) ?_
 refine Wl.q (v := iv 0) (q_move rfl) ?_
 refine Wl.q (v := Value.bool false) (q_neq (r := true) rfl rfl (decide_eq_true (by decide))) ?_
 refine Wl.q (v := Value.bool false) (q_pick (t := false) rfl rfl) ?_
 refine Wl.done ?_
 refine Wx.go ?_
 refine Wc.no rfl ?_
 refine Wc.skip ?_
 refine Wx.blockEnd ?_
 refine Wx.go ?_
 refine Wc.region ?_
 refine Wl.q (v := iv 0) (q_move rfl) ?_
 refine Wl.q (v := iv 1) (q_add (c := 1) rfl rfl (by decide)) ?_
 refine Wl.q (v := iv 1) (q_assign rfl) ?_
 refine Wl.done ?_
 refine Wx.again ?_
 refine Wn.round ?_
 refine Wc.seq ?_
 refine Wc.seq ?_
 refine Wc.region ?_
 refine Wl.q (v := iv 1) (q_move rfl) ?_
 refine Wl.q (v := Value.slice (some ⟨q0, 0, none⟩) 1 1) (q_move rfl) ?_
 refine Wl.q (v := iv 1) (q_len_slice Tryz.underlying22 rfl) ?_
 refine Wl.q (v := Value.bool false) (q_lss (r := false) rfl rfl (decide_eq_false (by decide))) ?_
 refine Wl.done ?_
 refine Wx.go ?_
 refine Wc.no rfl ?_
 refine Wc.exit ?_
 refine Wx.thenExit ?_
 refine Wx.thenExit ?_
 refine Wx.out ?_
 refine Wx.go ?_
 refine Wc.seq ?_
 refine Wc.region ?_
 refine Wl.q (v := pv s1) (q_move rfl) ?_
 refine Wl.q (v := pv s2) (q_move rfl) ?_
 refine Wl.q (v := pv s1) (q_move rfl) ?_
 refine Wl.q (v := Value.bool true) (q_neq_nil (r := false) rfl rfl Tryz.underlying24 rfl) ?_
 refine Wl.q (v := pv s1) (q_assign rfl) ?_
 refine Wl.q (v := pv s2) (q_assign rfl) ?_
 refine Wl.q (v := Value.bool true) (q_assign rfl) ?_
 refine Wl.done ?_
 refine Wx.go ?_
 refine Wc.ret ?_
 refine Wx.fin3 rfl (.inl rfl) (fun w hs => ?_)
 have hs : st W0 w ((pt q0 89 [Value.int .u8 1, iv 1, iv 0, iv 0]) :: (storeW s1 tl0_1) :: (refW s2 tl0_1) :: F) := (st_pull [2, 1, 0] (hs))
 exact ⟨(s1, s2), trivial, rfl, hs⟩

theorem lives_c (W0 : World)  :
  Con Tryz.prog W0 9 #[] [] (X := Unit) (fun _ => True) (fun _ => .bool true) (fun _ => []) := by
 refine Con.of (args := []) Tryz.func9 rfl Tryz.ntmps9 rfl (fun F => ?_)
 show Wc _ W0 _ _ _ _ _ (F)
 refine Wc.seq ?_
 refine Wc.region ?_
 refine Wl.q (v := Value.bool false) (q_assign rfl) ?_
 refine Wl.done ?_
 refine Wx.go ?_
 refine Wc.seq ?_
 refine Wc.region ?_
 refine Wl.q (v := Value.agg #[Value.int .u8 1, Value.int .i64 1, Value.int .i64 0, Value.int .i64 0]) (q_build (pl := [(0, 1), (1, 1), (2, 1), (3, 1)]) Tryz.underlying89 zo_89 (by kernel_rfl) (by kernel_rfl)) ?_
 refine Wl.e (e_buildSlice (cs := [Value.int .u8 1, Value.int .i64 1, Value.int .i64 0, Value.int .i64 0]) se_22 zo_89 (by decide) (by decide) (by kernel_rfl)) (fun b1 _ => ?_)
 refine Wl.imp (L' := (pt b1 89 [Value.int .u8 1, Value.int .i64 1, Value.int .i64 0, Value.int .i64 0]) :: F) (fun _ h => h) ?_
 refine Wl.e (e_call (F := F) (args := [Value.slice (some ⟨b1, 0, none⟩) 1 1]) Tryz.call4 rfl (la1_Build W0 b1)) (fun ⟨b2, b3⟩ _ => ?_)
 refine Wl.imp (L' := (pt b1 89 [Value.int .u8 1, Value.int .i64 1, Value.int .i64 0, Value.int .i64 0]) :: (storeW b2 lvT) :: (refW b3 tl0_1) :: F) (fun _ h => h) ?_
 refine Wl.q (v := Value.tuple #[Value.pointer (some ⟨b2, 0, none⟩), Value.pointer (some ⟨b3, 0, none⟩), Value.bool true]) (q_move rfl) ?_
 refine Wl.q (v := Value.pointer (some ⟨b2, 0, none⟩)) (q_extract (i := 0) rfl rfl) ?_
 refine Wl.q (v := Value.pointer (some ⟨b3, 0, none⟩)) (q_extract (i := 1) rfl rfl) ?_
 refine Wl.q (v := Value.bool true) (q_extract (i := 2) rfl rfl) ?_
 refine Wl.q (v := Value.pointer (some ⟨b2, 0, none⟩)) (q_assign rfl) ?_
 refine Wl.q (v := Value.pointer (some ⟨b3, 0, none⟩)) (q_assign rfl) ?_
 refine Wl.q (v := Value.bool true) (q_assign rfl) ?_
 refine Wl.done ?_
 refine Wx.go ?_
 refine Wc.seq ?_
 refine Wc.region ?_
 refine Wl.q (v := Value.pointer (some ⟨b2, 0, none⟩)) (q_move rfl) ?_
 refine Wl.imp (L' := (storeW b2 lvT) :: (pt b1 89 [Value.int .u8 1, Value.int .i64 1, Value.int .i64 0, Value.int .i64 0]) :: (refW b3 tl0_1) :: F) (fun _ h => st_pull [1] h) ?_
 refine Wl.e (e_call (F := (pt b1 89 [Value.int .u8 1, Value.int .i64 1, Value.int .i64 0, Value.int .i64 0]) :: (refW b3 tl0_1) :: F) (args := [Value.pointer (some ⟨b2, 0, none⟩), Value.int .i64 1, Value.int .i64 9]) Tryz.call5 rfl (new_s W0 b2 lvT 1 9 lvT_wf (by decide) (by unfold i64R; omega) (by decide))) (fun ⟨c, mb⟩ _ => ?_)
 refine Wl.imp (L' := (pt c 39 [Value.pointer (some ⟨b2, 0, none⟩), Value.int .i64 ((lvS.z : Nat) : Int), Value.int .i64 ((lvS.nx : Nat) : Int), Value.map (some mb)]) :: (mp mb (leftV lvS.left)) :: (storeW b2 lvS.ts) :: (pt b1 89 [Value.int .u8 1, Value.int .i64 1, Value.int .i64 0, Value.int .i64 0]) :: (refW b3 tl0_1) :: F) (fun _ h => h) ?_
 refine Wl.q (v := Value.tuple #[Value.pointer (some ⟨c, 0, none⟩), Value.int .i64 0]) (q_move rfl) ?_
 refine Wl.q (v := Value.pointer (some ⟨c, 0, none⟩)) (q_extract (i := 0) rfl rfl) ?_
 refine Wl.q (v := Value.int .i64 0) (q_extract (i := 1) rfl rfl) ?_
 refine Wl.q (v := Value.pointer (some ⟨c, 0, none⟩)) (q_assign rfl) ?_
 refine Wl.q (v := Value.int .i64 0) (q_assign rfl) ?_
 refine Wl.done ?_
 refine Wx.go ?_
 refine Wc.seq ?_
 refine Wc.seq ?_
 refine Wc.region ?_
 refine Wl.q (v := Value.bool true) (q_move rfl) ?_
 refine Wl.q (v := Value.bool false) (q_not rfl rfl) ?_
 refine Wl.q (v := Value.bool false) (q_move rfl) ?_
 refine Wl.q (v := Value.int .i64 0) (q_move rfl) ?_
 refine Wl.q (v := Value.bool false) (q_neq (r := true) rfl rfl (decide_eq_true (by decide))) ?_
 refine Wl.q (v := Value.bool false) (q_pick (t := false) rfl rfl) ?_
 refine Wl.q (v := Value.bool false) (q_move rfl) ?_
 refine Wl.q (v := Value.pointer (some ⟨c, 0, none⟩)) (q_move rfl) ?_
 refine Wl.q (v := Value.bool false) (q_eql_nil (r := false) rfl rfl Tryz.underlying28 rfl) ?_
 refine Wl.q (v := Value.bool false) (q_pick (t := false) rfl rfl) ?_
 refine Wl.done ?_
 refine Wx.go ?_
 refine Wc.no rfl ?_
 refine Wc.skip ?_
 refine Wx.go ?_
 refine Wc.seq ?_
 refine Wc.region ?_
 refine Wl.q (v := Value.pointer (some ⟨c, 0, none⟩)) (q_move rfl) ?_
 refine Wl.e (e_call (F := (pt b1 89 [Value.int .u8 1, Value.int .i64 1, Value.int .i64 0, Value.int .i64 0]) :: (refW b3 tl0_1) :: F) (args := [Value.pointer (some ⟨c, 0, none⟩), Value.int .i64 1]) Tryz.call7 rfl (take_w W0 c mb b2 lvS lv0 (by decide) 1 (by unfold i64R; omega))) (fun _ _ => ?_)
 refine Wl.imp (L' := (pt c 39 [Value.pointer (some ⟨b2, 0, none⟩), Value.int .i64 (((takeR lvS 1).1.z : Nat) : Int), Value.int .i64 (((takeR lvS 1).1.nx : Nat) : Int), Value.map (some mb)]) :: (mp mb (leftV ((takeR lvS 1).1.left))) :: (storeW b2 ((takeR lvS 1).1.ts)) :: (pt b1 89 [Value.int .u8 1, Value.int .i64 1, Value.int .i64 0, Value.int .i64 0]) :: (refW b3 tl0_1) :: F) (fun _ h => h) ?_
 refine Wl.q (v := Value.tuple #[Value.int .i64 (((takeR lvS 1).2.1 : Nat) : Int), Value.int .i64 (((takeR lvS 1).2.2 : Nat) : Int)]) (q_move rfl) ?_
 refine Wl.q (v := Value.int .i64 (((takeR lvS 1).2.1 : Nat) : Int)) (q_extract (i := 0) rfl rfl) ?_
 refine Wl.q (v := Value.int .i64 (((takeR lvS 1).2.2 : Nat) : Int)) (q_extract (i := 1) rfl rfl) ?_
 refine Wl.q (v := Value.int .i64 (((takeR lvS 1).2.1 : Nat) : Int)) (q_assign rfl) ?_
 refine Wl.q (v := Value.int .i64 (((takeR lvS 1).2.2 : Nat) : Int)) (q_assign rfl) ?_
 refine Wl.done ?_
 refine Wx.go ?_
 refine Wc.seq ?_
 refine Wc.region ?_
 refine Wl.q (v := Value.pointer (some ⟨c, 0, none⟩)) (q_move rfl) ?_
 refine Wl.e (e_call (F := (pt b1 89 [Value.int .u8 1, Value.int .i64 1, Value.int .i64 0, Value.int .i64 0]) :: (refW b3 tl0_1) :: F) (args := [Value.pointer (some ⟨c, 0, none⟩), Value.int .i64 0]) Tryz.call7 rfl (take_w W0 c mb b2 ((takeR lvS 1).1) lv1 (by decide) 0 (by unfold i64R; omega))) (fun _ _ => ?_)
 refine Wl.imp (L' := (pt c 39 [Value.pointer (some ⟨b2, 0, none⟩), Value.int .i64 (((takeR ((takeR lvS 1).1) 0).1.z : Nat) : Int), Value.int .i64 (((takeR ((takeR lvS 1).1) 0).1.nx : Nat) : Int), Value.map (some mb)]) :: (mp mb (leftV ((takeR ((takeR lvS 1).1) 0).1.left))) :: (storeW b2 ((takeR ((takeR lvS 1).1) 0).1.ts)) :: (pt b1 89 [Value.int .u8 1, Value.int .i64 1, Value.int .i64 0, Value.int .i64 0]) :: (refW b3 tl0_1) :: F) (fun _ h => h) ?_
 refine Wl.q (v := Value.tuple #[Value.int .i64 (((takeR ((takeR lvS 1).1) 0).2.1 : Nat) : Int), Value.int .i64 (((takeR ((takeR lvS 1).1) 0).2.2 : Nat) : Int)]) (q_move rfl) ?_
 refine Wl.q (v := Value.int .i64 (((takeR ((takeR lvS 1).1) 0).2.1 : Nat) : Int)) (q_extract (i := 0) rfl rfl) ?_
 refine Wl.q (v := Value.int .i64 (((takeR ((takeR lvS 1).1) 0).2.2 : Nat) : Int)) (q_extract (i := 1) rfl rfl) ?_
 refine Wl.q (v := Value.int .i64 (((takeR ((takeR lvS 1).1) 0).2.1 : Nat) : Int)) (q_assign rfl) ?_
 refine Wl.q (v := Value.int .i64 (((takeR ((takeR lvS 1).1) 0).2.2 : Nat) : Int)) (q_assign rfl) ?_
 refine Wl.done ?_
 refine Wx.go ?_
 refine Wc.seq ?_
 refine Wc.region ?_
 refine Wl.q (v := Value.pointer (some ⟨c, 0, none⟩)) (q_move rfl) ?_
 refine Wl.e (e_call (F := (pt b1 89 [Value.int .u8 1, Value.int .i64 1, Value.int .i64 0, Value.int .i64 0]) :: (refW b3 tl0_1) :: F) (args := [Value.pointer (some ⟨c, 0, none⟩), Value.int .i64 0]) Tryz.call7 rfl (take_w W0 c mb b2 ((takeR ((takeR lvS 1).1) 0).1) lv2 (by decide) 0 (by unfold i64R; omega))) (fun _ _ => ?_)
 refine Wl.imp (L' := (pt c 39 [Value.pointer (some ⟨b2, 0, none⟩), Value.int .i64 (((takeR ((takeR ((takeR lvS 1).1) 0).1) 0).1.z : Nat) : Int), Value.int .i64 (((takeR ((takeR ((takeR lvS 1).1) 0).1) 0).1.nx : Nat) : Int), Value.map (some mb)]) :: (mp mb (leftV ((takeR ((takeR ((takeR lvS 1).1) 0).1) 0).1.left))) :: (storeW b2 ((takeR ((takeR ((takeR lvS 1).1) 0).1) 0).1.ts)) :: (pt b1 89 [Value.int .u8 1, Value.int .i64 1, Value.int .i64 0, Value.int .i64 0]) :: (refW b3 tl0_1) :: F) (fun _ h => h) ?_
 refine Wl.q (v := Value.tuple #[Value.int .i64 (((takeR ((takeR ((takeR lvS 1).1) 0).1) 0).2.1 : Nat) : Int), Value.int .i64 (((takeR ((takeR ((takeR lvS 1).1) 0).1) 0).2.2 : Nat) : Int)]) (q_move rfl) ?_
 refine Wl.q (v := Value.int .i64 (((takeR ((takeR ((takeR lvS 1).1) 0).1) 0).2.1 : Nat) : Int)) (q_extract (i := 0) rfl rfl) ?_
 refine Wl.q (v := Value.int .i64 (((takeR ((takeR ((takeR lvS 1).1) 0).1) 0).2.2 : Nat) : Int)) (q_extract (i := 1) rfl rfl) ?_
 refine Wl.q (v := Value.int .i64 (((takeR ((takeR ((takeR lvS 1).1) 0).1) 0).2.1 : Nat) : Int)) (q_assign rfl) ?_
 refine Wl.q (v := Value.int .i64 (((takeR ((takeR ((takeR lvS 1).1) 0).1) 0).2.2 : Nat) : Int)) (q_assign rfl) ?_
 refine Wl.done ?_
 refine Wx.go ?_
 refine Wc.seq ?_
 refine Wc.region ?_
 refine Wl.q (v := Value.pointer (some ⟨b2, 0, none⟩)) (q_move rfl) ?_
 refine Wl.imp (L' := (storeW b2 ((takeR ((takeR ((takeR lvS 1).1) 0).1) 0).1.ts)) :: (pt c 39 [Value.pointer (some ⟨b2, 0, none⟩), Value.int .i64 (((takeR ((takeR ((takeR lvS 1).1) 0).1) 0).1.z : Nat) : Int), Value.int .i64 (((takeR ((takeR ((takeR lvS 1).1) 0).1) 0).1.nx : Nat) : Int), Value.map (some mb)]) :: (mp mb (leftV ((takeR ((takeR ((takeR lvS 1).1) 0).1) 0).1.left))) :: (pt b1 89 [Value.int .u8 1, Value.int .i64 1, Value.int .i64 0, Value.int .i64 0]) :: (refW b3 tl0_1) :: F) (fun _ h => st_pull [2] h) ?_
 refine Wl.e (e_call (F := (pt c 39 [Value.pointer (some ⟨b2, 0, none⟩), Value.int .i64 (((takeR ((takeR ((takeR lvS 1).1) 0).1) 0).1.z : Nat) : Int), Value.int .i64 (((takeR ((takeR ((takeR lvS 1).1) 0).1) 0).1.nx : Nat) : Int), Value.map (some mb)]) :: (mp mb (leftV ((takeR ((takeR ((takeR lvS 1).1) 0).1) 0).1.left))) :: (pt b1 89 [Value.int .u8 1, Value.int .i64 1, Value.int .i64 0, Value.int .i64 0]) :: (refW b3 tl0_1) :: F) (args := [Value.pointer (some ⟨b2, 0, none⟩), Value.int .i64 1, Value.int .i64 9, Value.int .i64 0]) Tryz.call26 rfl (key_w W0 b2 ((takeR ((takeR ((takeR lvS 1).1) 0).1) 0).1.ts) 1 9 0 lv3.ok.wf (by have := lv3.ok.pos; omega) (by unfold i64R; omega) (by omega) (by have := lv_l; omega))) (fun _ _ => ?_)
 refine Wl.imp (L' := (storeW b2 ((keyF (chainR ((takeR ((takeR ((takeR lvS 1).1) 0).1) 0).1.ts) 1 9 0)).1)) :: (pt c 39 [Value.pointer (some ⟨b2, 0, none⟩), Value.int .i64 (((takeR ((takeR ((takeR lvS 1).1) 0).1) 0).1.z : Nat) : Int), Value.int .i64 (((takeR ((takeR ((takeR lvS 1).1) 0).1) 0).1.nx : Nat) : Int), Value.map (some mb)]) :: (mp mb (leftV ((takeR ((takeR ((takeR lvS 1).1) 0).1) 0).1.left))) :: (pt b1 89 [Value.int .u8 1, Value.int .i64 1, Value.int .i64 0, Value.int .i64 0]) :: (refW b3 tl0_1) :: F) (fun _ h => h) ?_
 refine Wl.q (v := Value.tuple #[Value.int .i64 (((keyF (chainR ((takeR ((takeR ((takeR lvS 1).1) 0).1) 0).1.ts) 1 9 0)).2 : Nat) : Int), Value.int .i64 0]) (q_move rfl) ?_
 refine Wl.q (v := Value.int .i64 (((keyF (chainR ((takeR ((takeR ((takeR lvS 1).1) 0).1) 0).1.ts) 1 9 0)).2 : Nat) : Int)) (q_extract (i := 0) rfl rfl) ?_
 refine Wl.q (v := Value.int .i64 0) (q_extract (i := 1) rfl rfl) ?_
 refine Wl.q (v := Value.int .i64 (((keyF (chainR ((takeR ((takeR ((takeR lvS 1).1) 0).1) 0).1.ts) 1 9 0)).2 : Nat) : Int)) (q_assign rfl) ?_
 refine Wl.q (v := Value.int .i64 0) (q_assign rfl) ?_
 refine Wl.done ?_
 refine Wx.go ?_
 refine Wc.seq ?_
 refine Wc.region ?_
 refine Wl.q (v := Value.int .i64 (((takeR lvS 1).2.2 : Nat) : Int)) (q_move rfl) ?_
 refine Wl.q (v := Value.bool true) (q_eql (r := true) rfl rfl (decide_eq_true (congrArg Int.ofNat lv_f))) ?_
 refine Wl.q (v := Value.bool true) (q_move rfl) ?_
 refine Wl.q (v := Value.int .i64 (((takeR ((takeR lvS 1).1) 0).2.2 : Nat) : Int)) (q_move rfl) ?_
 refine Wl.q (v := Value.bool true) (q_eql (r := true) rfl rfl (decide_eq_true (congrArg Int.ofNat lv_g))) ?_
 refine Wl.q (v := Value.bool true) (q_pick (t := true) rfl rfl) ?_
 refine Wl.q (v := Value.bool true) (q_move rfl) ?_
 refine Wl.q (v := Value.int .i64 (((takeR ((takeR ((takeR lvS 1).1) 0).1) 0).2.2 : Nat) : Int)) (q_move rfl) ?_
 refine Wl.q (v := Value.bool true) (q_eql (r := true) rfl rfl (decide_eq_true (congrArg Int.ofNat lv_h))) ?_
 refine Wl.q (v := Value.bool true) (q_pick (t := true) rfl rfl) ?_
 refine Wl.q (v := Value.bool true) (q_move rfl) ?_
 refine Wl.q (v := Value.int .i64 0) (q_move rfl) ?_
 refine Wl.q (v := Value.bool true) (q_eql (r := true) rfl rfl (decide_eq_true (by decide))) ?_
 refine Wl.q (v := Value.bool true) (q_pick (t := true) rfl rfl) ?_
 refine Wl.q (v := Value.bool true) (q_move rfl) ?_
 refine Wl.q (v := Value.int .i64 (((takeR ((takeR lvS 1).1) 0).2.1 : Nat) : Int)) (q_move rfl) ?_
 refine Wl.q (v := Value.int .i64 (((keyF (chainR ((takeR ((takeR ((takeR lvS 1).1) 0).1) 0).1.ts) 1 9 0)).2 : Nat) : Int)) (q_move rfl) ?_
 refine Wl.q (v := Value.bool true) (q_eql (r := true) rfl rfl (decide_eq_true (congrArg Int.ofNat lv_k))) ?_
 refine Wl.q (v := Value.bool true) (q_pick (t := true) rfl rfl) ?_
 refine Wl.q (v := Value.bool true) (q_move rfl) ?_
 refine Wl.q (v := Value.int .i64 (((takeR ((takeR lvS 1).1) 0).2.1 : Nat) : Int)) (q_move rfl) ?_
 refine Wl.q (v := Value.int .i64 (((takeR lvS 1).2.1 : Nat) : Int)) (q_move rfl) ?_
 refine Wl.q (v := Value.bool true) (q_neq (r := false) rfl rfl (decide_eq_false (fun h => lv_ne (Int.ofNat.inj h)))) ?_
 refine Wl.q (v := Value.bool true) (q_pick (t := true) rfl rfl) ?_
 refine Wl.q (v := Value.bool true) (q_move rfl) ?_
 refine Wl.q (v := Value.pointer (some ⟨c, 0, none⟩)) (q_move rfl) ?_
 refine Wl.imp (L' := (pt c 39 [Value.pointer (some ⟨b2, 0, none⟩), Value.int .i64 (((takeR ((takeR ((takeR lvS 1).1) 0).1) 0).1.z : Nat) : Int), Value.int .i64 (((takeR ((takeR ((takeR lvS 1).1) 0).1) 0).1.nx : Nat) : Int), Value.map (some mb)]) :: (mp mb (leftV ((takeR ((takeR ((takeR lvS 1).1) 0).1) 0).1.left))) :: (storeW b2 ((keyF (chainR ((takeR ((takeR ((takeR lvS 1).1) 0).1) 0).1.ts) 1 9 0)).1)) :: (pt b1 89 [Value.int .u8 1, Value.int .i64 1, Value.int .i64 0, Value.int .i64 0]) :: (refW b3 tl0_1) :: F) (fun _ h => st_pull [1, 1] h) ?_
 refine Wl.e (e_call (F := (storeW b2 ((keyF (chainR ((takeR ((takeR ((takeR lvS 1).1) 0).1) 0).1.ts) 1 9 0)).1)) :: (pt b1 89 [Value.int .u8 1, Value.int .i64 1, Value.int .i64 0, Value.int .i64 0]) :: (refW b3 tl0_1) :: F) (args := [Value.pointer (some ⟨c, 0, none⟩)]) Tryz.call8 rfl (has_w W0 c mb b2 ((takeR ((takeR ((takeR lvS 1).1) 0).1) 0).1) lv3.ok (by have := lv3.ll; omega) (by have := lv3.ll; have := lv3.nxc; omega))) (fun hv _ => ?_)
 refine Wl.imp (L' := (sl 3 1 hv ((hasN ((takeR ((takeR ((takeR lvS 1).1) 0).1) 0).1)).length) ((hasN ((takeR ((takeR ((takeR lvS 1).1) 0).1) 0).1)).map natV)) :: (pt c 39 [Value.pointer (some ⟨b2, 0, none⟩), Value.int .i64 (((takeR ((takeR ((takeR lvS 1).1) 0).1) 0).1.z : Nat) : Int), Value.int .i64 (((takeR ((takeR ((takeR lvS 1).1) 0).1) 0).1.nx : Nat) : Int), Value.map (some mb)]) :: (mp mb (leftV ((takeR ((takeR ((takeR lvS 1).1) 0).1) 0).1.left))) :: (storeW b2 ((keyF (chainR ((takeR ((takeR ((takeR lvS 1).1) 0).1) 0).1.ts) 1 9 0)).1)) :: (pt b1 89 [Value.int .u8 1, Value.int .i64 1, Value.int .i64 0, Value.int .i64 0]) :: (refW b3 tl0_1) :: F) (fun _ h => h) ?_
 refine Wl.q (v := Value.int .i64 (((hasN ((takeR ((takeR ((takeR lvS 1).1) 0).1) 0).1)).length : Nat) : Int)) (q_len_sl (i := 0) Tryz.underlying23 rfl rfl) ?_
 refine Wl.q (v := Value.bool true) (q_eql (r := true) rfl rfl (decide_eq_true (congrArg Int.ofNat lv_has))) ?_
 refine Wl.q (v := Value.bool true) (q_pick (t := true) rfl rfl) ?_
 refine Wl.q (v := Value.bool true) (q_assign rfl) ?_
 refine Wl.done ?_
 refine Wx.go ?_
 refine Wc.ret ?_
 refine Wx.fin1 rfl (.inl rfl) (fun w hs => ?_)
 exact ⟨(), trivial, rfl, (st_drop (st_drop (st_drop (st_drop (st_drop (st_drop (st_pull [0, 0, 0, 0, 0, 0] hs)))))))⟩

end Go.Proofs.YtjjghmkjdgogiaaGreatDoor
