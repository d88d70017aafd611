/- What follows: contracts of the calls. -/
import Derived.Test.YtoehhbapilfdbaaDoorDdLv
namespace Go.Proofs.YtoehhbapilfdbaaDoor
open Go Go.SL Go.Dd Go.RowKit
set_option linter.unusedVariables false
set_option maxRecDepth 8000
theorem zo_62 : zeroOf Tryd.prog 62 = some (Value.agg #[Value.int .i64 0, Value.int .i64 0, Value.int .i64 0]) := by kernel_rfl
theorem zo_33 : zeroOf Tryd.prog 33 = some (Value.agg #[Value.int .i64 0, Value.int .i64 0, Value.int .i64 0, Value.int .i64 0, Value.int .i64 0, Value.int .i64 0]) := by kernel_rfl
theorem sz_33 : sizeIs Tryd.prog 33 = some 6 := by kernel_rfl
theorem fo_33_2 : fieldOff Tryd.prog 33 2 = some 2 := by kernel_rfl
theorem zo_81 : zeroOf Tryd.prog 81 = some (Value.agg #[Value.int .i64 0, Value.pointer none]) := by kernel_rfl
theorem fo_33_3 : fieldOff Tryd.prog 33 3 = some 3 := by kernel_rfl
theorem fo_33_4 : fieldOff Tryd.prog 33 4 = some 4 := by kernel_rfl
theorem fo_33_5 : fieldOff Tryd.prog 33 5 = some 5 := by kernel_rfl
theorem se_82 : sliceElem Tryd.prog 82 = some (81, 2) := by kernel_rfl
theorem ag_81 : aggSize Tryd.prog 81 = some 2 := by kernel_rfl
theorem sz_81 : sizeIs Tryd.prog 81 = some 2 := by kernel_rfl
theorem fo_81_1 : fieldOff Tryd.prog 81 1 = some 1 := by kernel_rfl
theorem sc_80 : scalar Tryd.prog 80 = true := by kernel_rfl
theorem fo_81_0 : fieldOff Tryd.prog 81 0 = some 0 := by kernel_rfl
theorem ag_33 : aggSize Tryd.prog 33 = some 6 := by kernel_rfl
theorem fo_33_0 : fieldOff Tryd.prog 33 0 = some 0 := by kernel_rfl
theorem fo_33_1 : fieldOff Tryd.prog 33 1 = some 1 := by kernel_rfl
set_option maxRecDepth 8000 in
set_option maxHeartbeats 4000000 in
theorem au42_kdf (W0 : World) (q0 : Nat) (q1 : Nat)  :
    Con Tryd.prog W0 16 #[pv q0, iv 3, iv 13, iv 0] [pt q0 52 [pv q1, iv 0], storeW q1 tl12_13] (X := Unit) (fun _ => True) (fun _ => iv 14) (fun _ => [pt q0 52 [pv q1, iv 0], storeW q1 tl13_14]) := by
  refine Con.of (args := [pv q0, iv 3, iv 13, iv 0]) Tryd.func16 rfl Tryd.ntmps16 rfl (fun F => ?_)
  show Wc _ W0 _ _ _ _ _ ((pt q0 52 [pv q1, iv 0]) :: (storeW q1 tl12_13) :: F)
  refine Wc.seq ?_
  refine Wc.region ?_
  refine Wl.q (v := iv 0) (q_assign rfl) ?_
  refine Wl.done ?_
  refine Wx.go ?_
  refine Wc.seq ?_
  refine Wc.region ?_
  refine Wl.q (v := pv q0) (q_move rfl) ?_
  refine Wl.q (v := iv 3) (q_move rfl) ?_
  refine Wl.q (v := iv 13) (q_move rfl) ?_
  refine Wl.q (v := iv 0) (q_move rfl) ?_
  refine Wl.q (v := Value.agg #[Value.int .u8 4, iv 3, iv 13, iv 0]) (q_build (pl := [(0, 1), (1, 1), (2, 1), (3, 1)]) Tryd.underlying29 zo_29 (by kernel_rfl) (by kernel_rfl)) ?_
  refine Wl.e (e_call (F := F) (args := [pv q0, Value.agg #[Value.int .u8 4, iv 3, iv 13, iv 0]]) Tryd.call17 rfl (au43_make W0 q0 q1)) (fun _ _ => ?_)
  refine Wl.imp (L' := (pt q0 52 [pv q1, iv 0]) :: (storeW q1 tl13_14) :: F) (fun _ h => h) ?_
  refine Wl.q (v := iv 14) (q_assign rfl) ?_
  refine Wl.done ?_
  refine Wx.go ?_
  refine Wc.ret ?_
  refine Wx.fin1 rfl (.inl rfl) (fun w hs => ?_)
  have hs : st W0 w ((pt q0 52 [pv q1, iv 0]) :: (storeW q1 tl13_14) :: F) := hs
  exact ⟨(), trivial, rfl, hs⟩

set_option maxRecDepth 8000 in
set_option maxHeartbeats 4000000 in
theorem au46_List (W0 : World) (q0 : Nat)  :
    Con Tryd.prog W0 29 #[pv q0, Value.slice none 0 0] [storeW q0 tl13_14] (X := Unit) (fun _ => True) (fun _ => Value.tuple #[iv 0, iv 0]) (fun _ => [storeW q0 tl13_14]) := by
  refine Con.of (args := [pv q0, Value.slice none 0 0]) Tryd.func29 rfl Tryd.ntmps29 rfl (fun F => ?_)
  show Wc _ W0 _ _ _ _ _ ((storeW q0 tl13_14) :: F)
  refine Wc.seq ?_
  refine Wc.region ?_
  refine Wl.q (v := iv 0) (q_assign rfl) ?_
  refine Wl.q (v := iv 0) (q_assign rfl) ?_
  refine Wl.done ?_
  refine Wx.go ?_
  refine Wc.seq ?_
  refine Wc.seq ?_
  refine Wc.region ?_
  refine Wl.q (v := pv q0) (q_move rfl) ?_
  refine Wl.e (e_call (F := F) (args := [pv q0]) Tryd.call26 rfl (made_w W0 q0 tl13_14)) (fun _ _ => ?_)
  refine Wl.imp (L' := (storeW q0 tl13_14) :: F) (fun _ h => h) ?_
  refine Wl.q (v := Value.bool false) (q_not rfl rfl) ?_
  refine Wl.done ?_
  refine Wx.go ?_
  refine Wc.no rfl ?_
  refine Wc.skip ?_
  refine Wx.go ?_
  refine Wc.seq ?_
  refine Wc.seq ?_
  refine Wc.region ?_
  refine Wl.q (v := Value.slice none 0 0) (q_move rfl) ?_
  refine Wl.q (v := iv 0) (q_len_slice Tryd.underlying31 rfl) ?_
  refine Wl.q (v := iv 0) (q_move rfl) ?_
  refine Wl.done ?_
  refine Wx.go ?_
  refine Wc.block ?_
  refine Wc.rounds 64 ?_
  refine Wn.round ?_
  refine Wc.seq ?_
  refine Wc.region ?_
  refine Wl.q (v := Value.bool false) (q_lss (r := false) rfl rfl (decide_eq_false (by decide))) ?_
  refine Wl.done ?_
  refine Wx.go ?_
  refine Wc.seq ?_
  refine Wc.no rfl ?_
  refine Wc.exit ?_
  refine Wx.thenExit ?_
  refine Wx.thenExit ?_
  refine Wx.out ?_
  refine Wx.go ?_
  refine Wc.seq ?_
  refine Wc.seq ?_
  refine Wc.region ?_
  refine Wl.q (v := Value.slice none 0 0) (q_move rfl) ?_
  refine Wl.q (v := iv 0) (q_len_slice Tryd.underlying31 rfl) ?_
  refine Wl.q (v := Value.bool true) (q_eql (r := true) rfl rfl (decide_eq_true (by decide))) ?_
  refine Wl.done ?_
  refine Wx.go ?_
  refine Wc.yes rfl ?_
  refine Wc.seq ?_
  refine Wc.region ?_
  refine Wl.q (v := iv 0) (q_assign rfl) ?_
  refine Wl.q (v := iv 0) (q_assign rfl) ?_
  refine Wl.done ?_
  refine Wx.go ?_
  refine Wc.ret ?_
  refine Wx.thenRet ?_
  refine Wx.fin2 rfl (.inl rfl) (fun w hs => ?_)
  have hs : st W0 w ((storeW q0 tl13_14) :: F) := hs
  exact ⟨(), trivial, rfl, hs⟩

set_option maxRecDepth 8000 in
set_option maxHeartbeats 4000000 in
theorem au45_alive (W0 : World) (q0 : Nat)  :
    Con Tryd.prog W0 14 #[pv q0] [storeW q0 tl13_14] (X := Unit) (fun _ => True) (fun _ => Value.bool true) (fun _ => [storeW q0 tl13_14]) := by
  refine Con.of (args := [pv q0]) Tryd.func14 rfl Tryd.ntmps14 rfl (fun F => ?_)
  show Wc _ W0 _ _ _ _ _ ((storeW q0 tl13_14) :: F)
  refine Wc.seq ?_
  refine Wc.region ?_
  refine Wl.q (v := Value.bool false) (q_assign rfl) ?_
  refine Wl.done ?_
  refine Wx.go ?_
  refine Wc.seq ?_
  refine Wc.region ?_
  refine Wl.q (v := pv q0) (q_move rfl) ?_
  refine Wl.e (e_call (F := F) (args := [pv q0, Value.slice none 0 0]) Tryd.call29 rfl (au46_List W0 q0)) (fun _ _ => ?_)
  refine Wl.imp (L' := (storeW q0 tl13_14) :: F) (fun _ h => h) ?_
  refine Wl.q (v := Value.tuple #[iv 0, iv 0]) (q_move rfl) ?_
  refine Wl.q (v := iv 0) (q_extract (i := 0) rfl rfl) ?_
  refine Wl.q (v := iv 0) (q_extract (i := 1) rfl rfl) ?_
  refine Wl.q (v := iv 0) (q_assign rfl) ?_
  refine Wl.q (v := iv 0) (q_assign rfl) ?_
  refine Wl.done ?_
  refine Wx.go ?_
  refine Wc.seq ?_
  refine Wc.region ?_
  refine Wl.q (v := iv 0) (q_move rfl) ?_
  refine Wl.q (v := Value.bool true) (q_neq (r := false) rfl rfl (decide_eq_false (by decide))) ?_
  refine Wl.q (v := Value.bool true) (q_assign rfl) ?_
  refine Wl.done ?_
  refine Wx.go ?_
  refine Wc.ret ?_
  refine Wx.fin1 rfl (.inl rfl) (fun w hs => ?_)
  have hs : st W0 w ((storeW q0 tl13_14) :: F) := hs
  exact ⟨(), trivial, rfl, hs⟩

set_option maxRecDepth 8000 in
set_option maxHeartbeats 4000000 in
theorem au47_there (W0 : World) (q0 : Nat)  :
    Con Tryd.prog W0 15 #[pv q0, iv 14] [storeW q0 tl13_14] (X := Unit) (fun _ => True) (fun _ => Value.bool true) (fun _ => [storeW q0 tl13_14]) := by
  refine Con.of (args := [pv q0, iv 14]) Tryd.func15 rfl Tryd.ntmps15 rfl (fun F => ?_)
  show Wc _ W0 _ _ _ _ _ ((storeW q0 tl13_14) :: F)
  refine Wc.seq ?_
  refine Wc.region ?_
  refine Wl.q (v := Value.bool false) (q_assign rfl) ?_
  refine Wl.done ?_
  refine Wx.go ?_
  refine Wc.seq ?_
  refine Wc.region ?_
  refine Wl.q (v := pv q0) (q_move rfl) ?_
  refine Wl.q (v := iv 14) (q_move rfl) ?_
  refine Wl.e (e_call (F := F) (args := [pv q0, iv 14]) Tryd.call30 rfl (get_w W0 q0 tl13_14 14 ⟨4, 3, 13, 0⟩ (by decide) rfl)) (fun _ _ => ?_)
  refine Wl.imp (L' := (storeW q0 tl13_14) :: F) (fun _ h => h) ?_
  refine Wl.q (v := Value.tuple #[Value.agg #[Value.int .u8 4, iv 3, iv 13, iv 0], Value.bool true]) (q_move rfl) ?_
  refine Wl.q (v := Value.agg #[Value.int .u8 4, iv 3, iv 13, iv 0]) (q_extract (i := 0) rfl rfl) ?_
  refine Wl.q (v := Value.bool true) (q_extract (i := 1) rfl rfl) ?_
  refine Wl.e (e_alloc (vs := [Value.int .u8 0, iv 0, iv 0, iv 0]) zo_29 rfl) (fun b1 _ => ?_)
  refine Wl.e (e_storeAgg (i := 0) (vs := [Value.int .u8 4, iv 3, iv 13, iv 0]) (c' := [Value.int .u8 4, iv 3, iv 13, iv 0]) sz_29 rfl rfl rfl rfl (by simp) rfl) (fun _ _ => ?_)
  refine Wl.imp (L' := (pt b1 29 [Value.int .u8 4, iv 3, iv 13, iv 0]) :: (storeW q0 tl13_14) :: F) (fun _ h => h) ?_
  refine Wl.q (v := Value.bool true) (q_assign rfl) ?_
  refine Wl.done ?_
  refine Wx.go ?_
  refine Wc.seq ?_
  refine Wc.region ?_
  refine Wl.q (v := Value.bool true) (q_move rfl) ?_
  refine Wl.q (v := Value.bool true) (q_assign rfl) ?_
  refine Wl.done ?_
  refine Wx.go ?_
  refine Wc.ret ?_
  refine Wx.fin1 rfl (.inl rfl) (fun w hs => ?_)
  have hs : st W0 w ((storeW q0 tl13_14) :: F) := (st_drop (st_pull [0] hs))
  exact ⟨(), trivial, rfl, hs⟩

set_option maxRecDepth 8000 in
set_option maxHeartbeats 4000000 in
theorem au48_there (W0 : World) (q0 : Nat)  :
    Con Tryd.prog W0 15 #[pv q0, iv 12] [storeW q0 tl13_14] (X := Unit) (fun _ => True) (fun _ => Value.bool true) (fun _ => [storeW q0 tl13_14]) := by
  refine Con.of (args := [pv q0, iv 12]) Tryd.func15 rfl Tryd.ntmps15 rfl (fun F => ?_)
  show Wc _ W0 _ _ _ _ _ ((storeW q0 tl13_14) :: F)
  refine Wc.seq ?_
  refine Wc.region ?_
  refine Wl.q (v := Value.bool false) (q_assign rfl) ?_
  refine Wl.done ?_
  refine Wx.go ?_
  refine Wc.seq ?_
  refine Wc.region ?_
  refine Wl.q (v := pv q0) (q_move rfl) ?_
  refine Wl.q (v := iv 12) (q_move rfl) ?_
  refine Wl.e (e_call (F := F) (args := [pv q0, iv 12]) Tryd.call30 rfl (get_w W0 q0 tl13_14 12 ⟨7, 0, 11, 0⟩ (by decide) rfl)) (fun _ _ => ?_)
  refine Wl.imp (L' := (storeW q0 tl13_14) :: F) (fun _ h => h) ?_
  refine Wl.q (v := Value.tuple #[Value.agg #[Value.int .u8 7, iv 0, iv 11, iv 0], Value.bool true]) (q_move rfl) ?_
  refine Wl.q (v := Value.agg #[Value.int .u8 7, iv 0, iv 11, iv 0]) (q_extract (i := 0) rfl rfl) ?_
  refine Wl.q (v := Value.bool true) (q_extract (i := 1) rfl rfl) ?_
  refine Wl.e (e_alloc (vs := [Value.int .u8 0, iv 0, iv 0, iv 0]) zo_29 rfl) (fun b1 _ => ?_)
  refine Wl.e (e_storeAgg (i := 0) (vs := [Value.int .u8 7, iv 0, iv 11, iv 0]) (c' := [Value.int .u8 7, iv 0, iv 11, iv 0]) sz_29 rfl rfl rfl rfl (by simp) rfl) (fun _ _ => ?_)
  refine Wl.imp (L' := (pt b1 29 [Value.int .u8 7, iv 0, iv 11, iv 0]) :: (storeW q0 tl13_14) :: F) (fun _ h => h) ?_
  refine Wl.q (v := Value.bool true) (q_assign rfl) ?_
  refine Wl.done ?_
  refine Wx.go ?_
  refine Wc.seq ?_
  refine Wc.region ?_
  refine Wl.q (v := Value.bool true) (q_move rfl) ?_
  refine Wl.q (v := Value.bool true) (q_assign rfl) ?_
  refine Wl.done ?_
  refine Wx.go ?_
  refine Wc.ret ?_
  refine Wx.fin1 rfl (.inl rfl) (fun w hs => ?_)
  have hs : st W0 w ((storeW q0 tl13_14) :: F) := (st_drop (st_pull [0] hs))
  exact ⟨(), trivial, rfl, hs⟩

def tl14_15 : List TermR := [⟨1, 1, 0, 0⟩, ⟨1, 2, 0, 0⟩, ⟨5, 0, 1, 0⟩, ⟨2, 4, 0, 0⟩, ⟨2, 0, 0, 0⟩, ⟨2, 5, 0, 0⟩, ⟨3, 0, 6, 5⟩, ⟨3, 0, 3, 7⟩, ⟨3, 0, 5, 8⟩, ⟨3, 0, 5, 9⟩, ⟨3, 0, 4, 10⟩, ⟨7, 0, 11, 0⟩, ⟨3, 0, 1, 2⟩, ⟨4, 3, 13, 0⟩, ⟨4, 4, 14, 12⟩]

set_option maxRecDepth 8000 in
set_option maxHeartbeats 4000000 in
theorem au50_make (W0 : World) (q0 : Nat) (q1 : Nat)  :
    Con Tryd.prog W0 17 #[pv q0, Value.agg #[Value.int .u8 4, iv 4, iv 14, iv 12]] [pt q0 52 [pv q1, iv 0], storeW q1 tl13_14] (X := Unit) (fun _ => True) (fun _ => iv 15) (fun _ => [pt q0 52 [pv q1, iv 0], storeW q1 tl14_15]) := by
  refine Con.of (args := [pv q0, Value.agg #[Value.int .u8 4, iv 4, iv 14, iv 12]]) Tryd.func17 rfl Tryd.ntmps17 rfl (fun F => ?_)
  show Wc _ W0 _ _ _ _ _ ((pt q0 52 [pv q1, iv 0]) :: (storeW q1 tl13_14) :: F)
  refine Wc.seq ?_
  refine Wc.region ?_
  refine Wl.e (e_box (x := .tmp 1) (vs := [Value.int .u8 4, iv 4, iv 14, iv 12]) rfl) (fun b1 _ => ?_)
  refine Wl.q (v := iv 0) (q_assign rfl) ?_
  refine Wl.done ?_
  refine Wx.go ?_
  refine Wc.seq ?_
  refine Wc.seq ?_
  refine Wc.region ?_
  refine Wl.q (v := pv q0) (q_move rfl) ?_
  refine Wl.q (v := pv q0) (q_nil_ptr rfl) ?_
  refine Wl.q (v := Value.pointer (some ⟨q0, 1, none⟩)) (q_field (m := 1) fo_52_1 rfl rfl) ?_
  refine Wl.q (v := iv 0) (q_load sc_34 rfl (.cel (i := 1) rfl rfl)) ?_
  refine Wl.q (v := Value.bool false) (q_neq (r := true) rfl rfl (decide_eq_true (by decide))) ?_
  refine Wl.done ?_
  refine Wx.go ?_
  refine Wc.no rfl ?_
  refine Wc.skip ?_
  refine Wx.go ?_
  refine Wc.seq ?_
  refine Wc.drawsS [5] ((pt b1 29 [Value.int .u8 4, iv 4, iv 14, iv 12]) :: (pt q0 52 [pv q1, iv 0]) :: (storeW q1 tl13_14) :: []) (by kernel_rfl) ?_
  refine Wr.pure (v := pv q0) 0 rfl (by kernel_rfl) (.inr (fun _ h => st_take [0, 0, 0] h)) (.inl ⟨rfl, fun _ => q_move rfl⟩) ?_
  refine Wr.pure (v := pv q0) 1 rfl (by kernel_rfl) (.inr (fun _ h => st_take [0, 0, 0] h)) (.inl ⟨rfl, fun _ => q_nil_ptr rfl⟩) ?_
  refine Wr.pure (v := pv q0) 2 rfl (by kernel_rfl) (.inr (fun _ h => st_take [0, 0, 0] h)) (.inl ⟨rfl, fun _ => q_field (m := 0) fo_52_0 rfl rfl⟩) ?_
  refine Wr.take (v := pv q1) 3 rfl (by kernel_rfl) (fun _ h => st_take [0, 0, 0] h) (.inl ⟨rfl, q_load sc_23 rfl (.cel (i := 1) rfl rfl)⟩) ?_
  refine Wr.take (v := Value.agg #[Value.int .u8 4, iv 4, iv 14, iv 12]) 4 rfl (by kernel_rfl) (fun _ h => st_take [0, 0, 0] h) (.inl ⟨rfl, q_loadAgg (vs := [Value.int .u8 4, iv 4, iv 14, iv 12]) ag_29 rfl (Has.of_pt (i := 0) rfl rfl)⟩) ?_
  refine Wr.imp (L' := (storeW q1 tl13_14) :: (pt b1 29 [Value.int .u8 4, iv 4, iv 14, iv 12]) :: (pt q0 52 [pv q1, iv 0]) :: F) (fun _ h => st_pull [2] h) ?_
  refine Wr.e 5 (by kernel_rfl) rfl (e_call (F := (pt b1 29 [Value.int .u8 4, iv 4, iv 14, iv 12]) :: (pt q0 52 [pv q1, iv 0]) :: F) (args := [pv q1, Value.agg #[Value.int .u8 4, iv 4, iv 14, iv 12]]) Tryd.call12 rfl (make_w W0 q1 tl13_14 tl14_15 ⟨4, 4, 14, 12⟩ 15 15 0 (by unfold okT; decide) (by decide +kernel) rfl)) (.inl (by kernel_rfl)) (fun _ _ => ?_)
  refine Wr.imp (L' := (storeW q1 tl14_15) :: (pt b1 29 [Value.int .u8 4, iv 4, iv 14, iv 12]) :: (pt q0 52 [pv q1, iv 0]) :: F) (fun _ h => h) ?_
  refine Wr.rebaseS [] ((storeW q1 tl14_15) :: (pt b1 29 [Value.int .u8 4, iv 4, iv 14, iv 12]) :: (pt q0 52 [pv q1, iv 0]) :: []) (by kernel_rfl) ?_
  refine Wr.pure (v := Value.tuple #[iv 15, iv 0]) 6 rfl (by kernel_rfl) (.inr (fun _ h => st_take [0, 0, 0] h)) (.inl ⟨rfl, fun _ => q_move rfl⟩) ?_
  refine Wr.pure (v := iv 15) 7 rfl (by kernel_rfl) (.inr (fun _ h => st_take [0, 0, 0] h)) (.inl ⟨rfl, fun _ => q_extract (i := 0) rfl rfl⟩) ?_
  refine Wr.pure (v := iv 0) 8 rfl (by kernel_rfl) (.inr (fun _ h => st_take [0, 0, 0] h)) (.inl ⟨rfl, fun _ => q_extract (i := 1) rfl rfl⟩) ?_
  refine Wr.pure (v := iv 15) 9 rfl (by kernel_rfl) (.inr (fun _ h => st_take [0, 0, 0] h)) (.inl ⟨rfl, fun _ => q_assign rfl⟩) ?_
  refine Wr.pure (v := iv 0) 10 rfl (by kernel_rfl) (.inr (fun _ h => st_take [0, 0, 0] h)) (.inl ⟨rfl, fun _ => q_assign rfl⟩) ?_
  refine Wr.done (by kernel_rfl) ?_
  refine Wx.go ?_
  refine Wc.seq ?_
  refine Wc.region ?_
  refine Wl.q (v := pv q0) (q_move rfl) ?_
  refine Wl.q (v := iv 0) (q_move rfl) ?_
  refine Wl.q (v := pv q0) (q_nil_ptr rfl) ?_
  refine Wl.q (v := Value.pointer (some ⟨q0, 1, none⟩)) (q_field (m := 1) fo_52_1 rfl rfl) ?_
  refine Wl.e (e_store (i := 2) (v := iv 0) sz_34 rfl rfl (fun _ _ => rfl) rfl (by simp)) (fun _ _ => ?_)
  refine Wl.imp (L' := (storeW q1 tl14_15) :: (pt b1 29 [Value.int .u8 4, iv 4, iv 14, iv 12]) :: (pt q0 52 [pv q1, iv 0]) :: F) (fun _ h => h) ?_
  refine Wl.done ?_
  refine Wx.go ?_
  refine Wc.seq ?_
  refine Wc.region ?_
  refine Wl.q (v := iv 15) (q_move rfl) ?_
  refine Wl.q (v := iv 15) (q_assign rfl) ?_
  refine Wl.done ?_
  refine Wx.go ?_
  refine Wc.ret ?_
  refine Wx.fin1 rfl (.inl rfl) (fun w hs => ?_)
  have hs : st W0 w ((pt q0 52 [pv q1, iv 0]) :: (storeW q1 tl14_15) :: F) := (st_pull [1, 0] (st_drop (st_pull [1] hs)))
  exact ⟨(), trivial, rfl, hs⟩

set_option maxRecDepth 8000 in
set_option maxHeartbeats 4000000 in
theorem au49_kdf (W0 : World) (q0 : Nat) (q1 : Nat)  :
    Con Tryd.prog W0 16 #[pv q0, iv 4, iv 14, iv 12] [pt q0 52 [pv q1, iv 0], storeW q1 tl13_14] (X := Unit) (fun _ => True) (fun _ => iv 15) (fun _ => [pt q0 52 [pv q1, iv 0], storeW q1 tl14_15]) := by
  refine Con.of (args := [pv q0, iv 4, iv 14, iv 12]) Tryd.func16 rfl Tryd.ntmps16 rfl (fun F => ?_)
  show Wc _ W0 _ _ _ _ _ ((pt q0 52 [pv q1, iv 0]) :: (storeW q1 tl13_14) :: F)
  refine Wc.seq ?_
  refine Wc.region ?_
  refine Wl.q (v := iv 0) (q_assign rfl) ?_
  refine Wl.done ?_
  refine Wx.go ?_
  refine Wc.seq ?_
  refine Wc.region ?_
  refine Wl.q (v := pv q0) (q_move rfl) ?_
  refine Wl.q (v := iv 4) (q_move rfl) ?_
  refine Wl.q (v := iv 14) (q_move rfl) ?_
  refine Wl.q (v := iv 12) (q_move rfl) ?_
  refine Wl.q (v := Value.agg #[Value.int .u8 4, iv 4, iv 14, iv 12]) (q_build (pl := [(0, 1), (1, 1), (2, 1), (3, 1)]) Tryd.underlying29 zo_29 (by kernel_rfl) (by kernel_rfl)) ?_
  refine Wl.e (e_call (F := F) (args := [pv q0, Value.agg #[Value.int .u8 4, iv 4, iv 14, iv 12]]) Tryd.call17 rfl (au50_make W0 q0 q1)) (fun _ _ => ?_)
  refine Wl.imp (L' := (pt q0 52 [pv q1, iv 0]) :: (storeW q1 tl14_15) :: F) (fun _ h => h) ?_
  refine Wl.q (v := iv 15) (q_assign rfl) ?_
  refine Wl.done ?_
  refine Wx.go ?_
  refine Wc.ret ?_
  refine Wx.fin1 rfl (.inl rfl) (fun w hs => ?_)
  have hs : st W0 w ((pt q0 52 [pv q1, iv 0]) :: (storeW q1 tl14_15) :: F) := hs
  exact ⟨(), trivial, rfl, hs⟩

def tl15_16 : List TermR := [⟨1, 1, 0, 0⟩, ⟨1, 2, 0, 0⟩, ⟨5, 0, 1, 0⟩, ⟨2, 4, 0, 0⟩, ⟨2, 0, 0, 0⟩, ⟨2, 5, 0, 0⟩, ⟨3, 0, 6, 5⟩, ⟨3, 0, 3, 7⟩, ⟨3, 0, 5, 8⟩, ⟨3, 0, 5, 9⟩, ⟨3, 0, 4, 10⟩, ⟨7, 0, 11, 0⟩, ⟨3, 0, 1, 2⟩, ⟨4, 3, 13, 0⟩, ⟨4, 4, 14, 12⟩, ⟨4, 5, 15, 0⟩]

set_option maxRecDepth 8000 in
set_option maxHeartbeats 4000000 in
theorem au52_make (W0 : World) (q0 : Nat) (q1 : Nat)  :
    Con Tryd.prog W0 17 #[pv q0, Value.agg #[Value.int .u8 4, iv 5, iv 15, iv 0]] [pt q0 52 [pv q1, iv 0], storeW q1 tl14_15] (X := Unit) (fun _ => True) (fun _ => iv 16) (fun _ => [pt q0 52 [pv q1, iv 0], storeW q1 tl15_16]) := by
  refine Con.of (args := [pv q0, Value.agg #[Value.int .u8 4, iv 5, iv 15, iv 0]]) Tryd.func17 rfl Tryd.ntmps17 rfl (fun F => ?_)
  show Wc _ W0 _ _ _ _ _ ((pt q0 52 [pv q1, iv 0]) :: (storeW q1 tl14_15) :: F)
  refine Wc.seq ?_
  refine Wc.region ?_
  refine Wl.e (e_box (x := .tmp 1) (vs := [Value.int .u8 4, iv 5, iv 15, iv 0]) rfl) (fun b1 _ => ?_)
  refine Wl.q (v := iv 0) (q_assign rfl) ?_
  refine Wl.done ?_
  refine Wx.go ?_
  refine Wc.seq ?_
  refine Wc.seq ?_
  refine Wc.region ?_
  refine Wl.q (v := pv q0) (q_move rfl) ?_
  refine Wl.q (v := pv q0) (q_nil_ptr rfl) ?_
  refine Wl.q (v := Value.pointer (some ⟨q0, 1, none⟩)) (q_field (m := 1) fo_52_1 rfl rfl) ?_
  refine Wl.q (v := iv 0) (q_load sc_34 rfl (.cel (i := 1) rfl rfl)) ?_
  refine Wl.q (v := Value.bool false) (q_neq (r := true) rfl rfl (decide_eq_true (by decide))) ?_
  refine Wl.done ?_
  refine Wx.go ?_
  refine Wc.no rfl ?_
  refine Wc.skip ?_
  refine Wx.go ?_
  refine Wc.seq ?_
  refine Wc.drawsS [5] ((pt b1 29 [Value.int .u8 4, iv 5, iv 15, iv 0]) :: (pt q0 52 [pv q1, iv 0]) :: (storeW q1 tl14_15) :: []) (by kernel_rfl) ?_
  refine Wr.pure (v := pv q0) 0 rfl (by kernel_rfl) (.inr (fun _ h => st_take [0, 0, 0] h)) (.inl ⟨rfl, fun _ => q_move rfl⟩) ?_
  refine Wr.pure (v := pv q0) 1 rfl (by kernel_rfl) (.inr (fun _ h => st_take [0, 0, 0] h)) (.inl ⟨rfl, fun _ => q_nil_ptr rfl⟩) ?_
  refine Wr.pure (v := pv q0) 2 rfl (by kernel_rfl) (.inr (fun _ h => st_take [0, 0, 0] h)) (.inl ⟨rfl, fun _ => q_field (m := 0) fo_52_0 rfl rfl⟩) ?_
  refine Wr.take (v := pv q1) 3 rfl (by kernel_rfl) (fun _ h => st_take [0, 0, 0] h) (.inl ⟨rfl, q_load sc_23 rfl (.cel (i := 1) rfl rfl)⟩) ?_
  refine Wr.take (v := Value.agg #[Value.int .u8 4, iv 5, iv 15, iv 0]) 4 rfl (by kernel_rfl) (fun _ h => st_take [0, 0, 0] h) (.inl ⟨rfl, q_loadAgg (vs := [Value.int .u8 4, iv 5, iv 15, iv 0]) ag_29 rfl (Has.of_pt (i := 0) rfl rfl)⟩) ?_
  refine Wr.imp (L' := (storeW q1 tl14_15) :: (pt b1 29 [Value.int .u8 4, iv 5, iv 15, iv 0]) :: (pt q0 52 [pv q1, iv 0]) :: F) (fun _ h => st_pull [2] h) ?_
  refine Wr.e 5 (by kernel_rfl) rfl (e_call (F := (pt b1 29 [Value.int .u8 4, iv 5, iv 15, iv 0]) :: (pt q0 52 [pv q1, iv 0]) :: F) (args := [pv q1, Value.agg #[Value.int .u8 4, iv 5, iv 15, iv 0]]) Tryd.call12 rfl (make_w W0 q1 tl14_15 tl15_16 ⟨4, 5, 15, 0⟩ 16 16 0 (by unfold okT; decide) (by decide +kernel) rfl)) (.inl (by kernel_rfl)) (fun _ _ => ?_)
  refine Wr.imp (L' := (storeW q1 tl15_16) :: (pt b1 29 [Value.int .u8 4, iv 5, iv 15, iv 0]) :: (pt q0 52 [pv q1, iv 0]) :: F) (fun _ h => h) ?_
  refine Wr.rebaseS [] ((storeW q1 tl15_16) :: (pt b1 29 [Value.int .u8 4, iv 5, iv 15, iv 0]) :: (pt q0 52 [pv q1, iv 0]) :: []) (by kernel_rfl) ?_
  refine Wr.pure (v := Value.tuple #[iv 16, iv 0]) 6 rfl (by kernel_rfl) (.inr (fun _ h => st_take [0, 0, 0] h)) (.inl ⟨rfl, fun _ => q_move rfl⟩) ?_
  refine Wr.pure (v := iv 16) 7 rfl (by kernel_rfl) (.inr (fun _ h => st_take [0, 0, 0] h)) (.inl ⟨rfl, fun _ => q_extract (i := 0) rfl rfl⟩) ?_
  refine Wr.pure (v := iv 0) 8 rfl (by kernel_rfl) (.inr (fun _ h => st_take [0, 0, 0] h)) (.inl ⟨rfl, fun _ => q_extract (i := 1) rfl rfl⟩) ?_
  refine Wr.pure (v := iv 16) 9 rfl (by kernel_rfl) (.inr (fun _ h => st_take [0, 0, 0] h)) (.inl ⟨rfl, fun _ => q_assign rfl⟩) ?_
  refine Wr.pure (v := iv 0) 10 rfl (by kernel_rfl) (.inr (fun _ h => st_take [0, 0, 0] h)) (.inl ⟨rfl, fun _ => q_assign rfl⟩) ?_
  refine Wr.done (by kernel_rfl) ?_
  refine Wx.go ?_
  refine Wc.seq ?_
  refine Wc.region ?_
  refine Wl.q (v := pv q0) (q_move rfl) ?_
  refine Wl.q (v := iv 0) (q_move rfl) ?_
  refine Wl.q (v := pv q0) (q_nil_ptr rfl) ?_
  refine Wl.q (v := Value.pointer (some ⟨q0, 1, none⟩)) (q_field (m := 1) fo_52_1 rfl rfl) ?_
  refine Wl.e (e_store (i := 2) (v := iv 0) sz_34 rfl rfl (fun _ _ => rfl) rfl (by simp)) (fun _ _ => ?_)
  refine Wl.imp (L' := (storeW q1 tl15_16) :: (pt b1 29 [Value.int .u8 4, iv 5, iv 15, iv 0]) :: (pt q0 52 [pv q1, iv 0]) :: F) (fun _ h => h) ?_
  refine Wl.done ?_
  refine Wx.go ?_
  refine Wc.seq ?_
  refine Wc.region ?_
  refine Wl.q (v := iv 16) (q_move rfl) ?_
  refine Wl.q (v := iv 16) (q_assign rfl) ?_
  refine Wl.done ?_
  refine Wx.go ?_
  refine Wc.ret ?_
  refine Wx.fin1 rfl (.inl rfl) (fun w hs => ?_)
  have hs : st W0 w ((pt q0 52 [pv q1, iv 0]) :: (storeW q1 tl15_16) :: F) := (st_pull [1, 0] (st_drop (st_pull [1] hs)))
  exact ⟨(), trivial, rfl, hs⟩

set_option maxRecDepth 8000 in
set_option maxHeartbeats 4000000 in
theorem au51_kdf (W0 : World) (q0 : Nat) (q1 : Nat)  :
    Con Tryd.prog W0 16 #[pv q0, iv 5, iv 15, iv 0] [pt q0 52 [pv q1, iv 0], storeW q1 tl14_15] (X := Unit) (fun _ => True) (fun _ => iv 16) (fun _ => [pt q0 52 [pv q1, iv 0], storeW q1 tl15_16]) := by
  refine Con.of (args := [pv q0, iv 5, iv 15, iv 0]) Tryd.func16 rfl Tryd.ntmps16 rfl (fun F => ?_)
  show Wc _ W0 _ _ _ _ _ ((pt q0 52 [pv q1, iv 0]) :: (storeW q1 tl14_15) :: F)
  refine Wc.seq ?_
  refine Wc.region ?_
  refine Wl.q (v := iv 0) (q_assign rfl) ?_
  refine Wl.done ?_
  refine Wx.go ?_
  refine Wc.seq ?_
  refine Wc.region ?_
  refine Wl.q (v := pv q0) (q_move rfl) ?_
  refine Wl.q (v := iv 5) (q_move rfl) ?_
  refine Wl.q (v := iv 15) (q_move rfl) ?_
  refine Wl.q (v := iv 0) (q_move rfl) ?_
  refine Wl.q (v := Value.agg #[Value.int .u8 4, iv 5, iv 15, iv 0]) (q_build (pl := [(0, 1), (1, 1), (2, 1), (3, 1)]) Tryd.underlying29 zo_29 (by kernel_rfl) (by kernel_rfl)) ?_
  refine Wl.e (e_call (F := F) (args := [pv q0, Value.agg #[Value.int .u8 4, iv 5, iv 15, iv 0]]) Tryd.call17 rfl (au52_make W0 q0 q1)) (fun _ _ => ?_)
  refine Wl.imp (L' := (pt q0 52 [pv q1, iv 0]) :: (storeW q1 tl15_16) :: F) (fun _ h => h) ?_
  refine Wl.q (v := iv 16) (q_assign rfl) ?_
  refine Wl.done ?_
  refine Wx.go ?_
  refine Wc.ret ?_
  refine Wx.fin1 rfl (.inl rfl) (fun w hs => ?_)
  have hs : st W0 w ((pt q0 52 [pv q1, iv 0]) :: (storeW q1 tl15_16) :: F) := hs
  exact ⟨(), trivial, rfl, hs⟩

def tl16_17 : List TermR := [⟨1, 1, 0, 0⟩, ⟨1, 2, 0, 0⟩, ⟨5, 0, 1, 0⟩, ⟨2, 4, 0, 0⟩, ⟨2, 0, 0, 0⟩, ⟨2, 5, 0, 0⟩, ⟨3, 0, 6, 5⟩, ⟨3, 0, 3, 7⟩, ⟨3, 0, 5, 8⟩, ⟨3, 0, 5, 9⟩, ⟨3, 0, 4, 10⟩, ⟨7, 0, 11, 0⟩, ⟨3, 0, 1, 2⟩, ⟨4, 3, 13, 0⟩, ⟨4, 4, 14, 12⟩, ⟨4, 5, 15, 0⟩, ⟨4, 6, 15, 0⟩]

set_option maxRecDepth 8000 in
set_option maxHeartbeats 4000000 in
theorem au54_make (W0 : World) (q0 : Nat) (q1 : Nat)  :
    Con Tryd.prog W0 17 #[pv q0, Value.agg #[Value.int .u8 4, iv 6, iv 15, iv 0]] [pt q0 52 [pv q1, iv 0], storeW q1 tl15_16] (X := Unit) (fun _ => True) (fun _ => iv 17) (fun _ => [pt q0 52 [pv q1, iv 0], storeW q1 tl16_17]) := by
  refine Con.of (args := [pv q0, Value.agg #[Value.int .u8 4, iv 6, iv 15, iv 0]]) Tryd.func17 rfl Tryd.ntmps17 rfl (fun F => ?_)
  show Wc _ W0 _ _ _ _ _ ((pt q0 52 [pv q1, iv 0]) :: (storeW q1 tl15_16) :: F)
  refine Wc.seq ?_
  refine Wc.region ?_
  refine Wl.e (e_box (x := .tmp 1) (vs := [Value.int .u8 4, iv 6, iv 15, iv 0]) rfl) (fun b1 _ => ?_)
  refine Wl.q (v := iv 0) (q_assign rfl) ?_
  refine Wl.done ?_
  refine Wx.go ?_
  refine Wc.seq ?_
  refine Wc.seq ?_
  refine Wc.region ?_
  refine Wl.q (v := pv q0) (q_move rfl) ?_
  refine Wl.q (v := pv q0) (q_nil_ptr rfl) ?_
  refine Wl.q (v := Value.pointer (some ⟨q0, 1, none⟩)) (q_field (m := 1) fo_52_1 rfl rfl) ?_
  refine Wl.q (v := iv 0) (q_load sc_34 rfl (.cel (i := 1) rfl rfl)) ?_
  refine Wl.q (v := Value.bool false) (q_neq (r := true) rfl rfl (decide_eq_true (by decide))) ?_
  refine Wl.done ?_
  refine Wx.go ?_
  refine Wc.no rfl ?_
  refine Wc.skip ?_
  refine Wx.go ?_
  refine Wc.seq ?_
  refine Wc.drawsS [5] ((pt b1 29 [Value.int .u8 4, iv 6, iv 15, iv 0]) :: (pt q0 52 [pv q1, iv 0]) :: (storeW q1 tl15_16) :: []) (by kernel_rfl) ?_
  refine Wr.pure (v := pv q0) 0 rfl (by kernel_rfl) (.inr (fun _ h => st_take [0, 0, 0] h)) (.inl ⟨rfl, fun _ => q_move rfl⟩) ?_
  refine Wr.pure (v := pv q0) 1 rfl (by kernel_rfl) (.inr (fun _ h => st_take [0, 0, 0] h)) (.inl ⟨rfl, fun _ => q_nil_ptr rfl⟩) ?_
  refine Wr.pure (v := pv q0) 2 rfl (by kernel_rfl) (.inr (fun _ h => st_take [0, 0, 0] h)) (.inl ⟨rfl, fun _ => q_field (m := 0) fo_52_0 rfl rfl⟩) ?_
  refine Wr.take (v := pv q1) 3 rfl (by kernel_rfl) (fun _ h => st_take [0, 0, 0] h) (.inl ⟨rfl, q_load sc_23 rfl (.cel (i := 1) rfl rfl)⟩) ?_
  refine Wr.take (v := Value.agg #[Value.int .u8 4, iv 6, iv 15, iv 0]) 4 rfl (by kernel_rfl) (fun _ h => st_take [0, 0, 0] h) (.inl ⟨rfl, q_loadAgg (vs := [Value.int .u8 4, iv 6, iv 15, iv 0]) ag_29 rfl (Has.of_pt (i := 0) rfl rfl)⟩) ?_
  refine Wr.imp (L' := (storeW q1 tl15_16) :: (pt b1 29 [Value.int .u8 4, iv 6, iv 15, iv 0]) :: (pt q0 52 [pv q1, iv 0]) :: F) (fun _ h => st_pull [2] h) ?_
  refine Wr.e 5 (by kernel_rfl) rfl (e_call (F := (pt b1 29 [Value.int .u8 4, iv 6, iv 15, iv 0]) :: (pt q0 52 [pv q1, iv 0]) :: F) (args := [pv q1, Value.agg #[Value.int .u8 4, iv 6, iv 15, iv 0]]) Tryd.call12 rfl (make_w W0 q1 tl15_16 tl16_17 ⟨4, 6, 15, 0⟩ 17 17 0 (by unfold okT; decide) (by decide +kernel) rfl)) (.inl (by kernel_rfl)) (fun _ _ => ?_)
  refine Wr.imp (L' := (storeW q1 tl16_17) :: (pt b1 29 [Value.int .u8 4, iv 6, iv 15, iv 0]) :: (pt q0 52 [pv q1, iv 0]) :: F) (fun _ h => h) ?_
  refine Wr.rebaseS [] ((storeW q1 tl16_17) :: (pt b1 29 [Value.int .u8 4, iv 6, iv 15, iv 0]) :: (pt q0 52 [pv q1, iv 0]) :: []) (by kernel_rfl) ?_
  refine Wr.pure (v := Value.tuple #[iv 17, iv 0]) 6 rfl (by kernel_rfl) (.inr (fun _ h => st_take [0, 0, 0] h)) (.inl ⟨rfl, fun _ => q_move rfl⟩) ?_
  refine Wr.pure (v := iv 17) 7 rfl (by kernel_rfl) (.inr (fun _ h => st_take [0, 0, 0] h)) (.inl ⟨rfl, fun _ => q_extract (i := 0) rfl rfl⟩) ?_
  refine Wr.pure (v := iv 0) 8 rfl (by kernel_rfl) (.inr (fun _ h => st_take [0, 0, 0] h)) (.inl ⟨rfl, fun _ => q_extract (i := 1) rfl rfl⟩) ?_
  refine Wr.pure (v := iv 17) 9 rfl (by kernel_rfl) (.inr (fun _ h => st_take [0, 0, 0] h)) (.inl ⟨rfl, fun _ => q_assign rfl⟩) ?_
  refine Wr.pure (v := iv 0) 10 rfl (by kernel_rfl) (.inr (fun _ h => st_take [0, 0, 0] h)) (.inl ⟨rfl, fun _ => q_assign rfl⟩) ?_
  refine Wr.done (by kernel_rfl) ?_
  refine Wx.go ?_
  refine Wc.seq ?_
  refine Wc.region ?_
  refine Wl.q (v := pv q0) (q_move rfl) ?_
  refine Wl.q (v := iv 0) (q_move rfl) ?_
  refine Wl.q (v := pv q0) (q_nil_ptr rfl) ?_
  refine Wl.q (v := Value.pointer (some ⟨q0, 1, none⟩)) (q_field (m := 1) fo_52_1 rfl rfl) ?_
  refine Wl.e (e_store (i := 2) (v := iv 0) sz_34 rfl rfl (fun _ _ => rfl) rfl (by simp)) (fun _ _ => ?_)
  refine Wl.imp (L' := (storeW q1 tl16_17) :: (pt b1 29 [Value.int .u8 4, iv 6, iv 15, iv 0]) :: (pt q0 52 [pv q1, iv 0]) :: F) (fun _ h => h) ?_
  refine Wl.done ?_
  refine Wx.go ?_
  refine Wc.seq ?_
  refine Wc.region ?_
  refine Wl.q (v := iv 17) (q_move rfl) ?_
  refine Wl.q (v := iv 17) (q_assign rfl) ?_
  refine Wl.done ?_
  refine Wx.go ?_
  refine Wc.ret ?_
  refine Wx.fin1 rfl (.inl rfl) (fun w hs => ?_)
  have hs : st W0 w ((pt q0 52 [pv q1, iv 0]) :: (storeW q1 tl16_17) :: F) := (st_pull [1, 0] (st_drop (st_pull [1] hs)))
  exact ⟨(), trivial, rfl, hs⟩

set_option maxRecDepth 8000 in
set_option maxHeartbeats 4000000 in
theorem au53_kdf (W0 : World) (q0 : Nat) (q1 : Nat)  :
    Con Tryd.prog W0 16 #[pv q0, iv 6, iv 15, iv 0] [pt q0 52 [pv q1, iv 0], storeW q1 tl15_16] (X := Unit) (fun _ => True) (fun _ => iv 17) (fun _ => [pt q0 52 [pv q1, iv 0], storeW q1 tl16_17]) := by
  refine Con.of (args := [pv q0, iv 6, iv 15, iv 0]) Tryd.func16 rfl Tryd.ntmps16 rfl (fun F => ?_)
  show Wc _ W0 _ _ _ _ _ ((pt q0 52 [pv q1, iv 0]) :: (storeW q1 tl15_16) :: F)
  refine Wc.seq ?_
  refine Wc.region ?_
  refine Wl.q (v := iv 0) (q_assign rfl) ?_
  refine Wl.done ?_
  refine Wx.go ?_
  refine Wc.seq ?_
  refine Wc.region ?_
  refine Wl.q (v := pv q0) (q_move rfl) ?_
  refine Wl.q (v := iv 6) (q_move rfl) ?_
  refine Wl.q (v := iv 15) (q_move rfl) ?_
  refine Wl.q (v := iv 0) (q_move rfl) ?_
  refine Wl.q (v := Value.agg #[Value.int .u8 4, iv 6, iv 15, iv 0]) (q_build (pl := [(0, 1), (1, 1), (2, 1), (3, 1)]) Tryd.underlying29 zo_29 (by kernel_rfl) (by kernel_rfl)) ?_
  refine Wl.e (e_call (F := F) (args := [pv q0, Value.agg #[Value.int .u8 4, iv 6, iv 15, iv 0]]) Tryd.call17 rfl (au54_make W0 q0 q1)) (fun _ _ => ?_)
  refine Wl.imp (L' := (pt q0 52 [pv q1, iv 0]) :: (storeW q1 tl16_17) :: F) (fun _ h => h) ?_
  refine Wl.q (v := iv 17) (q_assign rfl) ?_
  refine Wl.done ?_
  refine Wx.go ?_
  refine Wc.ret ?_
  refine Wx.fin1 rfl (.inl rfl) (fun w hs => ?_)
  have hs : st W0 w ((pt q0 52 [pv q1, iv 0]) :: (storeW q1 tl16_17) :: F) := hs
  exact ⟨(), trivial, rfl, hs⟩

def tl17_18 : List TermR := [⟨1, 1, 0, 0⟩, ⟨1, 2, 0, 0⟩, ⟨5, 0, 1, 0⟩, ⟨2, 4, 0, 0⟩, ⟨2, 0, 0, 0⟩, ⟨2, 5, 0, 0⟩, ⟨3, 0, 6, 5⟩, ⟨3, 0, 3, 7⟩, ⟨3, 0, 5, 8⟩, ⟨3, 0, 5, 9⟩, ⟨3, 0, 4, 10⟩, ⟨7, 0, 11, 0⟩, ⟨3, 0, 1, 2⟩, ⟨4, 3, 13, 0⟩, ⟨4, 4, 14, 12⟩, ⟨4, 5, 15, 0⟩, ⟨4, 6, 15, 0⟩, ⟨4, 7, 15, 0⟩]

set_option maxRecDepth 8000 in
set_option maxHeartbeats 4000000 in
theorem au56_make (W0 : World) (q0 : Nat) (q1 : Nat)  :
    Con Tryd.prog W0 17 #[pv q0, Value.agg #[Value.int .u8 4, iv 7, iv 15, iv 0]] [pt q0 52 [pv q1, iv 0], storeW q1 tl16_17] (X := Unit) (fun _ => True) (fun _ => iv 18) (fun _ => [pt q0 52 [pv q1, iv 0], storeW q1 tl17_18]) := by
  refine Con.of (args := [pv q0, Value.agg #[Value.int .u8 4, iv 7, iv 15, iv 0]]) Tryd.func17 rfl Tryd.ntmps17 rfl (fun F => ?_)
  show Wc _ W0 _ _ _ _ _ ((pt q0 52 [pv q1, iv 0]) :: (storeW q1 tl16_17) :: F)
  refine Wc.seq ?_
  refine Wc.region ?_
  refine Wl.e (e_box (x := .tmp 1) (vs := [Value.int .u8 4, iv 7, iv 15, iv 0]) rfl) (fun b1 _ => ?_)
  refine Wl.q (v := iv 0) (q_assign rfl) ?_
  refine Wl.done ?_
  refine Wx.go ?_
  refine Wc.seq ?_
  refine Wc.seq ?_
  refine Wc.region ?_
  refine Wl.q (v := pv q0) (q_move rfl) ?_
  refine Wl.q (v := pv q0) (q_nil_ptr rfl) ?_
  refine Wl.q (v := Value.pointer (some ⟨q0, 1, none⟩)) (q_field (m := 1) fo_52_1 rfl rfl) ?_
  refine Wl.q (v := iv 0) (q_load sc_34 rfl (.cel (i := 1) rfl rfl)) ?_
  refine Wl.q (v := Value.bool false) (q_neq (r := true) rfl rfl (decide_eq_true (by decide))) ?_
  refine Wl.done ?_
  refine Wx.go ?_
  refine Wc.no rfl ?_
  refine Wc.skip ?_
  refine Wx.go ?_
  refine Wc.seq ?_
  refine Wc.drawsS [5] ((pt b1 29 [Value.int .u8 4, iv 7, iv 15, iv 0]) :: (pt q0 52 [pv q1, iv 0]) :: (storeW q1 tl16_17) :: []) (by kernel_rfl) ?_
  refine Wr.pure (v := pv q0) 0 rfl (by kernel_rfl) (.inr (fun _ h => st_take [0, 0, 0] h)) (.inl ⟨rfl, fun _ => q_move rfl⟩) ?_
  refine Wr.pure (v := pv q0) 1 rfl (by kernel_rfl) (.inr (fun _ h => st_take [0, 0, 0] h)) (.inl ⟨rfl, fun _ => q_nil_ptr rfl⟩) ?_
  refine Wr.pure (v := pv q0) 2 rfl (by kernel_rfl) (.inr (fun _ h => st_take [0, 0, 0] h)) (.inl ⟨rfl, fun _ => q_field (m := 0) fo_52_0 rfl rfl⟩) ?_
  refine Wr.take (v := pv q1) 3 rfl (by kernel_rfl) (fun _ h => st_take [0, 0, 0] h) (.inl ⟨rfl, q_load sc_23 rfl (.cel (i := 1) rfl rfl)⟩) ?_
  refine Wr.take (v := Value.agg #[Value.int .u8 4, iv 7, iv 15, iv 0]) 4 rfl (by kernel_rfl) (fun _ h => st_take [0, 0, 0] h) (.inl ⟨rfl, q_loadAgg (vs := [Value.int .u8 4, iv 7, iv 15, iv 0]) ag_29 rfl (Has.of_pt (i := 0) rfl rfl)⟩) ?_
  refine Wr.imp (L' := (storeW q1 tl16_17) :: (pt b1 29 [Value.int .u8 4, iv 7, iv 15, iv 0]) :: (pt q0 52 [pv q1, iv 0]) :: F) (fun _ h => st_pull [2] h) ?_
  refine Wr.e 5 (by kernel_rfl) rfl (e_call (F := (pt b1 29 [Value.int .u8 4, iv 7, iv 15, iv 0]) :: (pt q0 52 [pv q1, iv 0]) :: F) (args := [pv q1, Value.agg #[Value.int .u8 4, iv 7, iv 15, iv 0]]) Tryd.call12 rfl (make_w W0 q1 tl16_17 tl17_18 ⟨4, 7, 15, 0⟩ 18 18 0 (by unfold okT; decide) (by decide +kernel) rfl)) (.inl (by kernel_rfl)) (fun _ _ => ?_)
  refine Wr.imp (L' := (storeW q1 tl17_18) :: (pt b1 29 [Value.int .u8 4, iv 7, iv 15, iv 0]) :: (pt q0 52 [pv q1, iv 0]) :: F) (fun _ h => h) ?_
  refine Wr.rebaseS [] ((storeW q1 tl17_18) :: (pt b1 29 [Value.int .u8 4, iv 7, iv 15, iv 0]) :: (pt q0 52 [pv q1, iv 0]) :: []) (by kernel_rfl) ?_
  refine Wr.pure (v := Value.tuple #[iv 18, iv 0]) 6 rfl (by kernel_rfl) (.inr (fun _ h => st_take [0, 0, 0] h)) (.inl ⟨rfl, fun _ => q_move rfl⟩) ?_
  refine Wr.pure (v := iv 18) 7 rfl (by kernel_rfl) (.inr (fun _ h => st_take [0, 0, 0] h)) (.inl ⟨rfl, fun _ => q_extract (i := 0) rfl rfl⟩) ?_
  refine Wr.pure (v := iv 0) 8 rfl (by kernel_rfl) (.inr (fun _ h => st_take [0, 0, 0] h)) (.inl ⟨rfl, fun _ => q_extract (i := 1) rfl rfl⟩) ?_
  refine Wr.pure (v := iv 18) 9 rfl (by kernel_rfl) (.inr (fun _ h => st_take [0, 0, 0] h)) (.inl ⟨rfl, fun _ => q_assign rfl⟩) ?_
  refine Wr.pure (v := iv 0) 10 rfl (by kernel_rfl) (.inr (fun _ h => st_take [0, 0, 0] h)) (.inl ⟨rfl, fun _ => q_assign rfl⟩) ?_
  refine Wr.done (by kernel_rfl) ?_
  refine Wx.go ?_
  refine Wc.seq ?_
  refine Wc.region ?_
  refine Wl.q (v := pv q0) (q_move rfl) ?_
  refine Wl.q (v := iv 0) (q_move rfl) ?_
  refine Wl.q (v := pv q0) (q_nil_ptr rfl) ?_
  refine Wl.q (v := Value.pointer (some ⟨q0, 1, none⟩)) (q_field (m := 1) fo_52_1 rfl rfl) ?_
  refine Wl.e (e_store (i := 2) (v := iv 0) sz_34 rfl rfl (fun _ _ => rfl) rfl (by simp)) (fun _ _ => ?_)
  refine Wl.imp (L' := (storeW q1 tl17_18) :: (pt b1 29 [Value.int .u8 4, iv 7, iv 15, iv 0]) :: (pt q0 52 [pv q1, iv 0]) :: F) (fun _ h => h) ?_
  refine Wl.done ?_
  refine Wx.go ?_
  refine Wc.seq ?_
  refine Wc.region ?_
  refine Wl.q (v := iv 18) (q_move rfl) ?_
  refine Wl.q (v := iv 18) (q_assign rfl) ?_
  refine Wl.done ?_
  refine Wx.go ?_
  refine Wc.ret ?_
  refine Wx.fin1 rfl (.inl rfl) (fun w hs => ?_)
  have hs : st W0 w ((pt q0 52 [pv q1, iv 0]) :: (storeW q1 tl17_18) :: F) := (st_pull [1, 0] (st_drop (st_pull [1] hs)))
  exact ⟨(), trivial, rfl, hs⟩

set_option maxRecDepth 8000 in
set_option maxHeartbeats 4000000 in
theorem au55_kdf (W0 : World) (q0 : Nat) (q1 : Nat)  :
    Con Tryd.prog W0 16 #[pv q0, iv 7, iv 15, iv 0] [pt q0 52 [pv q1, iv 0], storeW q1 tl16_17] (X := Unit) (fun _ => True) (fun _ => iv 18) (fun _ => [pt q0 52 [pv q1, iv 0], storeW q1 tl17_18]) := by
  refine Con.of (args := [pv q0, iv 7, iv 15, iv 0]) Tryd.func16 rfl Tryd.ntmps16 rfl (fun F => ?_)
  show Wc _ W0 _ _ _ _ _ ((pt q0 52 [pv q1, iv 0]) :: (storeW q1 tl16_17) :: F)
  refine Wc.seq ?_
  refine Wc.region ?_
  refine Wl.q (v := iv 0) (q_assign rfl) ?_
  refine Wl.done ?_
  refine Wx.go ?_
  refine Wc.seq ?_
  refine Wc.region ?_
  refine Wl.q (v := pv q0) (q_move rfl) ?_
  refine Wl.q (v := iv 7) (q_move rfl) ?_
  refine Wl.q (v := iv 15) (q_move rfl) ?_
  refine Wl.q (v := iv 0) (q_move rfl) ?_
  refine Wl.q (v := Value.agg #[Value.int .u8 4, iv 7, iv 15, iv 0]) (q_build (pl := [(0, 1), (1, 1), (2, 1), (3, 1)]) Tryd.underlying29 zo_29 (by kernel_rfl) (by kernel_rfl)) ?_
  refine Wl.e (e_call (F := F) (args := [pv q0, Value.agg #[Value.int .u8 4, iv 7, iv 15, iv 0]]) Tryd.call17 rfl (au56_make W0 q0 q1)) (fun _ _ => ?_)
  refine Wl.imp (L' := (pt q0 52 [pv q1, iv 0]) :: (storeW q1 tl17_18) :: F) (fun _ h => h) ?_
  refine Wl.q (v := iv 18) (q_assign rfl) ?_
  refine Wl.done ?_
  refine Wx.go ?_
  refine Wc.ret ?_
  refine Wx.fin1 rfl (.inl rfl) (fun w hs => ?_)
  have hs : st W0 w ((pt q0 52 [pv q1, iv 0]) :: (storeW q1 tl17_18) :: F) := hs
  exact ⟨(), trivial, rfl, hs⟩

def tl18_19 : List TermR := [⟨1, 1, 0, 0⟩, ⟨1, 2, 0, 0⟩, ⟨5, 0, 1, 0⟩, ⟨2, 4, 0, 0⟩, ⟨2, 0, 0, 0⟩, ⟨2, 5, 0, 0⟩, ⟨3, 0, 6, 5⟩, ⟨3, 0, 3, 7⟩, ⟨3, 0, 5, 8⟩, ⟨3, 0, 5, 9⟩, ⟨3, 0, 4, 10⟩, ⟨7, 0, 11, 0⟩, ⟨3, 0, 1, 2⟩, ⟨4, 3, 13, 0⟩, ⟨4, 4, 14, 12⟩, ⟨4, 5, 15, 0⟩, ⟨4, 6, 15, 0⟩, ⟨4, 7, 15, 0⟩, ⟨4, 8, 15, 0⟩]

set_option maxRecDepth 8000 in
set_option maxHeartbeats 4000000 in
theorem au58_make (W0 : World) (q0 : Nat) (q1 : Nat)  :
    Con Tryd.prog W0 17 #[pv q0, Value.agg #[Value.int .u8 4, iv 8, iv 15, iv 0]] [pt q0 52 [pv q1, iv 0], storeW q1 tl17_18] (X := Unit) (fun _ => True) (fun _ => iv 19) (fun _ => [pt q0 52 [pv q1, iv 0], storeW q1 tl18_19]) := by
  refine Con.of (args := [pv q0, Value.agg #[Value.int .u8 4, iv 8, iv 15, iv 0]]) Tryd.func17 rfl Tryd.ntmps17 rfl (fun F => ?_)
  show Wc _ W0 _ _ _ _ _ ((pt q0 52 [pv q1, iv 0]) :: (storeW q1 tl17_18) :: F)
  refine Wc.seq ?_
  refine Wc.region ?_
  refine Wl.e (e_box (x := .tmp 1) (vs := [Value.int .u8 4, iv 8, iv 15, iv 0]) rfl) (fun b1 _ => ?_)
  refine Wl.q (v := iv 0) (q_assign rfl) ?_
  refine Wl.done ?_
  refine Wx.go ?_
  refine Wc.seq ?_
  refine Wc.seq ?_
  refine Wc.region ?_
  refine Wl.q (v := pv q0) (q_move rfl) ?_
  refine Wl.q (v := pv q0) (q_nil_ptr rfl) ?_
  refine Wl.q (v := Value.pointer (some ⟨q0, 1, none⟩)) (q_field (m := 1) fo_52_1 rfl rfl) ?_
  refine Wl.q (v := iv 0) (q_load sc_34 rfl (.cel (i := 1) rfl rfl)) ?_
  refine Wl.q (v := Value.bool false) (q_neq (r := true) rfl rfl (decide_eq_true (by decide))) ?_
  refine Wl.done ?_
  refine Wx.go ?_
  refine Wc.no rfl ?_
  refine Wc.skip ?_
  refine Wx.go ?_
  refine Wc.seq ?_
  refine Wc.drawsS [5] ((pt b1 29 [Value.int .u8 4, iv 8, iv 15, iv 0]) :: (pt q0 52 [pv q1, iv 0]) :: (storeW q1 tl17_18) :: []) (by kernel_rfl) ?_
  refine Wr.pure (v := pv q0) 0 rfl (by kernel_rfl) (.inr (fun _ h => st_take [0, 0, 0] h)) (.inl ⟨rfl, fun _ => q_move rfl⟩) ?_
  refine Wr.pure (v := pv q0) 1 rfl (by kernel_rfl) (.inr (fun _ h => st_take [0, 0, 0] h)) (.inl ⟨rfl, fun _ => q_nil_ptr rfl⟩) ?_
  refine Wr.pure (v := pv q0) 2 rfl (by kernel_rfl) (.inr (fun _ h => st_take [0, 0, 0] h)) (.inl ⟨rfl, fun _ => q_field (m := 0) fo_52_0 rfl rfl⟩) ?_
  refine Wr.take (v := pv q1) 3 rfl (by kernel_rfl) (fun _ h => st_take [0, 0, 0] h) (.inl ⟨rfl, q_load sc_23 rfl (.cel (i := 1) rfl rfl)⟩) ?_
  refine Wr.take (v := Value.agg #[Value.int .u8 4, iv 8, iv 15, iv 0]) 4 rfl (by kernel_rfl) (fun _ h => st_take [0, 0, 0] h) (.inl ⟨rfl, q_loadAgg (vs := [Value.int .u8 4, iv 8, iv 15, iv 0]) ag_29 rfl (Has.of_pt (i := 0) rfl rfl)⟩) ?_
  refine Wr.imp (L' := (storeW q1 tl17_18) :: (pt b1 29 [Value.int .u8 4, iv 8, iv 15, iv 0]) :: (pt q0 52 [pv q1, iv 0]) :: F) (fun _ h => st_pull [2] h) ?_
  refine Wr.e 5 (by kernel_rfl) rfl (e_call (F := (pt b1 29 [Value.int .u8 4, iv 8, iv 15, iv 0]) :: (pt q0 52 [pv q1, iv 0]) :: F) (args := [pv q1, Value.agg #[Value.int .u8 4, iv 8, iv 15, iv 0]]) Tryd.call12 rfl (make_w W0 q1 tl17_18 tl18_19 ⟨4, 8, 15, 0⟩ 19 19 0 (by unfold okT; decide) (by decide +kernel) rfl)) (.inl (by kernel_rfl)) (fun _ _ => ?_)
  refine Wr.imp (L' := (storeW q1 tl18_19) :: (pt b1 29 [Value.int .u8 4, iv 8, iv 15, iv 0]) :: (pt q0 52 [pv q1, iv 0]) :: F) (fun _ h => h) ?_
  refine Wr.rebaseS [] ((storeW q1 tl18_19) :: (pt b1 29 [Value.int .u8 4, iv 8, iv 15, iv 0]) :: (pt q0 52 [pv q1, iv 0]) :: []) (by kernel_rfl) ?_
  refine Wr.pure (v := Value.tuple #[iv 19, iv 0]) 6 rfl (by kernel_rfl) (.inr (fun _ h => st_take [0, 0, 0] h)) (.inl ⟨rfl, fun _ => q_move rfl⟩) ?_
  refine Wr.pure (v := iv 19) 7 rfl (by kernel_rfl) (.inr (fun _ h => st_take [0, 0, 0] h)) (.inl ⟨rfl, fun _ => q_extract (i := 0) rfl rfl⟩) ?_
  refine Wr.pure (v := iv 0) 8 rfl (by kernel_rfl) (.inr (fun _ h => st_take [0, 0, 0] h)) (.inl ⟨rfl, fun _ => q_extract (i := 1) rfl rfl⟩) ?_
  refine Wr.pure (v := iv 19) 9 rfl (by kernel_rfl) (.inr (fun _ h => st_take [0, 0, 0] h)) (.inl ⟨rfl, fun _ => q_assign rfl⟩) ?_
  refine Wr.pure (v := iv 0) 10 rfl (by kernel_rfl) (.inr (fun _ h => st_take [0, 0, 0] h)) (.inl ⟨rfl, fun _ => q_assign rfl⟩) ?_
  refine Wr.done (by kernel_rfl) ?_
  refine Wx.go ?_
  refine Wc.seq ?_
  refine Wc.region ?_
  refine Wl.q (v := pv q0) (q_move rfl) ?_
  refine Wl.q (v := iv 0) (q_move rfl) ?_
  refine Wl.q (v := pv q0) (q_nil_ptr rfl) ?_
  refine Wl.q (v := Value.pointer (some ⟨q0, 1, none⟩)) (q_field (m := 1) fo_52_1 rfl rfl) ?_
  refine Wl.e (e_store (i := 2) (v := iv 0) sz_34 rfl rfl (fun _ _ => rfl) rfl (by simp)) (fun _ _ => ?_)
  refine Wl.imp (L' := (storeW q1 tl18_19) :: (pt b1 29 [Value.int .u8 4, iv 8, iv 15, iv 0]) :: (pt q0 52 [pv q1, iv 0]) :: F) (fun _ h => h) ?_
  refine Wl.done ?_
  refine Wx.go ?_
  refine Wc.seq ?_
  refine Wc.region ?_
  refine Wl.q (v := iv 19) (q_move rfl) ?_
  refine Wl.q (v := iv 19) (q_assign rfl) ?_
  refine Wl.done ?_
  refine Wx.go ?_
  refine Wc.ret ?_
  refine Wx.fin1 rfl (.inl rfl) (fun w hs => ?_)
  have hs : st W0 w ((pt q0 52 [pv q1, iv 0]) :: (storeW q1 tl18_19) :: F) := (st_pull [1, 0] (st_drop (st_pull [1] hs)))
  exact ⟨(), trivial, rfl, hs⟩

set_option maxRecDepth 8000 in
set_option maxHeartbeats 4000000 in
theorem au57_kdf (W0 : World) (q0 : Nat) (q1 : Nat)  :
    Con Tryd.prog W0 16 #[pv q0, iv 8, iv 15, iv 0] [pt q0 52 [pv q1, iv 0], storeW q1 tl17_18] (X := Unit) (fun _ => True) (fun _ => iv 19) (fun _ => [pt q0 52 [pv q1, iv 0], storeW q1 tl18_19]) := by
  refine Con.of (args := [pv q0, iv 8, iv 15, iv 0]) Tryd.func16 rfl Tryd.ntmps16 rfl (fun F => ?_)
  show Wc _ W0 _ _ _ _ _ ((pt q0 52 [pv q1, iv 0]) :: (storeW q1 tl17_18) :: F)
  refine Wc.seq ?_
  refine Wc.region ?_
  refine Wl.q (v := iv 0) (q_assign rfl) ?_
  refine Wl.done ?_
  refine Wx.go ?_
  refine Wc.seq ?_
  refine Wc.region ?_
  refine Wl.q (v := pv q0) (q_move rfl) ?_
  refine Wl.q (v := iv 8) (q_move rfl) ?_
  refine Wl.q (v := iv 15) (q_move rfl) ?_
  refine Wl.q (v := iv 0) (q_move rfl) ?_
  refine Wl.q (v := Value.agg #[Value.int .u8 4, iv 8, iv 15, iv 0]) (q_build (pl := [(0, 1), (1, 1), (2, 1), (3, 1)]) Tryd.underlying29 zo_29 (by kernel_rfl) (by kernel_rfl)) ?_
  refine Wl.e (e_call (F := F) (args := [pv q0, Value.agg #[Value.int .u8 4, iv 8, iv 15, iv 0]]) Tryd.call17 rfl (au58_make W0 q0 q1)) (fun _ _ => ?_)
  refine Wl.imp (L' := (pt q0 52 [pv q1, iv 0]) :: (storeW q1 tl18_19) :: F) (fun _ h => h) ?_
  refine Wl.q (v := iv 19) (q_assign rfl) ?_
  refine Wl.done ?_
  refine Wx.go ?_
  refine Wc.ret ?_
  refine Wx.fin1 rfl (.inl rfl) (fun w hs => ?_)
  have hs : st W0 w ((pt q0 52 [pv q1, iv 0]) :: (storeW q1 tl18_19) :: F) := hs
  exact ⟨(), trivial, rfl, hs⟩

set_option maxRecDepth 8000 in
set_option maxHeartbeats 4000000 in
theorem au44_From (W0 : World) (q0 : Nat)  :
    Con Tryd.prog W0 18 #[pv q0, iv 14, iv 12] [storeW q0 tl13_14] (X := Unit) (fun _ => True) (fun _ => Value.tuple #[Value.agg #[iv 14, iv 15, iv 16, iv 17, iv 18, iv 19], iv 0]) (fun _ => [storeW q0 tl18_19]) := by
  refine Con.of (args := [pv q0, iv 14, iv 12]) Tryd.func18 rfl Tryd.ntmps18 rfl (fun F => ?_)
  show Wc _ W0 _ _ _ _ _ ((storeW q0 tl13_14) :: F)
  refine Wc.seq ?_
  refine Wc.region ?_
  refine Wl.e (e_alloc (vs := [iv 0, iv 0, iv 0, iv 0, iv 0, iv 0]) zo_33 rfl) (fun b1 _ => ?_)
  refine Wl.q (v := iv 0) (q_assign rfl) ?_
  refine Wl.done ?_
  refine Wx.go ?_
  refine Wc.seq ?_
  refine Wc.seq ?_
  refine Wc.region ?_
  refine Wl.q (v := pv q0) (q_move rfl) ?_
  refine Wl.imp (L' := (storeW q0 tl13_14) :: (pt b1 33 [iv 0, iv 0, iv 0, iv 0, iv 0, iv 0]) :: F) (fun _ h => st_pull [1] h) ?_
  refine Wl.e (e_call (F := (pt b1 33 [iv 0, iv 0, iv 0, iv 0, iv 0, iv 0]) :: F) (args := [pv q0]) Tryd.call14 rfl (au45_alive W0 q0)) (fun _ _ => ?_)
  refine Wl.imp (L' := (storeW q0 tl13_14) :: (pt b1 33 [iv 0, iv 0, iv 0, iv 0, iv 0, iv 0]) :: F) (fun _ h => h) ?_
  refine Wl.q (v := Value.bool false) (q_not rfl rfl) ?_
  refine Wl.done ?_
  refine Wx.go ?_
  refine Wc.no rfl ?_
  refine Wc.skip ?_
  refine Wx.go ?_
  refine Wc.seq ?_
  refine Wc.seq ?_
  refine Wc.region ?_
  refine Wl.q (v := pv q0) (q_move rfl) ?_
  refine Wl.q (v := iv 14) (q_move rfl) ?_
  refine Wl.e (e_call (F := (pt b1 33 [iv 0, iv 0, iv 0, iv 0, iv 0, iv 0]) :: F) (args := [pv q0, iv 14]) Tryd.call15 rfl (au47_there W0 q0)) (fun _ _ => ?_)
  refine Wl.imp (L' := (storeW q0 tl13_14) :: (pt b1 33 [iv 0, iv 0, iv 0, iv 0, iv 0, iv 0]) :: F) (fun _ h => h) ?_
  refine Wl.q (v := Value.bool false) (q_not rfl rfl) ?_
  refine Wl.q (v := Value.bool false) (q_move rfl) ?_
  refine Wl.q (v := pv q0) (q_move rfl) ?_
  refine Wl.q (v := iv 12) (q_move rfl) ?_
  refine Wl.e (e_call (F := (pt b1 33 [iv 0, iv 0, iv 0, iv 0, iv 0, iv 0]) :: F) (args := [pv q0, iv 12]) Tryd.call15 rfl (au48_there W0 q0)) (fun _ _ => ?_)
  refine Wl.imp (L' := (storeW q0 tl13_14) :: (pt b1 33 [iv 0, iv 0, iv 0, iv 0, iv 0, iv 0]) :: F) (fun _ h => h) ?_
  refine Wl.q (v := Value.bool false) (q_not rfl rfl) ?_
  refine Wl.q (v := Value.bool false) (q_pick (t := false) rfl rfl) ?_
  refine Wl.done ?_
  refine Wx.go ?_
  refine Wc.no rfl ?_
  refine Wc.skip ?_
  refine Wx.go ?_
  refine Wc.seq ?_
  refine Wc.region ?_
  refine Wl.q (v := pv q0) (q_move rfl) ?_
  refine Wl.q (v := Value.agg #[pv q0, iv 0]) (q_build (pl := [(0, 1), (1, 1)]) Tryd.underlying52 zo_52 (by kernel_rfl) (by kernel_rfl)) ?_
  refine Wl.e (e_box (x := .tmp 29) (vs := [pv q0, iv 0]) rfl) (fun b2 _ => ?_)
  refine Wl.q (v := pv b2) (q_assign rfl) ?_
  refine Wl.done ?_
  refine Wx.go ?_
  refine Wc.seq ?_
  refine Wc.region ?_
  refine Wl.q (v := pv b2) (q_move rfl) ?_
  refine Wl.q (v := iv 14) (q_move rfl) ?_
  refine Wl.q (v := iv 12) (q_move rfl) ?_
  refine Wl.e (e_call (F := (pt b1 33 [iv 0, iv 0, iv 0, iv 0, iv 0, iv 0]) :: F) (args := [pv b2, iv 4, iv 14, iv 12]) Tryd.call16 rfl (au49_kdf W0 b2 q0)) (fun _ _ => ?_)
  refine Wl.imp (L' := (pt b2 52 [pv q0, iv 0]) :: (storeW q0 tl14_15) :: (pt b1 33 [iv 0, iv 0, iv 0, iv 0, iv 0, iv 0]) :: F) (fun _ h => h) ?_
  refine Wl.q (v := iv 15) (q_assign rfl) ?_
  refine Wl.done ?_
  refine Wx.go ?_
  refine Wc.seq ?_
  refine Wc.region ?_
  refine Wl.q (v := iv 14) (q_move rfl) ?_
  refine Wl.q (v := iv 15) (q_move rfl) ?_
  refine Wl.q (v := Value.agg #[iv 14, iv 15, iv 0, iv 0, iv 0, iv 0]) (q_build (pl := [(0, 1), (1, 1), (2, 1), (3, 1), (4, 1), (5, 1)]) Tryd.underlying33 zo_33 (by kernel_rfl) (by kernel_rfl)) ?_
  refine Wl.e (e_alloc (vs := [iv 0, iv 0, iv 0, iv 0, iv 0, iv 0]) zo_33 rfl) (fun b3 _ => ?_)
  refine Wl.e (e_storeAgg (i := 0) (vs := [iv 14, iv 15, iv 0, iv 0, iv 0, iv 0]) (c' := [iv 14, iv 15, iv 0, iv 0, iv 0, iv 0]) sz_33 rfl rfl rfl rfl (by simp) rfl) (fun _ _ => ?_)
  refine Wl.imp (L' := (pt b3 33 [iv 14, iv 15, iv 0, iv 0, iv 0, iv 0]) :: (pt b2 52 [pv q0, iv 0]) :: (storeW q0 tl14_15) :: (pt b1 33 [iv 0, iv 0, iv 0, iv 0, iv 0, iv 0]) :: F) (fun _ h => h) ?_
  refine Wl.done ?_
  refine Wx.go ?_
  refine Wc.seq ?_
  refine Wc.seq ?_
  refine Wc.region ?_
  refine Wl.q (v := Value.pointer (some ⟨b3, 2, none⟩)) (q_field (m := 2) fo_33_2 rfl rfl) ?_
  refine Wl.q (v := Value.agg #[iv 5, Value.pointer (some ⟨b3, 2, none⟩)]) (q_build (pl := [(0, 1), (1, 1)]) Tryd.underlying81 zo_81 (by kernel_rfl) (by kernel_rfl)) ?_
  refine Wl.q (v := Value.pointer (some ⟨b3, 3, none⟩)) (q_field (m := 3) fo_33_3 rfl rfl) ?_
  refine Wl.q (v := Value.agg #[iv 6, Value.pointer (some ⟨b3, 3, none⟩)]) (q_build (pl := [(0, 1), (1, 1)]) Tryd.underlying81 zo_81 (by kernel_rfl) (by kernel_rfl)) ?_
  refine Wl.q (v := Value.pointer (some ⟨b3, 4, none⟩)) (q_field (m := 4) fo_33_4 rfl rfl) ?_
  refine Wl.q (v := Value.agg #[iv 7, Value.pointer (some ⟨b3, 4, none⟩)]) (q_build (pl := [(0, 1), (1, 1)]) Tryd.underlying81 zo_81 (by kernel_rfl) (by kernel_rfl)) ?_
  refine Wl.q (v := Value.pointer (some ⟨b3, 5, none⟩)) (q_field (m := 5) fo_33_5 rfl rfl) ?_
  refine Wl.q (v := Value.agg #[iv 8, Value.pointer (some ⟨b3, 5, none⟩)]) (q_build (pl := [(0, 1), (1, 1)]) Tryd.underlying81 zo_81 (by kernel_rfl) (by kernel_rfl)) ?_
  refine Wl.e (e_buildSlice (cs := [iv 5, Value.pointer (some ⟨b3, 2, none⟩), iv 6, Value.pointer (some ⟨b3, 3, none⟩), iv 7, Value.pointer (some ⟨b3, 4, none⟩), iv 8, Value.pointer (some ⟨b3, 5, none⟩)]) se_82 zo_81 (by decide) (by decide) (by kernel_rfl)) (fun b4 _ => ?_)
  refine Wl.q (v := iv 4) (q_len_slice Tryd.underlying82 rfl) ?_
  refine Wl.q (v := iv 0) (q_move rfl) ?_
  refine Wl.done ?_
  refine Wx.go ?_
  refine Wc.block ?_
  refine Wc.rounds 64 ?_
  refine Wn.round ?_
  refine Wc.seq ?_
  refine Wc.region ?_
  refine Wl.q (v := Value.bool true) (q_lss (r := true) rfl rfl (decide_eq_true (by decide))) ?_
  refine Wl.done ?_
  refine Wx.go ?_
  refine Wc.seq ?_
  refine Wc.yes rfl ?_
  refine Wc.skip ?_
  refine Wx.go ?_
  refine Wc.seq ?_
  refine Wc.block ?_
  refine Wc.seq ?_
  refine Wc.region ?_
  refine Wl.q (v := pv b4) (q_idx (m := 0) se_82 rfl rfl (by omega) (by omega) rfl) ?_
  refine Wl.q (v := Value.agg #[iv 5, Value.pointer (some ⟨b3, 2, none⟩)]) (q_loadAgg (vs := [iv 5, Value.pointer (some ⟨b3, 2, none⟩)]) ag_81 rfl (Has.of_pt (i := 0) rfl rfl)) ?_
  refine Wl.e (e_alloc (vs := [iv 0, Value.pointer none]) zo_81 rfl) (fun b5 _ => ?_)
  refine Wl.e (e_storeAgg (i := 0) (vs := [iv 5, Value.pointer (some ⟨b3, 2, none⟩)]) (c' := [iv 5, Value.pointer (some ⟨b3, 2, none⟩)]) sz_81 rfl rfl rfl rfl (by simp) rfl) (fun _ _ => ?_)
  refine Wl.imp (L' := (pt b5 81 [iv 5, Value.pointer (some ⟨b3, 2, none⟩)]) :: (pt b4 81 [iv 5, Value.pointer (some ⟨b3, 2, none⟩), iv 6, Value.pointer (some ⟨b3, 3, none⟩), iv 7, Value.pointer (some ⟨b3, 4, none⟩), iv 8, Value.pointer (some ⟨b3, 5, none⟩)]) :: (pt b3 33 [iv 14, iv 15, iv 0, iv 0, iv 0, iv 0]) :: (pt b2 52 [pv q0, iv 0]) :: (storeW q0 tl14_15) :: (pt b1 33 [iv 0, iv 0, iv 0, iv 0, iv 0, iv 0]) :: F) (fun _ h => h) ?_
  refine Wl.done ?_
  refine Wx.go ?_
  refine Wc.drawsS [8] ((pt b5 81 [iv 5, Value.pointer (some ⟨b3, 2, none⟩)]) :: (pt b4 81 [iv 5, Value.pointer (some ⟨b3, 2, none⟩), iv 6, Value.pointer (some ⟨b3, 3, none⟩), iv 7, Value.pointer (some ⟨b3, 4, none⟩), iv 8, Value.pointer (some ⟨b3, 5, none⟩)]) :: (pt b3 33 [iv 14, iv 15, iv 0, iv 0, iv 0, iv 0]) :: (pt b1 33 [iv 0, iv 0, iv 0, iv 0, iv 0, iv 0]) :: []) (by kernel_rfl) ?_
  refine Wr.pure (v := Value.pointer (some ⟨b5, 1, none⟩)) 0 rfl (by kernel_rfl) (.inr (fun _ h => st_take [0, 0, 0, 2] h)) (.inl ⟨rfl, fun _ => q_field (m := 1) fo_81_1 rfl rfl⟩) ?_
  refine Wr.take (v := Value.pointer (some ⟨b3, 2, none⟩)) 1 rfl (by kernel_rfl) (fun _ h => st_take [0, 0, 0, 2] h) (.inl ⟨rfl, q_load sc_80 rfl (.cel (i := 0) rfl rfl)⟩) ?_
  refine Wr.pure (v := pv b2) 2 rfl (by kernel_rfl) (.inr (fun _ h => st_take [0, 0, 0, 2] h)) (.inl ⟨rfl, fun _ => q_move rfl⟩) ?_
  refine Wr.pure (v := pv b5) 3 rfl (by kernel_rfl) (.inr (fun _ h => st_take [0, 0, 0, 2] h)) (.inl ⟨rfl, fun _ => q_field (m := 0) fo_81_0 rfl rfl⟩) ?_
  refine Wr.take (v := iv 5) 4 rfl (by kernel_rfl) (fun _ h => st_take [0, 0, 0, 2] h) (.inl ⟨rfl, q_load sc_2 rfl (.cel (i := 0) rfl rfl)⟩) ?_
  refine Wr.pure (v := iv 15) 5 rfl (by kernel_rfl) (.inr (fun _ h => st_take [0, 0, 0, 2] h)) (.inl ⟨rfl, fun _ => q_move rfl⟩) ?_
  refine Wr.imp (L' := (pt b2 52 [pv q0, iv 0]) :: (storeW q0 tl14_15) :: (pt b5 81 [iv 5, Value.pointer (some ⟨b3, 2, none⟩)]) :: (pt b4 81 [iv 5, Value.pointer (some ⟨b3, 2, none⟩), iv 6, Value.pointer (some ⟨b3, 3, none⟩), iv 7, Value.pointer (some ⟨b3, 4, none⟩), iv 8, Value.pointer (some ⟨b3, 5, none⟩)]) :: (pt b3 33 [iv 14, iv 15, iv 0, iv 0, iv 0, iv 0]) :: (pt b1 33 [iv 0, iv 0, iv 0, iv 0, iv 0, iv 0]) :: F) (fun _ h => st_pull [3, 3] h) ?_
  refine Wr.e 6 (by kernel_rfl) rfl (e_call (F := (pt b5 81 [iv 5, Value.pointer (some ⟨b3, 2, none⟩)]) :: (pt b4 81 [iv 5, Value.pointer (some ⟨b3, 2, none⟩), iv 6, Value.pointer (some ⟨b3, 3, none⟩), iv 7, Value.pointer (some ⟨b3, 4, none⟩), iv 8, Value.pointer (some ⟨b3, 5, none⟩)]) :: (pt b3 33 [iv 14, iv 15, iv 0, iv 0, iv 0, iv 0]) :: (pt b1 33 [iv 0, iv 0, iv 0, iv 0, iv 0, iv 0]) :: F) (args := [pv b2, iv 5, iv 15, iv 0]) Tryd.call16 rfl (au51_kdf W0 b2 q0)) (.inr fun _ _ _ h => st_take [2, 2, 2, 2] h) (fun _ _ => ?_)
  refine Wr.imp (L' := (pt b2 52 [pv q0, iv 0]) :: (storeW q0 tl15_16) :: (pt b5 81 [iv 5, Value.pointer (some ⟨b3, 2, none⟩)]) :: (pt b4 81 [iv 5, Value.pointer (some ⟨b3, 2, none⟩), iv 6, Value.pointer (some ⟨b3, 3, none⟩), iv 7, Value.pointer (some ⟨b3, 4, none⟩), iv 8, Value.pointer (some ⟨b3, 5, none⟩)]) :: (pt b3 33 [iv 14, iv 15, iv 0, iv 0, iv 0, iv 0]) :: (pt b1 33 [iv 0, iv 0, iv 0, iv 0, iv 0, iv 0]) :: F) (fun _ h => h) ?_
  refine Wr.pure (v := Value.pointer (some ⟨b3, 2, none⟩)) 7 rfl (by kernel_rfl) (.inr (fun _ h => st_take [2, 2, 2, 2] h)) (.inl ⟨rfl, fun _ => q_nil_ptr rfl⟩) ?_
  refine Wr.e 8 (by kernel_rfl) rfl (e_store (i := 4) (v := iv 16) sz_3 rfl rfl (fun _ _ => rfl) rfl (by simp)) (.inl (by kernel_rfl)) (fun _ _ => ?_)
  refine Wr.imp (L' := (pt b2 52 [pv q0, iv 0]) :: (storeW q0 tl15_16) :: (pt b5 81 [iv 5, Value.pointer (some ⟨b3, 2, none⟩)]) :: (pt b4 81 [iv 5, Value.pointer (some ⟨b3, 2, none⟩), iv 6, Value.pointer (some ⟨b3, 3, none⟩), iv 7, Value.pointer (some ⟨b3, 4, none⟩), iv 8, Value.pointer (some ⟨b3, 5, none⟩)]) :: (pt b3 33 [iv 14, iv 15, iv 16, iv 0, iv 0, iv 0]) :: (pt b1 33 [iv 0, iv 0, iv 0, iv 0, iv 0, iv 0]) :: F) (fun _ h => h) ?_
  refine Wr.rebaseS [] ((pt b2 52 [pv q0, iv 0]) :: (storeW q0 tl15_16) :: (pt b5 81 [iv 5, Value.pointer (some ⟨b3, 2, none⟩)]) :: (pt b4 81 [iv 5, Value.pointer (some ⟨b3, 2, none⟩), iv 6, Value.pointer (some ⟨b3, 3, none⟩), iv 7, Value.pointer (some ⟨b3, 4, none⟩), iv 8, Value.pointer (some ⟨b3, 5, none⟩)]) :: (pt b3 33 [iv 14, iv 15, iv 16, iv 0, iv 0, iv 0]) :: (pt b1 33 [iv 0, iv 0, iv 0, iv 0, iv 0, iv 0]) :: []) (by kernel_rfl) ?_
  refine Wr.done (by kernel_rfl) ?_
  refine Wx.blockEnd ?_
  refine Wx.go ?_
  refine Wc.region ?_
  refine Wl.q (v := iv 1) (q_add (c := 1) rfl rfl (by decide)) ?_
  refine Wl.q (v := iv 1) (q_move rfl) ?_
  refine Wl.done ?_
  refine Wx.again ?_
  refine Wn.round ?_
  refine Wc.imp (L' := (pt b2 52 [pv q0, iv 0]) :: (storeW q0 tl15_16) :: (pt b4 81 [iv 5, Value.pointer (some ⟨b3, 2, none⟩), iv 6, Value.pointer (some ⟨b3, 3, none⟩), iv 7, Value.pointer (some ⟨b3, 4, none⟩), iv 8, Value.pointer (some ⟨b3, 5, none⟩)]) :: (pt b3 33 [iv 14, iv 15, iv 16, iv 0, iv 0, iv 0]) :: (pt b1 33 [iv 0, iv 0, iv 0, iv 0, iv 0, iv 0]) :: F) (fun w hs => (st_drop (st_pull [2] hs))) ?_
  refine Wc.seq ?_
  refine Wc.region ?_
  refine Wl.q (v := Value.bool true) (q_lss (r := true) rfl rfl (decide_eq_true (by decide))) ?_
  refine Wl.done ?_
  refine Wx.go ?_
  refine Wc.seq ?_
  refine Wc.yes rfl ?_
  refine Wc.skip ?_
  refine Wx.go ?_
  refine Wc.seq ?_
  refine Wc.block ?_
  refine Wc.seq ?_
  refine Wc.region ?_
  refine Wl.q (v := Value.pointer (some ⟨b4, 2, none⟩)) (q_idx (m := 2) se_82 rfl rfl (by omega) (by omega) rfl) ?_
  refine Wl.q (v := Value.agg #[iv 6, Value.pointer (some ⟨b3, 3, none⟩)]) (q_loadAgg (vs := [iv 6, Value.pointer (some ⟨b3, 3, none⟩)]) ag_81 rfl (Has.of_pt (i := 2) rfl rfl)) ?_
  refine Wl.e (e_alloc (vs := [iv 0, Value.pointer none]) zo_81 rfl) (fun b6 _ => ?_)
  refine Wl.e (e_storeAgg (i := 0) (vs := [iv 6, Value.pointer (some ⟨b3, 3, none⟩)]) (c' := [iv 6, Value.pointer (some ⟨b3, 3, none⟩)]) sz_81 rfl rfl rfl rfl (by simp) rfl) (fun _ _ => ?_)
  refine Wl.imp (L' := (pt b6 81 [iv 6, Value.pointer (some ⟨b3, 3, none⟩)]) :: (pt b2 52 [pv q0, iv 0]) :: (storeW q0 tl15_16) :: (pt b4 81 [iv 5, Value.pointer (some ⟨b3, 2, none⟩), iv 6, Value.pointer (some ⟨b3, 3, none⟩), iv 7, Value.pointer (some ⟨b3, 4, none⟩), iv 8, Value.pointer (some ⟨b3, 5, none⟩)]) :: (pt b3 33 [iv 14, iv 15, iv 16, iv 0, iv 0, iv 0]) :: (pt b1 33 [iv 0, iv 0, iv 0, iv 0, iv 0, iv 0]) :: F) (fun _ h => h) ?_
  refine Wl.done ?_
  refine Wx.go ?_
  refine Wc.drawsS [8] ((pt b6 81 [iv 6, Value.pointer (some ⟨b3, 3, none⟩)]) :: (pt b4 81 [iv 5, Value.pointer (some ⟨b3, 2, none⟩), iv 6, Value.pointer (some ⟨b3, 3, none⟩), iv 7, Value.pointer (some ⟨b3, 4, none⟩), iv 8, Value.pointer (some ⟨b3, 5, none⟩)]) :: (pt b3 33 [iv 14, iv 15, iv 16, iv 0, iv 0, iv 0]) :: (pt b1 33 [iv 0, iv 0, iv 0, iv 0, iv 0, iv 0]) :: []) (by kernel_rfl) ?_
  refine Wr.pure (v := Value.pointer (some ⟨b6, 1, none⟩)) 0 rfl (by kernel_rfl) (.inr (fun _ h => st_take [0, 2, 2, 2] h)) (.inl ⟨rfl, fun _ => q_field (m := 1) fo_81_1 rfl rfl⟩) ?_
  refine Wr.take (v := Value.pointer (some ⟨b3, 3, none⟩)) 1 rfl (by kernel_rfl) (fun _ h => st_take [0, 2, 2, 2] h) (.inl ⟨rfl, q_load sc_80 rfl (.cel (i := 0) rfl rfl)⟩) ?_
  refine Wr.pure (v := pv b2) 2 rfl (by kernel_rfl) (.inr (fun _ h => st_take [0, 2, 2, 2] h)) (.inl ⟨rfl, fun _ => q_move rfl⟩) ?_
  refine Wr.pure (v := pv b6) 3 rfl (by kernel_rfl) (.inr (fun _ h => st_take [0, 2, 2, 2] h)) (.inl ⟨rfl, fun _ => q_field (m := 0) fo_81_0 rfl rfl⟩) ?_
  refine Wr.take (v := iv 6) 4 rfl (by kernel_rfl) (fun _ h => st_take [0, 2, 2, 2] h) (.inl ⟨rfl, q_load sc_2 rfl (.cel (i := 0) rfl rfl)⟩) ?_
  refine Wr.pure (v := iv 15) 5 rfl (by kernel_rfl) (.inr (fun _ h => st_take [0, 2, 2, 2] h)) (.inl ⟨rfl, fun _ => q_move rfl⟩) ?_
  refine Wr.imp (L' := (pt b2 52 [pv q0, iv 0]) :: (storeW q0 tl15_16) :: (pt b6 81 [iv 6, Value.pointer (some ⟨b3, 3, none⟩)]) :: (pt b4 81 [iv 5, Value.pointer (some ⟨b3, 2, none⟩), iv 6, Value.pointer (some ⟨b3, 3, none⟩), iv 7, Value.pointer (some ⟨b3, 4, none⟩), iv 8, Value.pointer (some ⟨b3, 5, none⟩)]) :: (pt b3 33 [iv 14, iv 15, iv 16, iv 0, iv 0, iv 0]) :: (pt b1 33 [iv 0, iv 0, iv 0, iv 0, iv 0, iv 0]) :: F) (fun _ h => st_pull [1, 1] h) ?_
  refine Wr.e 6 (by kernel_rfl) rfl (e_call (F := (pt b6 81 [iv 6, Value.pointer (some ⟨b3, 3, none⟩)]) :: (pt b4 81 [iv 5, Value.pointer (some ⟨b3, 2, none⟩), iv 6, Value.pointer (some ⟨b3, 3, none⟩), iv 7, Value.pointer (some ⟨b3, 4, none⟩), iv 8, Value.pointer (some ⟨b3, 5, none⟩)]) :: (pt b3 33 [iv 14, iv 15, iv 16, iv 0, iv 0, iv 0]) :: (pt b1 33 [iv 0, iv 0, iv 0, iv 0, iv 0, iv 0]) :: F) (args := [pv b2, iv 6, iv 15, iv 0]) Tryd.call16 rfl (au53_kdf W0 b2 q0)) (.inr fun _ _ _ h => st_take [2, 2, 2, 2] h) (fun _ _ => ?_)
  refine Wr.imp (L' := (pt b2 52 [pv q0, iv 0]) :: (storeW q0 tl16_17) :: (pt b6 81 [iv 6, Value.pointer (some ⟨b3, 3, none⟩)]) :: (pt b4 81 [iv 5, Value.pointer (some ⟨b3, 2, none⟩), iv 6, Value.pointer (some ⟨b3, 3, none⟩), iv 7, Value.pointer (some ⟨b3, 4, none⟩), iv 8, Value.pointer (some ⟨b3, 5, none⟩)]) :: (pt b3 33 [iv 14, iv 15, iv 16, iv 0, iv 0, iv 0]) :: (pt b1 33 [iv 0, iv 0, iv 0, iv 0, iv 0, iv 0]) :: F) (fun _ h => h) ?_
  refine Wr.pure (v := Value.pointer (some ⟨b3, 3, none⟩)) 7 rfl (by kernel_rfl) (.inr (fun _ h => st_take [2, 2, 2, 2] h)) (.inl ⟨rfl, fun _ => q_nil_ptr rfl⟩) ?_
  refine Wr.e 8 (by kernel_rfl) rfl (e_store (i := 4) (v := iv 17) sz_3 rfl rfl (fun _ _ => rfl) rfl (by simp)) (.inl (by kernel_rfl)) (fun _ _ => ?_)
  refine Wr.imp (L' := (pt b2 52 [pv q0, iv 0]) :: (storeW q0 tl16_17) :: (pt b6 81 [iv 6, Value.pointer (some ⟨b3, 3, none⟩)]) :: (pt b4 81 [iv 5, Value.pointer (some ⟨b3, 2, none⟩), iv 6, Value.pointer (some ⟨b3, 3, none⟩), iv 7, Value.pointer (some ⟨b3, 4, none⟩), iv 8, Value.pointer (some ⟨b3, 5, none⟩)]) :: (pt b3 33 [iv 14, iv 15, iv 16, iv 17, iv 0, iv 0]) :: (pt b1 33 [iv 0, iv 0, iv 0, iv 0, iv 0, iv 0]) :: F) (fun _ h => h) ?_
  refine Wr.rebaseS [] ((pt b2 52 [pv q0, iv 0]) :: (storeW q0 tl16_17) :: (pt b6 81 [iv 6, Value.pointer (some ⟨b3, 3, none⟩)]) :: (pt b4 81 [iv 5, Value.pointer (some ⟨b3, 2, none⟩), iv 6, Value.pointer (some ⟨b3, 3, none⟩), iv 7, Value.pointer (some ⟨b3, 4, none⟩), iv 8, Value.pointer (some ⟨b3, 5, none⟩)]) :: (pt b3 33 [iv 14, iv 15, iv 16, iv 17, iv 0, iv 0]) :: (pt b1 33 [iv 0, iv 0, iv 0, iv 0, iv 0, iv 0]) :: []) (by kernel_rfl) ?_
  refine Wr.done (by kernel_rfl) ?_
  refine Wx.blockEnd ?_
  refine Wx.go ?_
  refine Wc.region ?_
  refine Wl.q (v := iv 2) (q_add (c := 2) rfl rfl (by decide)) ?_
  refine Wl.q (v := iv 2) (q_move rfl) ?_
  refine Wl.done ?_
  refine Wx.again ?_
  refine Wn.round ?_
  refine Wc.imp (L' := (pt b2 52 [pv q0, iv 0]) :: (storeW q0 tl16_17) :: (pt b4 81 [iv 5, Value.pointer (some ⟨b3, 2, none⟩), iv 6, Value.pointer (some ⟨b3, 3, none⟩), iv 7, Value.pointer (some ⟨b3, 4, none⟩), iv 8, Value.pointer (some ⟨b3, 5, none⟩)]) :: (pt b3 33 [iv 14, iv 15, iv 16, iv 17, iv 0, iv 0]) :: (pt b1 33 [iv 0, iv 0, iv 0, iv 0, iv 0, iv 0]) :: F) (fun w hs => (st_drop (st_pull [2] hs))) ?_
  refine Wc.seq ?_
  refine Wc.region ?_
  refine Wl.q (v := Value.bool true) (q_lss (r := true) rfl rfl (decide_eq_true (by decide))) ?_
  refine Wl.done ?_
  refine Wx.go ?_
  refine Wc.seq ?_
  refine Wc.yes rfl ?_
  refine Wc.skip ?_
  refine Wx.go ?_
  refine Wc.seq ?_
  refine Wc.block ?_
  refine Wc.seq ?_
  refine Wc.region ?_
  refine Wl.q (v := Value.pointer (some ⟨b4, 4, none⟩)) (q_idx (m := 4) se_82 rfl rfl (by omega) (by omega) rfl) ?_
  refine Wl.q (v := Value.agg #[iv 7, Value.pointer (some ⟨b3, 4, none⟩)]) (q_loadAgg (vs := [iv 7, Value.pointer (some ⟨b3, 4, none⟩)]) ag_81 rfl (Has.of_pt (i := 2) rfl rfl)) ?_
  refine Wl.e (e_alloc (vs := [iv 0, Value.pointer none]) zo_81 rfl) (fun b7 _ => ?_)
  refine Wl.e (e_storeAgg (i := 0) (vs := [iv 7, Value.pointer (some ⟨b3, 4, none⟩)]) (c' := [iv 7, Value.pointer (some ⟨b3, 4, none⟩)]) sz_81 rfl rfl rfl rfl (by simp) rfl) (fun _ _ => ?_)
  refine Wl.imp (L' := (pt b7 81 [iv 7, Value.pointer (some ⟨b3, 4, none⟩)]) :: (pt b2 52 [pv q0, iv 0]) :: (storeW q0 tl16_17) :: (pt b4 81 [iv 5, Value.pointer (some ⟨b3, 2, none⟩), iv 6, Value.pointer (some ⟨b3, 3, none⟩), iv 7, Value.pointer (some ⟨b3, 4, none⟩), iv 8, Value.pointer (some ⟨b3, 5, none⟩)]) :: (pt b3 33 [iv 14, iv 15, iv 16, iv 17, iv 0, iv 0]) :: (pt b1 33 [iv 0, iv 0, iv 0, iv 0, iv 0, iv 0]) :: F) (fun _ h => h) ?_
  refine Wl.done ?_
  refine Wx.go ?_
  refine Wc.drawsS [8] ((pt b7 81 [iv 7, Value.pointer (some ⟨b3, 4, none⟩)]) :: (pt b4 81 [iv 5, Value.pointer (some ⟨b3, 2, none⟩), iv 6, Value.pointer (some ⟨b3, 3, none⟩), iv 7, Value.pointer (some ⟨b3, 4, none⟩), iv 8, Value.pointer (some ⟨b3, 5, none⟩)]) :: (pt b3 33 [iv 14, iv 15, iv 16, iv 17, iv 0, iv 0]) :: (pt b1 33 [iv 0, iv 0, iv 0, iv 0, iv 0, iv 0]) :: []) (by kernel_rfl) ?_
  refine Wr.pure (v := Value.pointer (some ⟨b7, 1, none⟩)) 0 rfl (by kernel_rfl) (.inr (fun _ h => st_take [0, 2, 2, 2] h)) (.inl ⟨rfl, fun _ => q_field (m := 1) fo_81_1 rfl rfl⟩) ?_
  refine Wr.take (v := Value.pointer (some ⟨b3, 4, none⟩)) 1 rfl (by kernel_rfl) (fun _ h => st_take [0, 2, 2, 2] h) (.inl ⟨rfl, q_load sc_80 rfl (.cel (i := 0) rfl rfl)⟩) ?_
  refine Wr.pure (v := pv b2) 2 rfl (by kernel_rfl) (.inr (fun _ h => st_take [0, 2, 2, 2] h)) (.inl ⟨rfl, fun _ => q_move rfl⟩) ?_
  refine Wr.pure (v := pv b7) 3 rfl (by kernel_rfl) (.inr (fun _ h => st_take [0, 2, 2, 2] h)) (.inl ⟨rfl, fun _ => q_field (m := 0) fo_81_0 rfl rfl⟩) ?_
  refine Wr.take (v := iv 7) 4 rfl (by kernel_rfl) (fun _ h => st_take [0, 2, 2, 2] h) (.inl ⟨rfl, q_load sc_2 rfl (.cel (i := 0) rfl rfl)⟩) ?_
  refine Wr.pure (v := iv 15) 5 rfl (by kernel_rfl) (.inr (fun _ h => st_take [0, 2, 2, 2] h)) (.inl ⟨rfl, fun _ => q_move rfl⟩) ?_
  refine Wr.imp (L' := (pt b2 52 [pv q0, iv 0]) :: (storeW q0 tl16_17) :: (pt b7 81 [iv 7, Value.pointer (some ⟨b3, 4, none⟩)]) :: (pt b4 81 [iv 5, Value.pointer (some ⟨b3, 2, none⟩), iv 6, Value.pointer (some ⟨b3, 3, none⟩), iv 7, Value.pointer (some ⟨b3, 4, none⟩), iv 8, Value.pointer (some ⟨b3, 5, none⟩)]) :: (pt b3 33 [iv 14, iv 15, iv 16, iv 17, iv 0, iv 0]) :: (pt b1 33 [iv 0, iv 0, iv 0, iv 0, iv 0, iv 0]) :: F) (fun _ h => st_pull [1, 1] h) ?_
  refine Wr.e 6 (by kernel_rfl) rfl (e_call (F := (pt b7 81 [iv 7, Value.pointer (some ⟨b3, 4, none⟩)]) :: (pt b4 81 [iv 5, Value.pointer (some ⟨b3, 2, none⟩), iv 6, Value.pointer (some ⟨b3, 3, none⟩), iv 7, Value.pointer (some ⟨b3, 4, none⟩), iv 8, Value.pointer (some ⟨b3, 5, none⟩)]) :: (pt b3 33 [iv 14, iv 15, iv 16, iv 17, iv 0, iv 0]) :: (pt b1 33 [iv 0, iv 0, iv 0, iv 0, iv 0, iv 0]) :: F) (args := [pv b2, iv 7, iv 15, iv 0]) Tryd.call16 rfl (au55_kdf W0 b2 q0)) (.inr fun _ _ _ h => st_take [2, 2, 2, 2] h) (fun _ _ => ?_)
  refine Wr.imp (L' := (pt b2 52 [pv q0, iv 0]) :: (storeW q0 tl17_18) :: (pt b7 81 [iv 7, Value.pointer (some ⟨b3, 4, none⟩)]) :: (pt b4 81 [iv 5, Value.pointer (some ⟨b3, 2, none⟩), iv 6, Value.pointer (some ⟨b3, 3, none⟩), iv 7, Value.pointer (some ⟨b3, 4, none⟩), iv 8, Value.pointer (some ⟨b3, 5, none⟩)]) :: (pt b3 33 [iv 14, iv 15, iv 16, iv 17, iv 0, iv 0]) :: (pt b1 33 [iv 0, iv 0, iv 0, iv 0, iv 0, iv 0]) :: F) (fun _ h => h) ?_
  refine Wr.pure (v := Value.pointer (some ⟨b3, 4, none⟩)) 7 rfl (by kernel_rfl) (.inr (fun _ h => st_take [2, 2, 2, 2] h)) (.inl ⟨rfl, fun _ => q_nil_ptr rfl⟩) ?_
  refine Wr.e 8 (by kernel_rfl) rfl (e_store (i := 4) (v := iv 18) sz_3 rfl rfl (fun _ _ => rfl) rfl (by simp)) (.inl (by kernel_rfl)) (fun _ _ => ?_)
  refine Wr.imp (L' := (pt b2 52 [pv q0, iv 0]) :: (storeW q0 tl17_18) :: (pt b7 81 [iv 7, Value.pointer (some ⟨b3, 4, none⟩)]) :: (pt b4 81 [iv 5, Value.pointer (some ⟨b3, 2, none⟩), iv 6, Value.pointer (some ⟨b3, 3, none⟩), iv 7, Value.pointer (some ⟨b3, 4, none⟩), iv 8, Value.pointer (some ⟨b3, 5, none⟩)]) :: (pt b3 33 [iv 14, iv 15, iv 16, iv 17, iv 18, iv 0]) :: (pt b1 33 [iv 0, iv 0, iv 0, iv 0, iv 0, iv 0]) :: F) (fun _ h => h) ?_
  refine Wr.rebaseS [] ((pt b2 52 [pv q0, iv 0]) :: (storeW q0 tl17_18) :: (pt b7 81 [iv 7, Value.pointer (some ⟨b3, 4, none⟩)]) :: (pt b4 81 [iv 5, Value.pointer (some ⟨b3, 2, none⟩), iv 6, Value.pointer (some ⟨b3, 3, none⟩), iv 7, Value.pointer (some ⟨b3, 4, none⟩), iv 8, Value.pointer (some ⟨b3, 5, none⟩)]) :: (pt b3 33 [iv 14, iv 15, iv 16, iv 17, iv 18, iv 0]) :: (pt b1 33 [iv 0, iv 0, iv 0, iv 0, iv 0, iv 0]) :: []) (by kernel_rfl) ?_
  refine Wr.done (by kernel_rfl) ?_
  refine Wx.blockEnd ?_
  refine Wx.go ?_
  refine Wc.region ?_
  refine Wl.q (v := iv 3) (q_add (c := 3) rfl rfl (by decide)) ?_
  refine Wl.q (v := iv 3) (q_move rfl) ?_
  refine Wl.done ?_
  refine Wx.again ?_
  refine Wn.round ?_
  refine Wc.imp (L' := (pt b2 52 [pv q0, iv 0]) :: (storeW q0 tl17_18) :: (pt b4 81 [iv 5, Value.pointer (some ⟨b3, 2, none⟩), iv 6, Value.pointer (some ⟨b3, 3, none⟩), iv 7, Value.pointer (some ⟨b3, 4, none⟩), iv 8, Value.pointer (some ⟨b3, 5, none⟩)]) :: (pt b3 33 [iv 14, iv 15, iv 16, iv 17, iv 18, iv 0]) :: (pt b1 33 [iv 0, iv 0, iv 0, iv 0, iv 0, iv 0]) :: F) (fun w hs => (st_drop (st_pull [2] hs))) ?_
  refine Wc.seq ?_
  refine Wc.region ?_
  refine Wl.q (v := Value.bool true) (q_lss (r := true) rfl rfl (decide_eq_true (by decide))) ?_
  refine Wl.done ?_
  refine Wx.go ?_
  refine Wc.seq ?_
  refine Wc.yes rfl ?_
  refine Wc.skip ?_
  refine Wx.go ?_
  refine Wc.seq ?_
  refine Wc.block ?_
  refine Wc.seq ?_
  refine Wc.region ?_
  refine Wl.q (v := Value.pointer (some ⟨b4, 6, none⟩)) (q_idx (m := 6) se_82 rfl rfl (by omega) (by omega) rfl) ?_
  refine Wl.q (v := Value.agg #[iv 8, Value.pointer (some ⟨b3, 5, none⟩)]) (q_loadAgg (vs := [iv 8, Value.pointer (some ⟨b3, 5, none⟩)]) ag_81 rfl (Has.of_pt (i := 2) rfl rfl)) ?_
  refine Wl.e (e_alloc (vs := [iv 0, Value.pointer none]) zo_81 rfl) (fun b8 _ => ?_)
  refine Wl.e (e_storeAgg (i := 0) (vs := [iv 8, Value.pointer (some ⟨b3, 5, none⟩)]) (c' := [iv 8, Value.pointer (some ⟨b3, 5, none⟩)]) sz_81 rfl rfl rfl rfl (by simp) rfl) (fun _ _ => ?_)
  refine Wl.imp (L' := (pt b8 81 [iv 8, Value.pointer (some ⟨b3, 5, none⟩)]) :: (pt b2 52 [pv q0, iv 0]) :: (storeW q0 tl17_18) :: (pt b4 81 [iv 5, Value.pointer (some ⟨b3, 2, none⟩), iv 6, Value.pointer (some ⟨b3, 3, none⟩), iv 7, Value.pointer (some ⟨b3, 4, none⟩), iv 8, Value.pointer (some ⟨b3, 5, none⟩)]) :: (pt b3 33 [iv 14, iv 15, iv 16, iv 17, iv 18, iv 0]) :: (pt b1 33 [iv 0, iv 0, iv 0, iv 0, iv 0, iv 0]) :: F) (fun _ h => h) ?_
  refine Wl.done ?_
  refine Wx.go ?_
  refine Wc.drawsS [8] ((pt b8 81 [iv 8, Value.pointer (some ⟨b3, 5, none⟩)]) :: (pt b4 81 [iv 5, Value.pointer (some ⟨b3, 2, none⟩), iv 6, Value.pointer (some ⟨b3, 3, none⟩), iv 7, Value.pointer (some ⟨b3, 4, none⟩), iv 8, Value.pointer (some ⟨b3, 5, none⟩)]) :: (pt b3 33 [iv 14, iv 15, iv 16, iv 17, iv 18, iv 0]) :: (pt b1 33 [iv 0, iv 0, iv 0, iv 0, iv 0, iv 0]) :: []) (by kernel_rfl) ?_
  refine Wr.pure (v := Value.pointer (some ⟨b8, 1, none⟩)) 0 rfl (by kernel_rfl) (.inr (fun _ h => st_take [0, 2, 2, 2] h)) (.inl ⟨rfl, fun _ => q_field (m := 1) fo_81_1 rfl rfl⟩) ?_
  refine Wr.take (v := Value.pointer (some ⟨b3, 5, none⟩)) 1 rfl (by kernel_rfl) (fun _ h => st_take [0, 2, 2, 2] h) (.inl ⟨rfl, q_load sc_80 rfl (.cel (i := 0) rfl rfl)⟩) ?_
  refine Wr.pure (v := pv b2) 2 rfl (by kernel_rfl) (.inr (fun _ h => st_take [0, 2, 2, 2] h)) (.inl ⟨rfl, fun _ => q_move rfl⟩) ?_
  refine Wr.pure (v := pv b8) 3 rfl (by kernel_rfl) (.inr (fun _ h => st_take [0, 2, 2, 2] h)) (.inl ⟨rfl, fun _ => q_field (m := 0) fo_81_0 rfl rfl⟩) ?_
  refine Wr.take (v := iv 8) 4 rfl (by kernel_rfl) (fun _ h => st_take [0, 2, 2, 2] h) (.inl ⟨rfl, q_load sc_2 rfl (.cel (i := 0) rfl rfl)⟩) ?_
  refine Wr.pure (v := iv 15) 5 rfl (by kernel_rfl) (.inr (fun _ h => st_take [0, 2, 2, 2] h)) (.inl ⟨rfl, fun _ => q_move rfl⟩) ?_
  refine Wr.imp (L' := (pt b2 52 [pv q0, iv 0]) :: (storeW q0 tl17_18) :: (pt b8 81 [iv 8, Value.pointer (some ⟨b3, 5, none⟩)]) :: (pt b4 81 [iv 5, Value.pointer (some ⟨b3, 2, none⟩), iv 6, Value.pointer (some ⟨b3, 3, none⟩), iv 7, Value.pointer (some ⟨b3, 4, none⟩), iv 8, Value.pointer (some ⟨b3, 5, none⟩)]) :: (pt b3 33 [iv 14, iv 15, iv 16, iv 17, iv 18, iv 0]) :: (pt b1 33 [iv 0, iv 0, iv 0, iv 0, iv 0, iv 0]) :: F) (fun _ h => st_pull [1, 1] h) ?_
  refine Wr.e 6 (by kernel_rfl) rfl (e_call (F := (pt b8 81 [iv 8, Value.pointer (some ⟨b3, 5, none⟩)]) :: (pt b4 81 [iv 5, Value.pointer (some ⟨b3, 2, none⟩), iv 6, Value.pointer (some ⟨b3, 3, none⟩), iv 7, Value.pointer (some ⟨b3, 4, none⟩), iv 8, Value.pointer (some ⟨b3, 5, none⟩)]) :: (pt b3 33 [iv 14, iv 15, iv 16, iv 17, iv 18, iv 0]) :: (pt b1 33 [iv 0, iv 0, iv 0, iv 0, iv 0, iv 0]) :: F) (args := [pv b2, iv 8, iv 15, iv 0]) Tryd.call16 rfl (au57_kdf W0 b2 q0)) (.inr fun _ _ _ h => st_take [2, 2, 2, 2] h) (fun _ _ => ?_)
  refine Wr.imp (L' := (pt b2 52 [pv q0, iv 0]) :: (storeW q0 tl18_19) :: (pt b8 81 [iv 8, Value.pointer (some ⟨b3, 5, none⟩)]) :: (pt b4 81 [iv 5, Value.pointer (some ⟨b3, 2, none⟩), iv 6, Value.pointer (some ⟨b3, 3, none⟩), iv 7, Value.pointer (some ⟨b3, 4, none⟩), iv 8, Value.pointer (some ⟨b3, 5, none⟩)]) :: (pt b3 33 [iv 14, iv 15, iv 16, iv 17, iv 18, iv 0]) :: (pt b1 33 [iv 0, iv 0, iv 0, iv 0, iv 0, iv 0]) :: F) (fun _ h => h) ?_
  refine Wr.pure (v := Value.pointer (some ⟨b3, 5, none⟩)) 7 rfl (by kernel_rfl) (.inr (fun _ h => st_take [2, 2, 2, 2] h)) (.inl ⟨rfl, fun _ => q_nil_ptr rfl⟩) ?_
  refine Wr.e 8 (by kernel_rfl) rfl (e_store (i := 4) (v := iv 19) sz_3 rfl rfl (fun _ _ => rfl) rfl (by simp)) (.inl (by kernel_rfl)) (fun _ _ => ?_)
  refine Wr.imp (L' := (pt b2 52 [pv q0, iv 0]) :: (storeW q0 tl18_19) :: (pt b8 81 [iv 8, Value.pointer (some ⟨b3, 5, none⟩)]) :: (pt b4 81 [iv 5, Value.pointer (some ⟨b3, 2, none⟩), iv 6, Value.pointer (some ⟨b3, 3, none⟩), iv 7, Value.pointer (some ⟨b3, 4, none⟩), iv 8, Value.pointer (some ⟨b3, 5, none⟩)]) :: (pt b3 33 [iv 14, iv 15, iv 16, iv 17, iv 18, iv 19]) :: (pt b1 33 [iv 0, iv 0, iv 0, iv 0, iv 0, iv 0]) :: F) (fun _ h => h) ?_
  refine Wr.rebaseS [] ((pt b2 52 [pv q0, iv 0]) :: (storeW q0 tl18_19) :: (pt b8 81 [iv 8, Value.pointer (some ⟨b3, 5, none⟩)]) :: (pt b4 81 [iv 5, Value.pointer (some ⟨b3, 2, none⟩), iv 6, Value.pointer (some ⟨b3, 3, none⟩), iv 7, Value.pointer (some ⟨b3, 4, none⟩), iv 8, Value.pointer (some ⟨b3, 5, none⟩)]) :: (pt b3 33 [iv 14, iv 15, iv 16, iv 17, iv 18, iv 19]) :: (pt b1 33 [iv 0, iv 0, iv 0, iv 0, iv 0, iv 0]) :: []) (by kernel_rfl) ?_
  refine Wr.done (by kernel_rfl) ?_
  refine Wx.blockEnd ?_
  refine Wx.go ?_
  refine Wc.region ?_
  refine Wl.q (v := iv 4) (q_add (c := 4) rfl rfl (by decide)) ?_
  refine Wl.q (v := iv 4) (q_move rfl) ?_
  refine Wl.done ?_
  refine Wx.again ?_
  refine Wn.round ?_
  refine Wc.imp (L' := (pt b2 52 [pv q0, iv 0]) :: (storeW q0 tl18_19) :: (pt b4 81 [iv 5, Value.pointer (some ⟨b3, 2, none⟩), iv 6, Value.pointer (some ⟨b3, 3, none⟩), iv 7, Value.pointer (some ⟨b3, 4, none⟩), iv 8, Value.pointer (some ⟨b3, 5, none⟩)]) :: (pt b3 33 [iv 14, iv 15, iv 16, iv 17, iv 18, iv 19]) :: (pt b1 33 [iv 0, iv 0, iv 0, iv 0, iv 0, iv 0]) :: F) (fun w hs => (st_drop (st_pull [2] hs))) ?_
  refine Wc.seq ?_
  refine Wc.region ?_
  refine Wl.q (v := Value.bool false) (q_lss (r := false) rfl rfl (decide_eq_false (by decide))) ?_
  refine Wl.done ?_
  refine Wx.go ?_
  refine Wc.seq ?_
  refine Wc.no rfl ?_
  refine Wc.exit ?_
  refine Wx.thenExit ?_
  refine Wx.thenExit ?_
  refine Wx.out ?_
  refine Wx.go ?_
  refine Wc.seq ?_
  refine Wc.seq ?_
  refine Wc.region ?_
  refine Wl.q (v := pv b2) (q_move rfl) ?_
  refine Wl.q (v := pv b2) (q_nil_ptr rfl) ?_
  refine Wl.q (v := Value.pointer (some ⟨b2, 1, none⟩)) (q_field (m := 1) fo_52_1 rfl rfl) ?_
  refine Wl.q (v := iv 0) (q_load sc_34 rfl (.cel (i := 0) rfl rfl)) ?_
  refine Wl.q (v := Value.bool false) (q_neq (r := true) rfl rfl (decide_eq_true (by decide))) ?_
  refine Wl.done ?_
  refine Wx.go ?_
  refine Wc.no rfl ?_
  refine Wc.skip ?_
  refine Wx.go ?_
  refine Wc.seq ?_
  refine Wc.imp (L' := (storeW q0 tl18_19) :: (pt b3 33 [iv 14, iv 15, iv 16, iv 17, iv 18, iv 19]) :: (pt b1 33 [iv 0, iv 0, iv 0, iv 0, iv 0, iv 0]) :: F) (fun w hs => (st_drop (st_drop (st_pull [0, 1] hs)))) ?_
  refine Wc.region ?_
  refine Wl.q (v := Value.agg #[iv 14, iv 15, iv 16, iv 17, iv 18, iv 19]) (q_loadAgg (vs := [iv 14, iv 15, iv 16, iv 17, iv 18, iv 19]) ag_33 rfl (Has.of_pt (i := 1) rfl rfl)) ?_
  refine Wl.e (e_storeAgg (i := 2) (vs := [iv 14, iv 15, iv 16, iv 17, iv 18, iv 19]) (c' := [iv 14, iv 15, iv 16, iv 17, iv 18, iv 19]) sz_33 rfl rfl rfl rfl (by simp) rfl) (fun _ _ => ?_)
  refine Wl.imp (L' := (storeW q0 tl18_19) :: (pt b3 33 [iv 14, iv 15, iv 16, iv 17, iv 18, iv 19]) :: (pt b1 33 [iv 14, iv 15, iv 16, iv 17, iv 18, iv 19]) :: F) (fun _ h => h) ?_
  refine Wl.q (v := iv 0) (q_assign rfl) ?_
  refine Wl.done ?_
  refine Wx.go ?_
  refine Wc.ret ?_
  refine Wx.finA2 (vs := [iv 14, iv 15, iv 16, iv 17, iv 18, iv 19]) rfl (.inl rfl) ag_33 rfl (Has.of_pt (i := 2) rfl rfl) (fun w hs => ?_)
  have hs : st W0 w ((storeW q0 tl18_19) :: F) := (st_drop (st_drop (st_pull [1, 1] hs)))
  exact ⟨(), trivial, rfl, hs⟩

set_option maxRecDepth 8000 in
set_option maxHeartbeats 4000000 in
theorem au35_Next (W0 : World) (q0 : Nat)  :
    Con Tryd.prog W0 6 #[pv q0, iv 1, iv 2, iv 12] [storeW q0 tl11_12] (X := Unit) (fun _ => True) (fun _ => Value.tuple #[Value.agg #[iv 14, iv 15, iv 16, iv 17, iv 18, iv 19], iv 0]) (fun _ => [storeW q0 tl18_19]) := by
  refine Con.of (args := [pv q0, iv 1, iv 2, iv 12]) Tryd.func6 rfl Tryd.ntmps6 rfl (fun F => ?_)
  show Wc _ W0 _ _ _ _ _ ((storeW q0 tl11_12) :: F)
  refine Wc.seq ?_
  refine Wc.region ?_
  refine Wl.e (e_alloc (vs := [iv 0, iv 0, iv 0, iv 0, iv 0, iv 0]) zo_33 rfl) (fun b1 _ => ?_)
  refine Wl.q (v := iv 0) (q_assign rfl) ?_
  refine Wl.done ?_
  refine Wx.go ?_
  refine Wc.seq ?_
  refine Wc.seq ?_
  refine Wc.region ?_
  refine Wl.q (v := pv q0) (q_move rfl) ?_
  refine Wl.imp (L' := (storeW q0 tl11_12) :: (pt b1 33 [iv 0, iv 0, iv 0, iv 0, iv 0, iv 0]) :: F) (fun _ h => st_pull [1] h) ?_
  refine Wl.e (e_call (F := (pt b1 33 [iv 0, iv 0, iv 0, iv 0, iv 0, iv 0]) :: F) (args := [pv q0]) Tryd.call14 rfl (au36_alive W0 q0)) (fun _ _ => ?_)
  refine Wl.imp (L' := (storeW q0 tl11_12) :: (pt b1 33 [iv 0, iv 0, iv 0, iv 0, iv 0, iv 0]) :: F) (fun _ h => h) ?_
  refine Wl.q (v := Value.bool false) (q_not rfl rfl) ?_
  refine Wl.done ?_
  refine Wx.go ?_
  refine Wc.no rfl ?_
  refine Wc.skip ?_
  refine Wx.go ?_
  refine Wc.seq ?_
  refine Wc.seq ?_
  refine Wc.region ?_
  refine Wl.q (v := pv q0) (q_move rfl) ?_
  refine Wl.q (v := iv 1) (q_move rfl) ?_
  refine Wl.e (e_call (F := (pt b1 33 [iv 0, iv 0, iv 0, iv 0, iv 0, iv 0]) :: F) (args := [pv q0, iv 1]) Tryd.call15 rfl (au38_there W0 q0)) (fun _ _ => ?_)
  refine Wl.imp (L' := (storeW q0 tl11_12) :: (pt b1 33 [iv 0, iv 0, iv 0, iv 0, iv 0, iv 0]) :: F) (fun _ h => h) ?_
  refine Wl.q (v := Value.bool false) (q_not rfl rfl) ?_
  refine Wl.q (v := Value.bool false) (q_move rfl) ?_
  refine Wl.q (v := pv q0) (q_move rfl) ?_
  refine Wl.q (v := iv 2) (q_move rfl) ?_
  refine Wl.e (e_call (F := (pt b1 33 [iv 0, iv 0, iv 0, iv 0, iv 0, iv 0]) :: F) (args := [pv q0, iv 2]) Tryd.call15 rfl (au39_there W0 q0)) (fun _ _ => ?_)
  refine Wl.imp (L' := (storeW q0 tl11_12) :: (pt b1 33 [iv 0, iv 0, iv 0, iv 0, iv 0, iv 0]) :: F) (fun _ h => h) ?_
  refine Wl.q (v := Value.bool false) (q_not rfl rfl) ?_
  refine Wl.q (v := Value.bool false) (q_pick (t := false) rfl rfl) ?_
  refine Wl.q (v := Value.bool false) (q_move rfl) ?_
  refine Wl.q (v := pv q0) (q_move rfl) ?_
  refine Wl.q (v := iv 12) (q_move rfl) ?_
  refine Wl.e (e_call (F := (pt b1 33 [iv 0, iv 0, iv 0, iv 0, iv 0, iv 0]) :: F) (args := [pv q0, iv 12]) Tryd.call15 rfl (au40_there W0 q0)) (fun _ _ => ?_)
  refine Wl.imp (L' := (storeW q0 tl11_12) :: (pt b1 33 [iv 0, iv 0, iv 0, iv 0, iv 0, iv 0]) :: F) (fun _ h => h) ?_
  refine Wl.q (v := Value.bool false) (q_not rfl rfl) ?_
  refine Wl.q (v := Value.bool false) (q_pick (t := false) rfl rfl) ?_
  refine Wl.done ?_
  refine Wx.go ?_
  refine Wc.no rfl ?_
  refine Wc.skip ?_
  refine Wx.go ?_
  refine Wc.seq ?_
  refine Wc.region ?_
  refine Wl.q (v := pv q0) (q_move rfl) ?_
  refine Wl.q (v := Value.agg #[pv q0, iv 0]) (q_build (pl := [(0, 1), (1, 1)]) Tryd.underlying52 zo_52 (by kernel_rfl) (by kernel_rfl)) ?_
  refine Wl.e (e_box (x := .tmp 34) (vs := [pv q0, iv 0]) rfl) (fun b2 _ => ?_)
  refine Wl.q (v := pv b2) (q_assign rfl) ?_
  refine Wl.done ?_
  refine Wx.go ?_
  refine Wc.seq ?_
  refine Wc.region ?_
  refine Wl.q (v := pv b2) (q_move rfl) ?_
  refine Wl.q (v := pv b2) (q_move rfl) ?_
  refine Wl.q (v := iv 1) (q_move rfl) ?_
  refine Wl.q (v := iv 2) (q_move rfl) ?_
  refine Wl.q (v := Value.agg #[Value.int .u8 3, iv 0, iv 1, iv 2]) (q_build (pl := [(0, 1), (1, 1), (2, 1), (3, 1)]) Tryd.underlying29 zo_29 (by kernel_rfl) (by kernel_rfl)) ?_
  refine Wl.e (e_call (F := (pt b1 33 [iv 0, iv 0, iv 0, iv 0, iv 0, iv 0]) :: F) (args := [pv b2, Value.agg #[Value.int .u8 3, iv 0, iv 1, iv 2]]) Tryd.call17 rfl (au41_make W0 b2 q0)) (fun _ _ => ?_)
  refine Wl.imp (L' := (pt b2 52 [pv q0, iv 0]) :: (storeW q0 tl12_13) :: (pt b1 33 [iv 0, iv 0, iv 0, iv 0, iv 0, iv 0]) :: F) (fun _ h => h) ?_
  refine Wl.e (e_call (F := (pt b1 33 [iv 0, iv 0, iv 0, iv 0, iv 0, iv 0]) :: F) (args := [pv b2, iv 3, iv 13, iv 0]) Tryd.call16 rfl (au42_kdf W0 b2 q0)) (fun _ _ => ?_)
  refine Wl.imp (L' := (pt b2 52 [pv q0, iv 0]) :: (storeW q0 tl13_14) :: (pt b1 33 [iv 0, iv 0, iv 0, iv 0, iv 0, iv 0]) :: F) (fun _ h => h) ?_
  refine Wl.q (v := iv 14) (q_assign rfl) ?_
  refine Wl.done ?_
  refine Wx.go ?_
  refine Wc.seq ?_
  refine Wc.seq ?_
  refine Wc.region ?_
  refine Wl.q (v := pv b2) (q_move rfl) ?_
  refine Wl.q (v := pv b2) (q_nil_ptr rfl) ?_
  refine Wl.q (v := Value.pointer (some ⟨b2, 1, none⟩)) (q_field (m := 1) fo_52_1 rfl rfl) ?_
  refine Wl.q (v := iv 0) (q_load sc_34 rfl (.cel (i := 0) rfl rfl)) ?_
  refine Wl.q (v := Value.bool false) (q_neq (r := true) rfl rfl (decide_eq_true (by decide))) ?_
  refine Wl.done ?_
  refine Wx.go ?_
  refine Wc.no rfl ?_
  refine Wc.skip ?_
  refine Wx.go ?_
  refine Wc.seq ?_
  refine Wc.region ?_
  refine Wl.q (v := pv q0) (q_move rfl) ?_
  refine Wl.q (v := iv 14) (q_move rfl) ?_
  refine Wl.q (v := iv 12) (q_move rfl) ?_
  refine Wl.imp (L' := (storeW q0 tl13_14) :: (pt b2 52 [pv q0, iv 0]) :: (pt b1 33 [iv 0, iv 0, iv 0, iv 0, iv 0, iv 0]) :: F) (fun _ h => st_pull [1] h) ?_
  refine Wl.e (e_call (F := (pt b2 52 [pv q0, iv 0]) :: (pt b1 33 [iv 0, iv 0, iv 0, iv 0, iv 0, iv 0]) :: F) (args := [pv q0, iv 14, iv 12]) Tryd.call18 rfl (au44_From W0 q0)) (fun _ _ => ?_)
  refine Wl.imp (L' := (storeW q0 tl18_19) :: (pt b2 52 [pv q0, iv 0]) :: (pt b1 33 [iv 0, iv 0, iv 0, iv 0, iv 0, iv 0]) :: F) (fun _ h => h) ?_
  refine Wl.q (v := Value.agg #[iv 14, iv 15, iv 16, iv 17, iv 18, iv 19]) (q_extract (i := 0) rfl rfl) ?_
  refine Wl.q (v := iv 0) (q_extract (i := 1) rfl rfl) ?_
  refine Wl.e (e_storeAgg (i := 2) (vs := [iv 14, iv 15, iv 16, iv 17, iv 18, iv 19]) (c' := [iv 14, iv 15, iv 16, iv 17, iv 18, iv 19]) sz_33 rfl rfl rfl rfl (by simp) rfl) (fun _ _ => ?_)
  refine Wl.imp (L' := (storeW q0 tl18_19) :: (pt b2 52 [pv q0, iv 0]) :: (pt b1 33 [iv 14, iv 15, iv 16, iv 17, iv 18, iv 19]) :: F) (fun _ h => h) ?_
  refine Wl.q (v := iv 0) (q_assign rfl) ?_
  refine Wl.done ?_
  refine Wx.go ?_
  refine Wc.ret ?_
  refine Wx.finA2 (vs := [iv 14, iv 15, iv 16, iv 17, iv 18, iv 19]) rfl (.inl rfl) ag_33 rfl (Has.of_pt (i := 2) rfl rfl) (fun w hs => ?_)
  have hs : st W0 w ((storeW q0 tl18_19) :: F) := (st_drop (st_drop (st_pull [1, 1] hs)))
  exact ⟨(), trivial, rfl, hs⟩

set_option maxRecDepth 8000 in
set_option maxHeartbeats 4000000 in
theorem au1_lives (W0 : World)  :
    Con Tryd.prog W0 7 #[] [] (X := Unit) (fun _ => True) (fun _ => Value.bool true) (fun _ => []) := by
  refine Con.of (args := []) Tryd.func7 rfl Tryd.ntmps7 rfl (fun F => ?_)
  show Wc _ W0 _ _ _ _ _ (F)
  refine Wc.seq ?_
  refine Wc.region ?_
  refine Wl.q (v := Value.bool false) (q_assign rfl) ?_
  refine Wl.done ?_
  refine Wx.go ?_
  refine Wc.seq ?_
  refine Wc.region ?_
  refine Wl.q (v := Value.agg #[Value.int .u8 1, iv 1, iv 0, iv 0]) (q_build (pl := [(0, 1), (1, 1), (2, 1), (3, 1)]) Tryd.underlying29 zo_29 (by kernel_rfl) (by kernel_rfl)) ?_
  refine Wl.q (v := Value.agg #[Value.int .u8 1, iv 2, iv 0, iv 0]) (q_build (pl := [(0, 1), (1, 1), (2, 1), (3, 1)]) Tryd.underlying29 zo_29 (by kernel_rfl) (by kernel_rfl)) ?_
  refine Wl.q (v := Value.agg #[Value.int .u8 5, iv 0, iv 1, iv 0]) (q_build (pl := [(0, 1), (1, 1), (2, 1), (3, 1)]) Tryd.underlying29 zo_29 (by kernel_rfl) (by kernel_rfl)) ?_
  refine Wl.e (e_buildSlice (cs := [Value.int .u8 1, iv 1, iv 0, iv 0, Value.int .u8 1, iv 2, iv 0, iv 0, Value.int .u8 5, iv 0, iv 1, iv 0]) se_30 zo_29 (by decide) (by decide) (by kernel_rfl)) (fun b1 _ => ?_)
  refine Wl.e (e_call (F := F) (args := [Value.slice (some ⟨b1, 0, none⟩) 3 3]) Tryd.call5 rfl (au2_Build W0 b1)) (fun ⟨b2, b3⟩ _ => ?_)
  refine Wl.imp (L' := (pt b1 29 [Value.int .u8 1, iv 1, iv 0, iv 0, Value.int .u8 1, iv 2, iv 0, iv 0, Value.int .u8 5, iv 0, iv 1, iv 0]) :: (storeW b2 tl2_3) :: (refW b3 tl2_3) :: F) (fun _ h => h) ?_
  refine Wl.q (v := Value.tuple #[pv b2, pv b3, Value.bool true]) (q_move rfl) ?_
  refine Wl.q (v := pv b2) (q_extract (i := 0) rfl rfl) ?_
  refine Wl.q (v := pv b3) (q_extract (i := 1) rfl rfl) ?_
  refine Wl.q (v := Value.bool true) (q_extract (i := 2) rfl rfl) ?_
  refine Wl.q (v := pv b2) (q_assign rfl) ?_
  refine Wl.q (v := pv b3) (q_assign rfl) ?_
  refine Wl.q (v := Value.bool true) (q_assign rfl) ?_
  refine Wl.done ?_
  refine Wx.go ?_
  refine Wc.seq ?_
  refine Wc.imp (L' := (storeW b2 tl2_3) :: F) (fun w hs => (st_drop (st_drop (st_pull [0, 1] hs)))) ?_
  refine Wc.region ?_
  refine Wl.q (v := Value.agg #[iv 5, iv 0, iv 3]) (q_build (pl := [(0, 1), (1, 1), (2, 1)]) Tryd.underlying62 zo_62 (by kernel_rfl) (by kernel_rfl)) ?_
  refine Wl.e (e_call (F := (storeW b2 tl2_3) :: F) (args := [Value.agg #[iv 5, iv 0, iv 3]]) Tryd.call19 rfl (au3_New W0)) (fun v4 _ => ?_)
  refine Wl.imp (L' := (sl 87 4 v4 1 [iv 3, iv 5, iv 0, Value.slice none 0 0]) :: (storeW b2 tl2_3) :: F) (fun _ h => h) ?_
  refine Wl.q (v := Value.tuple #[Value.agg #[v4], iv 0]) (q_move rfl) ?_
  refine Wl.q (v := Value.agg #[v4]) (q_extract (i := 0) rfl rfl) ?_
  refine Wl.q (v := iv 0) (q_extract (i := 1) rfl rfl) ?_
  refine Wl.e (e_alloc (vs := [Value.slice none 0 0]) zo_58 rfl) (fun b5 _ => ?_)
  refine Wl.sl (i := 1) (m := 1) rfl (by decide) (fun b6 c7 hv8 hc9 => ?_)
  subst hv8
  refine Wl.imp (L' := (pt b5 58 [Value.slice none 0 0]) :: (slp 87 4 b6 c7 [iv 3, iv 5, iv 0, Value.slice none 0 0]) :: (storeW b2 tl2_3) :: F) (fun _ h => h) ?_
  refine Wl.e (e_storeAgg (i := 0) (vs := [Value.slice (some ⟨b6, 0, none⟩) 1 c7]) (c' := [Value.slice (some ⟨b6, 0, none⟩) 1 c7]) sz_58 rfl rfl rfl rfl (by simp) rfl) (fun _ _ => ?_)
  refine Wl.imp (L' := (pt b5 58 [Value.slice (some ⟨b6, 0, none⟩) 1 c7]) :: (slp 87 4 b6 c7 [iv 3, iv 5, iv 0, Value.slice none 0 0]) :: (storeW b2 tl2_3) :: F) (fun _ h => h) ?_
  refine Wl.q (v := iv 0) (q_assign rfl) ?_
  refine Wl.done ?_
  refine Wx.go ?_
  refine Wc.seq ?_
  refine Wc.region ?_
  refine Wl.q (v := pv b2) (q_move rfl) ?_
  refine Wl.q (v := Value.agg #[Value.slice (some ⟨b6, 0, none⟩) 1 c7]) (q_loadAgg (vs := [Value.slice (some ⟨b6, 0, none⟩) 1 c7]) ag_58 rfl (Has.of_pt (i := 0) rfl rfl)) ?_
  refine Wl.imp (L' := (storeW b2 tl2_3) :: (slp 87 4 b6 c7 [iv 3, iv 5, iv 0, Value.slice none 0 0]) :: (pt b5 58 [Value.slice (some ⟨b6, 0, none⟩) 1 c7]) :: F) (fun _ h => st_pull [2, 1] h) ?_
  refine Wl.e (e_call (F := (pt b5 58 [Value.slice (some ⟨b6, 0, none⟩) 1 c7]) :: F) (args := [pv b2, iv 4, iv 0, Value.agg #[Value.slice (some ⟨b6, 0, none⟩) 1 c7]]) Tryd.call20 rfl (au15_Context W0 b2 b6 c7 hc9)) (fun _ _ => ?_)
  refine Wl.imp (L' := (storeW b2 tl11_12) :: (slp 87 4 b6 c7 [iv 3, iv 5, iv 0, Value.slice none 0 0]) :: (pt b5 58 [Value.slice (some ⟨b6, 0, none⟩) 1 c7]) :: F) (fun _ h => h) ?_
  refine Wl.q (v := Value.tuple #[iv 12, iv 0]) (q_move rfl) ?_
  refine Wl.q (v := iv 12) (q_extract (i := 0) rfl rfl) ?_
  refine Wl.q (v := iv 0) (q_extract (i := 1) rfl rfl) ?_
  refine Wl.q (v := iv 12) (q_assign rfl) ?_
  refine Wl.q (v := iv 0) (q_assign rfl) ?_
  refine Wl.done ?_
  refine Wx.go ?_
  refine Wc.seq ?_
  refine Wc.imp (L' := (storeW b2 tl11_12) :: F) (fun w hs => (st_drop (st_drop (st_pull [1, 1] hs)))) ?_
  refine Wc.region ?_
  refine Wl.q (v := pv b2) (q_move rfl) ?_
  refine Wl.q (v := iv 12) (q_move rfl) ?_
  refine Wl.e (e_call (F := F) (args := [pv b2, iv 1, iv 2, iv 12]) Tryd.call6 rfl (au35_Next W0 b2)) (fun _ _ => ?_)
  refine Wl.imp (L' := (storeW b2 tl18_19) :: F) (fun _ h => h) ?_
  refine Wl.q (v := Value.tuple #[Value.agg #[iv 14, iv 15, iv 16, iv 17, iv 18, iv 19], iv 0]) (q_move rfl) ?_
  refine Wl.q (v := Value.agg #[iv 14, iv 15, iv 16, iv 17, iv 18, iv 19]) (q_extract (i := 0) rfl rfl) ?_
  refine Wl.q (v := iv 0) (q_extract (i := 1) rfl rfl) ?_
  refine Wl.e (e_alloc (vs := [iv 0, iv 0, iv 0, iv 0, iv 0, iv 0]) zo_33 rfl) (fun b10 _ => ?_)
  refine Wl.e (e_storeAgg (i := 0) (vs := [iv 14, iv 15, iv 16, iv 17, iv 18, iv 19]) (c' := [iv 14, iv 15, iv 16, iv 17, iv 18, iv 19]) sz_33 rfl rfl rfl rfl (by simp) rfl) (fun _ _ => ?_)
  refine Wl.imp (L' := (pt b10 33 [iv 14, iv 15, iv 16, iv 17, iv 18, iv 19]) :: (storeW b2 tl18_19) :: F) (fun _ h => h) ?_
  refine Wl.q (v := iv 0) (q_assign rfl) ?_
  refine Wl.done ?_
  refine Wx.go ?_
  refine Wc.seq ?_
  refine Wc.region ?_
  refine Wl.q (v := Value.bool true) (q_move rfl) ?_
  refine Wl.q (v := Value.bool true) (q_move rfl) ?_
  refine Wl.q (v := iv 0) (q_move rfl) ?_
  refine Wl.q (v := Value.bool true) (q_eql (r := true) rfl rfl (decide_eq_true (by decide))) ?_
  refine Wl.q (v := Value.bool true) (q_pick (t := true) rfl rfl) ?_
  refine Wl.q (v := Value.bool true) (q_move rfl) ?_
  refine Wl.q (v := iv 0) (q_move rfl) ?_
  refine Wl.q (v := Value.bool true) (q_eql (r := true) rfl rfl (decide_eq_true (by decide))) ?_
  refine Wl.q (v := Value.bool true) (q_pick (t := true) rfl rfl) ?_
  refine Wl.q (v := Value.bool true) (q_move rfl) ?_
  refine Wl.q (v := pv b10) (q_field (m := 0) fo_33_0 rfl rfl) ?_
  refine Wl.q (v := iv 14) (q_load sc_3 rfl (.cel (i := 0) rfl rfl)) ?_
  refine Wl.q (v := Value.bool true) (q_gtr (r := true) rfl rfl (decide_eq_true (by decide))) ?_
  refine Wl.q (v := Value.bool true) (q_pick (t := true) rfl rfl) ?_
  refine Wl.q (v := Value.bool true) (q_move rfl) ?_
  refine Wl.q (v := Value.pointer (some ⟨b10, 1, none⟩)) (q_field (m := 1) fo_33_1 rfl rfl) ?_
  refine Wl.q (v := iv 15) (q_load sc_3 rfl (.cel (i := 0) rfl rfl)) ?_
  refine Wl.q (v := Value.bool true) (q_gtr (r := true) rfl rfl (decide_eq_true (by decide))) ?_
  refine Wl.q (v := Value.bool true) (q_pick (t := true) rfl rfl) ?_
  refine Wl.q (v := Value.bool true) (q_move rfl) ?_
  refine Wl.q (v := Value.pointer (some ⟨b10, 2, none⟩)) (q_field (m := 2) fo_33_2 rfl rfl) ?_
  refine Wl.q (v := iv 16) (q_load sc_3 rfl (.cel (i := 0) rfl rfl)) ?_
  refine Wl.q (v := Value.pointer (some ⟨b10, 3, none⟩)) (q_field (m := 3) fo_33_3 rfl rfl) ?_
  refine Wl.q (v := iv 17) (q_load sc_3 rfl (.cel (i := 0) rfl rfl)) ?_
  refine Wl.q (v := Value.bool true) (q_neq (r := false) rfl rfl (decide_eq_false (by decide))) ?_
  refine Wl.q (v := Value.bool true) (q_pick (t := true) rfl rfl) ?_
  refine Wl.q (v := Value.bool true) (q_move rfl) ?_
  refine Wl.q (v := Value.pointer (some ⟨b10, 4, none⟩)) (q_field (m := 4) fo_33_4 rfl rfl) ?_
  refine Wl.q (v := iv 18) (q_load sc_3 rfl (.cel (i := 0) rfl rfl)) ?_
  refine Wl.q (v := Value.pointer (some ⟨b10, 5, none⟩)) (q_field (m := 5) fo_33_5 rfl rfl) ?_
  refine Wl.q (v := iv 19) (q_load sc_3 rfl (.cel (i := 0) rfl rfl)) ?_
  refine Wl.q (v := Value.bool true) (q_neq (r := false) rfl rfl (decide_eq_false (by decide))) ?_
  refine Wl.q (v := Value.bool true) (q_pick (t := true) rfl rfl) ?_
  refine Wl.q (v := Value.bool true) (q_assign rfl) ?_
  refine Wl.done ?_
  refine Wx.go ?_
  refine Wc.ret ?_
  refine Wx.fin1 rfl (.inl rfl) (fun w hs => ?_)
  have hs : st W0 w (F) := (st_drop (st_drop (st_pull [0, 0] hs)))
  exact ⟨(), trivial, rfl, hs⟩

end Go.Proofs.YtoehhbapilfdbaaDoor
