/- What follows: contracts of the calls. -/
import Derived.Test.YtkdjagmgmodfnaaDdW
import Derived.Test.YtkdjagmgmodfnaaSLK
import Derived.Test.YtkdjagmgmodfnaaSLA
import Derived.Test.YtkdjagmgmodfnaaDdN
namespace Go.Proofs.Ytkdjagmgmodfnaa
open Go Go.SL Go.Dd Go.RowKit
set_option linter.unusedVariables false
set_option maxRecDepth 8000

def tl0_1 : List TermR := [⟨1, 1, 0, 0⟩]

set_option maxRecDepth 8000 in
set_option maxHeartbeats 4000000 in
theorem au2_Build (W0 : World) (q0 : Nat)  :
    Con Try.prog W0 4 #[Value.slice (some ⟨q0, 0, none⟩) 1 1] [pt q0 31 [Value.int .u8 1, iv 1, iv 0, iv 0]] (X := Nat × Nat) (fun _ => True) (fun y => Value.tuple #[Value.pointer (some ⟨y.1, 0, none⟩), Value.pointer (some ⟨y.2, 0, none⟩), Value.bool true]) (fun y => [pt q0 31 [Value.int .u8 1, iv 1, iv 0, iv 0], storeW y.1 tl0_1, refW y.2 tl0_1]) := by
  refine Con.of (args := [Value.slice (some ⟨q0, 0, none⟩) 1 1]) Try.func4 rfl Try.ntmps4 rfl (fun F => ?_)
  show Wc _ W0 _ _ _ _ _ ((pt q0 31 [Value.int .u8 1, iv 1, iv 0, iv 0]) :: F)
  refine Wc.seq ?_
  refine Wc.region ?_
  refine Wl.q (v := Value.pointer none) (q_assign rfl) ?_
  refine Wl.q (v := Value.pointer none) (q_assign rfl) ?_
  refine Wl.q (v := Value.bool false) (q_assign rfl) ?_
  refine Wl.done ?_
  refine Wx.go ?_
  refine Wc.seq ?_
  refine Wc.region ?_
  refine Wl.e (e_call (F := (pt q0 31 [Value.int .u8 1, iv 1, iv 0, iv 0]) :: F) (args := []) Try.call13 rfl (tnew_w W0)) (fun s1 _ => ?_)
  refine Wl.imp (L' := (storeW s1 []) :: (pt q0 31 [Value.int .u8 1, iv 1, iv 0, iv 0]) :: F) (fun _ h => h) ?_
  refine Wl.q (v := pv s1) (q_assign rfl) ?_
  refine Wl.done ?_
  refine Wx.go ?_
  refine Wc.seq ?_
  refine Wc.region ?_
  refine Wl.e (e_call (F := (storeW s1 []) :: (pt q0 31 [Value.int .u8 1, iv 1, iv 0, iv 0]) :: F) (args := []) Try.call14 rfl (rtnew_w W0)) (fun s2 _ => ?_)
  refine Wl.imp (L' := (refW s2 []) :: (storeW s1 []) :: (pt q0 31 [Value.int .u8 1, iv 1, iv 0, iv 0]) :: F) (fun _ h => h) ?_
  refine Wl.q (v := pv s2) (q_assign rfl) ?_
  refine Wl.done ?_
  refine Wx.go ?_
  refine Wc.seq ?_
  refine Wc.seq ?_
  refine Wc.region ?_
  refine Wl.q (v := iv 0) (q_assign rfl) ?_
  refine Wl.done ?_
  refine Wx.go ?_
  refine Wc.block ?_
  refine Wc.rounds 64 ?_
  refine Wn.round ?_
  refine Wc.seq ?_
  refine Wc.seq ?_
  refine Wc.region ?_
  refine Wl.q (v := iv 0) (q_move rfl) ?_
  refine Wl.q (v := Value.slice (some ⟨q0, 0, none⟩) 1 1) (q_move rfl) ?_
  refine Wl.q (v := iv 1) (q_len_slice Try.underlying32 rfl) ?_
  refine Wl.q (v := Value.bool true) (q_lss (r := true) rfl rfl (decide_eq_true (by decide))) ?_
  refine Wl.done ?_
  refine Wx.go ?_
  refine Wc.yes rfl ?_
  refine Wc.skip ?_
  refine Wx.go ?_
  refine Wc.seq ?_
  refine Wc.block ?_
  refine Wc.seq ?_
  refine Wc.region ?_
  refine Wl.q (v := pv s1) (q_move rfl) ?_
  refine Wl.q (v := Value.slice (some ⟨q0, 0, none⟩) 1 1) (q_move rfl) ?_
  refine Wl.q (v := iv 0) (q_move rfl) ?_
  refine Wl.q (v := pv q0) (q_idx (m := 0) se_32 rfl rfl (by omega) (by omega) rfl) ?_
  refine Wl.q (v := Value.agg #[Value.int .u8 1, iv 1, iv 0, iv 0]) (q_loadAgg (vs := [Value.int .u8 1, iv 1, iv 0, iv 0]) ag_31 rfl (Has.of_pt (i := 2) rfl rfl)) ?_
  refine Wl.imp (L' := (storeW s1 []) :: (refW s2 []) :: (pt q0 31 [Value.int .u8 1, iv 1, iv 0, iv 0]) :: F) (fun _ h => st_pull [1] h) ?_
  refine Wl.e (e_call (F := (refW s2 []) :: (pt q0 31 [Value.int .u8 1, iv 1, iv 0, iv 0]) :: F) (args := [pv s1, Value.agg #[Value.int .u8 1, iv 1, iv 0, iv 0]]) Try.call15 rfl (make_w W0 s1 [] tl0_1 ⟨1, 1, 0, 0⟩ 1 1 0 (by unfold okT; decide) (by decide +kernel) rfl)) (fun _ _ => ?_)
  refine Wl.imp (L' := (storeW s1 tl0_1) :: (refW s2 []) :: (pt q0 31 [Value.int .u8 1, iv 1, iv 0, iv 0]) :: F) (fun _ h => h) ?_
  refine Wl.q (v := Value.tuple #[iv 1, iv 0]) (q_move rfl) ?_
  refine Wl.q (v := iv 1) (q_extract (i := 0) rfl rfl) ?_
  refine Wl.q (v := iv 0) (q_extract (i := 1) rfl rfl) ?_
  refine Wl.q (v := iv 1) (q_assign rfl) ?_
  refine Wl.q (v := iv 0) (q_assign rfl) ?_
  refine Wl.done ?_
  refine Wx.go ?_
  refine Wc.seq ?_
  refine Wc.region ?_
  refine Wl.q (v := pv s2) (q_move rfl) ?_
  refine Wl.q (v := Value.slice (some ⟨q0, 0, none⟩) 1 1) (q_move rfl) ?_
  refine Wl.q (v := iv 0) (q_move rfl) ?_
  refine Wl.q (v := pv q0) (q_idx (m := 0) se_32 rfl rfl (by omega) (by omega) rfl) ?_
  refine Wl.q (v := Value.agg #[Value.int .u8 1, iv 1, iv 0, iv 0]) (q_loadAgg (vs := [Value.int .u8 1, iv 1, iv 0, iv 0]) ag_31 rfl (Has.of_pt (i := 2) rfl rfl)) ?_
  refine Wl.imp (L' := (refW s2 []) :: (storeW s1 tl0_1) :: (pt q0 31 [Value.int .u8 1, iv 1, iv 0, iv 0]) :: F) (fun _ h => st_pull [1] h) ?_
  refine Wl.e (e_call (F := (storeW s1 tl0_1) :: (pt q0 31 [Value.int .u8 1, iv 1, iv 0, iv 0]) :: F) (args := [pv s2, Value.agg #[Value.int .u8 1, iv 1, iv 0, iv 0]]) Try.call16 rfl (rmake_w W0 s2 [] tl0_1 ⟨1, 1, 0, 0⟩ 1 1 0 (by unfold okT; decide) (by decide +kernel) rfl)) (fun _ _ => ?_)
  refine Wl.imp (L' := (refW s2 tl0_1) :: (storeW s1 tl0_1) :: (pt q0 31 [Value.int .u8 1, iv 1, iv 0, iv 0]) :: F) (fun _ h => h) ?_
  refine Wl.q (v := Value.tuple #[iv 1, iv 0]) (q_move rfl) ?_
  refine Wl.q (v := iv 1) (q_extract (i := 0) rfl rfl) ?_
  refine Wl.q (v := iv 0) (q_extract (i := 1) rfl rfl) ?_
  refine Wl.q (v := iv 1) (q_assign rfl) ?_
  refine Wl.q (v := iv 0) (q_assign rfl) ?_
  refine Wl.done ?_
  refine Wx.go ?_
  refine Wc.seq ?_
  refine Wc.region ?_
  refine Wl.q (v := iv 1) (q_move rfl) ?_
  refine Wl.q (v := iv 1) (q_move rfl) ?_
  refine Wl.q (v := Value.bool false) (q_neq (r := true) rfl rfl (decide_eq_true (by decide))) ?_
  refine Wl.q (v := Value.bool false) (q_move rfl) ?_
  refine Wl.q (v := iv 0) (q_move rfl) ?_
  refine Wl.q (v := iv 0) (q_move rfl) ?_
  refine Wl.q (v := Value.bool false) (q_neq (r := true) rfl rfl (decide_eq_true (by decide))) ?_
  refine Wl.q (v := Value.bool false) (q_pick (t := false) rfl rfl) ?_
  refine Wl.done ?_
  refine Wx.go ?_
  refine Wc.no rfl ?_
  refine Wc.skip ?_
  refine Wx.blockEnd ?_
  refine Wx.go ?_
  refine Wc.region ?_
  refine Wl.q (v := iv 0) (q_move rfl) ?_
  refine Wl.q (v := iv 1) (q_add (c := 1) rfl rfl (by decide)) ?_
  refine Wl.q (v := iv 1) (q_assign rfl) ?_
  refine Wl.done ?_
  refine Wx.again ?_
  refine Wn.round ?_
  refine Wc.seq ?_
  refine Wc.seq ?_
  refine Wc.region ?_
  refine Wl.q (v := iv 1) (q_move rfl) ?_
  refine Wl.q (v := Value.slice (some ⟨q0, 0, none⟩) 1 1) (q_move rfl) ?_
  refine Wl.q (v := iv 1) (q_len_slice Try.underlying32 rfl) ?_
  refine Wl.q (v := Value.bool false) (q_lss (r := false) rfl rfl (decide_eq_false (by decide))) ?_
  refine Wl.done ?_
  refine Wx.go ?_
  refine Wc.no rfl ?_
  refine Wc.exit ?_
  refine Wx.thenExit ?_
  refine Wx.thenExit ?_
  refine Wx.out ?_
  refine Wx.go ?_
  refine Wc.seq ?_
  refine Wc.region ?_
  refine Wl.q (v := pv s1) (q_move rfl) ?_
  refine Wl.q (v := pv s2) (q_move rfl) ?_
  refine Wl.q (v := pv s1) (q_move rfl) ?_
  refine Wl.q (v := Value.bool true) (q_neq_nil (r := false) rfl rfl Try.underlying25 rfl) ?_
  refine Wl.q (v := pv s1) (q_assign rfl) ?_
  refine Wl.q (v := pv s2) (q_assign rfl) ?_
  refine Wl.q (v := Value.bool true) (q_assign rfl) ?_
  refine Wl.done ?_
  refine Wx.go ?_
  refine Wc.ret ?_
  refine Wx.fin3 rfl (.inl rfl) (fun w hs => ?_)
  have hs : st W0 w ((pt q0 31 [Value.int .u8 1, iv 1, iv 0, iv 0]) :: (storeW s1 tl0_1) :: (refW s2 tl0_1) :: F) := (st_pull [2, 1, 0] (hs))
  exact ⟨(s1, s2), trivial, rfl, hs⟩

set_option maxRecDepth 8000 in
set_option maxHeartbeats 4000000 in
theorem au5_List (W0 : World) (q0 : Nat)  :
    Con Try.prog W0 28 #[pv q0, Value.slice none 0 0] [storeW q0 tl0_1] (X := Unit) (fun _ => True) (fun _ => Value.tuple #[iv 0, iv 0]) (fun _ => [storeW q0 tl0_1]) := by
  refine Con.of (args := [pv q0, Value.slice none 0 0]) Try.func28 rfl Try.ntmps28 rfl (fun F => ?_)
  show Wc _ W0 _ _ _ _ _ ((storeW q0 tl0_1) :: F)
  refine Wc.seq ?_
  refine Wc.region ?_
  refine Wl.q (v := iv 0) (q_assign rfl) ?_
  refine Wl.q (v := iv 0) (q_assign rfl) ?_
  refine Wl.done ?_
  refine Wx.go ?_
  refine Wc.seq ?_
  refine Wc.seq ?_
  refine Wc.region ?_
  refine Wl.q (v := pv q0) (q_move rfl) ?_
  refine Wl.e (e_call (F := F) (args := [pv q0]) Try.call25 rfl (made_w W0 q0 tl0_1)) (fun _ _ => ?_)
  refine Wl.imp (L' := (storeW q0 tl0_1) :: F) (fun _ h => h) ?_
  refine Wl.q (v := Value.bool false) (q_not rfl rfl) ?_
  refine Wl.done ?_
  refine Wx.go ?_
  refine Wc.no rfl ?_
  refine Wc.skip ?_
  refine Wx.go ?_
  refine Wc.seq ?_
  refine Wc.seq ?_
  refine Wc.region ?_
  refine Wl.q (v := Value.slice none 0 0) (q_move rfl) ?_
  refine Wl.q (v := iv 0) (q_len_slice Try.underlying22 rfl) ?_
  refine Wl.q (v := iv 0) (q_move rfl) ?_
  refine Wl.done ?_
  refine Wx.go ?_
  refine Wc.block ?_
  refine Wc.rounds 64 ?_
  refine Wn.round ?_
  refine Wc.seq ?_
  refine Wc.region ?_
  refine Wl.q (v := Value.bool false) (q_lss (r := false) rfl rfl (decide_eq_false (by decide))) ?_
  refine Wl.done ?_
  refine Wx.go ?_
  refine Wc.seq ?_
  refine Wc.no rfl ?_
  refine Wc.exit ?_
  refine Wx.thenExit ?_
  refine Wx.thenExit ?_
  refine Wx.out ?_
  refine Wx.go ?_
  refine Wc.seq ?_
  refine Wc.seq ?_
  refine Wc.region ?_
  refine Wl.q (v := Value.slice none 0 0) (q_move rfl) ?_
  refine Wl.q (v := iv 0) (q_len_slice Try.underlying22 rfl) ?_
  refine Wl.q (v := Value.bool true) (q_eql (r := true) rfl rfl (decide_eq_true (by decide))) ?_
  refine Wl.done ?_
  refine Wx.go ?_
  refine Wc.yes rfl ?_
  refine Wc.seq ?_
  refine Wc.region ?_
  refine Wl.q (v := iv 0) (q_assign rfl) ?_
  refine Wl.q (v := iv 0) (q_assign rfl) ?_
  refine Wl.done ?_
  refine Wx.go ?_
  refine Wc.ret ?_
  refine Wx.thenRet ?_
  refine Wx.fin2 rfl (.inl rfl) (fun w hs => ?_)
  have hs : st W0 w ((storeW q0 tl0_1) :: F) := hs
  exact ⟨(), trivial, rfl, hs⟩

set_option maxRecDepth 8000 in
set_option maxHeartbeats 4000000 in
theorem au4_there (W0 : World) (q0 : Nat) (q1 : Nat)  :
    Con Try.prog W0 17 #[pv q0, Value.slice (some ⟨q1, 0, none⟩) 1 1] [storeW q0 tl0_1, pt q1 3 [iv 1]] (X := Unit) (fun _ => True) (fun _ => iv 0) (fun _ => [storeW q0 tl0_1, pt q1 3 [iv 1]]) := by
  refine Con.of (args := [pv q0, Value.slice (some ⟨q1, 0, none⟩) 1 1]) Try.func17 rfl Try.ntmps17 rfl (fun F => ?_)
  show Wc _ W0 _ _ _ _ _ ((storeW q0 tl0_1) :: (pt q1 3 [iv 1]) :: F)
  refine Wc.seq ?_
  refine Wc.region ?_
  refine Wl.q (v := iv 0) (q_assign rfl) ?_
  refine Wl.done ?_
  refine Wx.go ?_
  refine Wc.seq ?_
  refine Wc.seq ?_
  refine Wc.region ?_
  refine Wl.q (v := pv q0) (q_move rfl) ?_
  refine Wl.e (e_call (F := (pt q1 3 [iv 1]) :: F) (args := [pv q0, Value.slice none 0 0]) Try.call28 rfl (au5_List W0 q0)) (fun _ _ => ?_)
  refine Wl.imp (L' := (storeW q0 tl0_1) :: (pt q1 3 [iv 1]) :: F) (fun _ h => h) ?_
  refine Wl.q (v := Value.tuple #[iv 0, iv 0]) (q_move rfl) ?_
  refine Wl.q (v := iv 0) (q_extract (i := 0) rfl rfl) ?_
  refine Wl.q (v := iv 0) (q_extract (i := 1) rfl rfl) ?_
  refine Wl.q (v := iv 0) (q_assign rfl) ?_
  refine Wl.q (v := iv 0) (q_assign rfl) ?_
  refine Wl.done ?_
  refine Wx.go ?_
  refine Wc.seq ?_
  refine Wc.region ?_
  refine Wl.q (v := iv 0) (q_move rfl) ?_
  refine Wl.q (v := Value.bool false) (q_eql (r := false) rfl rfl (decide_eq_false (by decide))) ?_
  refine Wl.done ?_
  refine Wx.go ?_
  refine Wc.no rfl ?_
  refine Wc.skip ?_
  refine Wx.go ?_
  refine Wc.seq ?_
  refine Wc.seq ?_
  refine Wc.region ?_
  refine Wl.q (v := Value.slice (some ⟨q1, 0, none⟩) 1 1) (q_move rfl) ?_
  refine Wl.q (v := iv 1) (q_len_slice Try.underlying22 rfl) ?_
  refine Wl.q (v := iv 0) (q_move rfl) ?_
  refine Wl.done ?_
  refine Wx.go ?_
  refine Wc.block ?_
  refine Wc.rounds 64 ?_
  refine Wn.round ?_
  refine Wc.seq ?_
  refine Wc.region ?_
  refine Wl.q (v := Value.bool true) (q_lss (r := true) rfl rfl (decide_eq_true (by decide))) ?_
  refine Wl.done ?_
  refine Wx.go ?_
  refine Wc.seq ?_
  refine Wc.yes rfl ?_
  refine Wc.skip ?_
  refine Wx.go ?_
  refine Wc.seq ?_
  refine Wc.block ?_
  refine Wc.seq ?_
  refine Wc.region ?_
  refine Wl.q (v := pv q1) (q_idx (m := 0) se_22 rfl rfl (by omega) (by omega) rfl) ?_
  refine Wl.q (v := iv 1) (q_load sc_3 rfl (.cel (i := 1) rfl rfl)) ?_
  refine Wl.q (v := iv 1) (q_assign rfl) ?_
  refine Wl.done ?_
  refine Wx.go ?_
  refine Wc.seq ?_
  refine Wc.region ?_
  refine Wl.q (v := pv q0) (q_move rfl) ?_
  refine Wl.q (v := iv 1) (q_move rfl) ?_
  refine Wl.e (e_call (F := (pt q1 3 [iv 1]) :: F) (args := [pv q0, iv 1]) Try.call29 rfl (get_w W0 q0 tl0_1 1 ⟨1, 1, 0, 0⟩ (by decide) rfl)) (fun _ _ => ?_)
  refine Wl.imp (L' := (storeW q0 tl0_1) :: (pt q1 3 [iv 1]) :: F) (fun _ h => h) ?_
  refine Wl.q (v := Value.tuple #[Value.agg #[Value.int .u8 1, iv 1, iv 0, iv 0], Value.bool true]) (q_move rfl) ?_
  refine Wl.q (v := Value.agg #[Value.int .u8 1, iv 1, iv 0, iv 0]) (q_extract (i := 0) rfl rfl) ?_
  refine Wl.q (v := Value.bool true) (q_extract (i := 1) rfl rfl) ?_
  refine Wl.e (e_alloc (vs := [Value.int .u8 0, iv 0, iv 0, iv 0]) zo_31 rfl) (fun b1 _ => ?_)
  refine Wl.e (e_storeAgg (i := 0) (vs := [Value.int .u8 1, iv 1, iv 0, iv 0]) (c' := [Value.int .u8 1, iv 1, iv 0, iv 0]) sz_31 rfl rfl rfl rfl (by simp) rfl) (fun _ _ => ?_)
  refine Wl.imp (L' := (pt b1 31 [Value.int .u8 1, iv 1, iv 0, iv 0]) :: (storeW q0 tl0_1) :: (pt q1 3 [iv 1]) :: F) (fun _ h => h) ?_
  refine Wl.q (v := Value.bool true) (q_assign rfl) ?_
  refine Wl.done ?_
  refine Wx.go ?_
  refine Wc.seq ?_
  refine Wc.region ?_
  refine Wl.q (v := Value.bool true) (q_move rfl) ?_
  refine Wl.q (v := Value.bool false) (q_not rfl rfl) ?_
  refine Wl.done ?_
  refine Wx.go ?_
  refine Wc.no rfl ?_
  refine Wc.skip ?_
  refine Wx.blockEnd ?_
  refine Wx.go ?_
  refine Wc.region ?_
  refine Wl.q (v := iv 1) (q_add (c := 1) rfl rfl (by decide)) ?_
  refine Wl.q (v := iv 1) (q_move rfl) ?_
  refine Wl.done ?_
  refine Wx.again ?_
  refine Wn.round ?_
  refine Wc.imp (L' := (storeW q0 tl0_1) :: (pt q1 3 [iv 1]) :: F) (fun w hs => (st_drop (st_pull [0] hs))) ?_
  refine Wc.seq ?_
  refine Wc.region ?_
  refine Wl.q (v := Value.bool false) (q_lss (r := false) rfl rfl (decide_eq_false (by decide))) ?_
  refine Wl.done ?_
  refine Wx.go ?_
  refine Wc.seq ?_
  refine Wc.no rfl ?_
  refine Wc.exit ?_
  refine Wx.thenExit ?_
  refine Wx.thenExit ?_
  refine Wx.out ?_
  refine Wx.go ?_
  refine Wc.seq ?_
  refine Wc.region ?_
  refine Wl.q (v := iv 0) (q_assign rfl) ?_
  refine Wl.done ?_
  refine Wx.go ?_
  refine Wc.ret ?_
  refine Wx.fin1 rfl (.inl rfl) (fun w hs => ?_)
  have hs : st W0 w ((storeW q0 tl0_1) :: (pt q1 3 [iv 1]) :: F) := hs
  exact ⟨(), trivial, rfl, hs⟩

def tl1_2 : List TermR := [⟨1, 1, 0, 0⟩, ⟨4, 13, 1, 0⟩]

def tl2_3 : List TermR := [⟨1, 1, 0, 0⟩, ⟨4, 13, 1, 0⟩, ⟨5, 0, 2, 0⟩]

set_option maxRecDepth 8000 in
set_option maxHeartbeats 4000000 in
theorem au3_Card (W0 : World) (q0 : Nat)  :
    Con Try.prog W0 7 #[pv q0, iv 1] [storeW q0 tl0_1] (X := Unit) (fun _ => True) (fun _ => Value.tuple #[iv 2, iv 3, iv 0]) (fun _ => [storeW q0 tl2_3]) := by
  refine Con.of (args := [pv q0, iv 1]) Try.func7 rfl Try.ntmps7 rfl (fun F => ?_)
  show Wc _ W0 _ _ _ _ _ ((storeW q0 tl0_1) :: F)
  refine Wc.seq ?_
  refine Wc.region ?_
  refine Wl.q (v := iv 0) (q_assign rfl) ?_
  refine Wl.q (v := iv 0) (q_assign rfl) ?_
  refine Wl.q (v := iv 0) (q_assign rfl) ?_
  refine Wl.done ?_
  refine Wx.go ?_
  refine Wc.seq ?_
  refine Wc.seq ?_
  refine Wc.region ?_
  refine Wl.q (v := pv q0) (q_move rfl) ?_
  refine Wl.q (v := iv 1) (q_move rfl) ?_
  refine Wl.e (e_buildSlice (cs := [iv 1]) se_22 zo_3 (by decide) (by decide) (by kernel_rfl)) (fun b1 _ => ?_)
  refine Wl.imp (L' := (storeW q0 tl0_1) :: (pt b1 3 [iv 1]) :: F) (fun _ h => st_pull [1, 0] h) ?_
  refine Wl.e (e_call (F := F) (args := [pv q0, Value.slice (some ⟨b1, 0, none⟩) 1 1]) Try.call17 rfl (au4_there W0 q0 b1)) (fun _ _ => ?_)
  refine Wl.imp (L' := (storeW q0 tl0_1) :: (pt b1 3 [iv 1]) :: F) (fun _ h => h) ?_
  refine Wl.q (v := iv 0) (q_assign rfl) ?_
  refine Wl.done ?_
  refine Wx.go ?_
  refine Wc.seq ?_
  refine Wc.region ?_
  refine Wl.q (v := iv 0) (q_move rfl) ?_
  refine Wl.q (v := Value.bool false) (q_neq (r := true) rfl rfl (decide_eq_true (by decide))) ?_
  refine Wl.done ?_
  refine Wx.go ?_
  refine Wc.no rfl ?_
  refine Wc.skip ?_
  refine Wx.go ?_
  refine Wc.seq ?_
  refine Wc.seq ?_
  refine Wc.region ?_
  refine Wl.q (v := pv q0) (q_move rfl) ?_
  refine Wl.q (v := iv 1) (q_move rfl) ?_
  refine Wl.q (v := Value.agg #[Value.int .u8 4, iv 13, iv 1, iv 0]) (q_build (pl := [(0, 1), (1, 1), (2, 1), (3, 1)]) Try.underlying31 zo_31 (by kernel_rfl) (by kernel_rfl)) ?_
  refine Wl.e (e_call (F := (pt b1 3 [iv 1]) :: F) (args := [pv q0, Value.agg #[Value.int .u8 4, iv 13, iv 1, iv 0]]) Try.call15 rfl (make_w W0 q0 tl0_1 tl1_2 ⟨4, 13, 1, 0⟩ 2 2 0 (by unfold okT; decide) (by decide +kernel) rfl)) (fun _ _ => ?_)
  refine Wl.imp (L' := (storeW q0 tl1_2) :: (pt b1 3 [iv 1]) :: F) (fun _ h => h) ?_
  refine Wl.q (v := Value.tuple #[iv 2, iv 0]) (q_move rfl) ?_
  refine Wl.q (v := iv 2) (q_extract (i := 0) rfl rfl) ?_
  refine Wl.q (v := iv 0) (q_extract (i := 1) rfl rfl) ?_
  refine Wl.q (v := iv 2) (q_assign rfl) ?_
  refine Wl.q (v := iv 0) (q_assign rfl) ?_
  refine Wl.done ?_
  refine Wx.go ?_
  refine Wc.seq ?_
  refine Wc.region ?_
  refine Wl.q (v := iv 0) (q_move rfl) ?_
  refine Wl.q (v := Value.bool true) (q_eql (r := true) rfl rfl (decide_eq_true (by decide))) ?_
  refine Wl.done ?_
  refine Wx.go ?_
  refine Wc.yes rfl ?_
  refine Wc.region ?_
  refine Wl.q (v := pv q0) (q_move rfl) ?_
  refine Wl.q (v := iv 2) (q_move rfl) ?_
  refine Wl.q (v := Value.agg #[Value.int .u8 5, iv 0, iv 2, iv 0]) (q_build (pl := [(0, 1), (1, 1), (2, 1), (3, 1)]) Try.underlying31 zo_31 (by kernel_rfl) (by kernel_rfl)) ?_
  refine Wl.e (e_call (F := (pt b1 3 [iv 1]) :: F) (args := [pv q0, Value.agg #[Value.int .u8 5, iv 0, iv 2, iv 0]]) Try.call15 rfl (make_w W0 q0 tl1_2 tl2_3 ⟨5, 0, 2, 0⟩ 3 3 0 (by unfold okT; decide) (by decide +kernel) rfl)) (fun _ _ => ?_)
  refine Wl.imp (L' := (storeW q0 tl2_3) :: (pt b1 3 [iv 1]) :: F) (fun _ h => h) ?_
  refine Wl.q (v := Value.tuple #[iv 3, iv 0]) (q_move rfl) ?_
  refine Wl.q (v := iv 3) (q_extract (i := 0) rfl rfl) ?_
  refine Wl.q (v := iv 0) (q_extract (i := 1) rfl rfl) ?_
  refine Wl.q (v := iv 3) (q_assign rfl) ?_
  refine Wl.q (v := iv 0) (q_assign rfl) ?_
  refine Wl.done ?_
  refine Wx.go ?_
  refine Wc.seq ?_
  refine Wc.seq ?_
  refine Wc.region ?_
  refine Wl.q (v := iv 0) (q_move rfl) ?_
  refine Wl.q (v := Value.bool false) (q_neq (r := true) rfl rfl (decide_eq_true (by decide))) ?_
  refine Wl.done ?_
  refine Wx.go ?_
  refine Wc.no rfl ?_
  refine Wc.skip ?_
  refine Wx.go ?_
  refine Wc.seq ?_
  refine Wc.region ?_
  refine Wl.q (v := iv 2) (q_move rfl) ?_
  refine Wl.q (v := iv 3) (q_move rfl) ?_
  refine Wl.q (v := iv 2) (q_assign rfl) ?_
  refine Wl.q (v := iv 3) (q_assign rfl) ?_
  refine Wl.q (v := iv 0) (q_assign rfl) ?_
  refine Wl.done ?_
  refine Wx.go ?_
  refine Wc.ret ?_
  refine Wx.fin3 rfl (.inl rfl) (fun w hs => ?_)
  have hs : st W0 w ((storeW q0 tl2_3) :: F) := (st_drop (st_pull [1] hs))
  exact ⟨(), trivial, rfl, hs⟩

set_option maxRecDepth 8000 in
set_option maxHeartbeats 4000000 in
theorem au8_List (W0 : World) (q0 : Nat)  :
    Con Try.prog W0 28 #[pv q0, Value.slice none 0 0] [storeW q0 tl2_3] (X := Unit) (fun _ => True) (fun _ => Value.tuple #[iv 0, iv 0]) (fun _ => [storeW q0 tl2_3]) := by
  refine Con.of (args := [pv q0, Value.slice none 0 0]) Try.func28 rfl Try.ntmps28 rfl (fun F => ?_)
  show Wc _ W0 _ _ _ _ _ ((storeW q0 tl2_3) :: F)
  refine Wc.seq ?_
  refine Wc.region ?_
  refine Wl.q (v := iv 0) (q_assign rfl) ?_
  refine Wl.q (v := iv 0) (q_assign rfl) ?_
  refine Wl.done ?_
  refine Wx.go ?_
  refine Wc.seq ?_
  refine Wc.seq ?_
  refine Wc.region ?_
  refine Wl.q (v := pv q0) (q_move rfl) ?_
  refine Wl.e (e_call (F := F) (args := [pv q0]) Try.call25 rfl (made_w W0 q0 tl2_3)) (fun _ _ => ?_)
  refine Wl.imp (L' := (storeW q0 tl2_3) :: F) (fun _ h => h) ?_
  refine Wl.q (v := Value.bool false) (q_not rfl rfl) ?_
  refine Wl.done ?_
  refine Wx.go ?_
  refine Wc.no rfl ?_
  refine Wc.skip ?_
  refine Wx.go ?_
  refine Wc.seq ?_
  refine Wc.seq ?_
  refine Wc.region ?_
  refine Wl.q (v := Value.slice none 0 0) (q_move rfl) ?_
  refine Wl.q (v := iv 0) (q_len_slice Try.underlying22 rfl) ?_
  refine Wl.q (v := iv 0) (q_move rfl) ?_
  refine Wl.done ?_
  refine Wx.go ?_
  refine Wc.block ?_
  refine Wc.rounds 64 ?_
  refine Wn.round ?_
  refine Wc.seq ?_
  refine Wc.region ?_
  refine Wl.q (v := Value.bool false) (q_lss (r := false) rfl rfl (decide_eq_false (by decide))) ?_
  refine Wl.done ?_
  refine Wx.go ?_
  refine Wc.seq ?_
  refine Wc.no rfl ?_
  refine Wc.exit ?_
  refine Wx.thenExit ?_
  refine Wx.thenExit ?_
  refine Wx.out ?_
  refine Wx.go ?_
  refine Wc.seq ?_
  refine Wc.seq ?_
  refine Wc.region ?_
  refine Wl.q (v := Value.slice none 0 0) (q_move rfl) ?_
  refine Wl.q (v := iv 0) (q_len_slice Try.underlying22 rfl) ?_
  refine Wl.q (v := Value.bool true) (q_eql (r := true) rfl rfl (decide_eq_true (by decide))) ?_
  refine Wl.done ?_
  refine Wx.go ?_
  refine Wc.yes rfl ?_
  refine Wc.seq ?_
  refine Wc.region ?_
  refine Wl.q (v := iv 0) (q_assign rfl) ?_
  refine Wl.q (v := iv 0) (q_assign rfl) ?_
  refine Wl.done ?_
  refine Wx.go ?_
  refine Wc.ret ?_
  refine Wx.thenRet ?_
  refine Wx.fin2 rfl (.inl rfl) (fun w hs => ?_)
  have hs : st W0 w ((storeW q0 tl2_3) :: F) := hs
  exact ⟨(), trivial, rfl, hs⟩

set_option maxRecDepth 8000 in
set_option maxHeartbeats 4000000 in
theorem au7_there (W0 : World) (q0 : Nat) (q1 : Nat)  :
    Con Try.prog W0 17 #[pv q0, Value.slice (some ⟨q1, 0, none⟩) 1 1] [storeW q0 tl2_3, pt q1 3 [iv 1]] (X := Unit) (fun _ => True) (fun _ => iv 0) (fun _ => [storeW q0 tl2_3, pt q1 3 [iv 1]]) := by
  refine Con.of (args := [pv q0, Value.slice (some ⟨q1, 0, none⟩) 1 1]) Try.func17 rfl Try.ntmps17 rfl (fun F => ?_)
  show Wc _ W0 _ _ _ _ _ ((storeW q0 tl2_3) :: (pt q1 3 [iv 1]) :: F)
  refine Wc.seq ?_
  refine Wc.region ?_
  refine Wl.q (v := iv 0) (q_assign rfl) ?_
  refine Wl.done ?_
  refine Wx.go ?_
  refine Wc.seq ?_
  refine Wc.seq ?_
  refine Wc.region ?_
  refine Wl.q (v := pv q0) (q_move rfl) ?_
  refine Wl.e (e_call (F := (pt q1 3 [iv 1]) :: F) (args := [pv q0, Value.slice none 0 0]) Try.call28 rfl (au8_List W0 q0)) (fun _ _ => ?_)
  refine Wl.imp (L' := (storeW q0 tl2_3) :: (pt q1 3 [iv 1]) :: F) (fun _ h => h) ?_
  refine Wl.q (v := Value.tuple #[iv 0, iv 0]) (q_move rfl) ?_
  refine Wl.q (v := iv 0) (q_extract (i := 0) rfl rfl) ?_
  refine Wl.q (v := iv 0) (q_extract (i := 1) rfl rfl) ?_
  refine Wl.q (v := iv 0) (q_assign rfl) ?_
  refine Wl.q (v := iv 0) (q_assign rfl) ?_
  refine Wl.done ?_
  refine Wx.go ?_
  refine Wc.seq ?_
  refine Wc.region ?_
  refine Wl.q (v := iv 0) (q_move rfl) ?_
  refine Wl.q (v := Value.bool false) (q_eql (r := false) rfl rfl (decide_eq_false (by decide))) ?_
  refine Wl.done ?_
  refine Wx.go ?_
  refine Wc.no rfl ?_
  refine Wc.skip ?_
  refine Wx.go ?_
  refine Wc.seq ?_
  refine Wc.seq ?_
  refine Wc.region ?_
  refine Wl.q (v := Value.slice (some ⟨q1, 0, none⟩) 1 1) (q_move rfl) ?_
  refine Wl.q (v := iv 1) (q_len_slice Try.underlying22 rfl) ?_
  refine Wl.q (v := iv 0) (q_move rfl) ?_
  refine Wl.done ?_
  refine Wx.go ?_
  refine Wc.block ?_
  refine Wc.rounds 64 ?_
  refine Wn.round ?_
  refine Wc.seq ?_
  refine Wc.region ?_
  refine Wl.q (v := Value.bool true) (q_lss (r := true) rfl rfl (decide_eq_true (by decide))) ?_
  refine Wl.done ?_
  refine Wx.go ?_
  refine Wc.seq ?_
  refine Wc.yes rfl ?_
  refine Wc.skip ?_
  refine Wx.go ?_
  refine Wc.seq ?_
  refine Wc.block ?_
  refine Wc.seq ?_
  refine Wc.region ?_
  refine Wl.q (v := pv q1) (q_idx (m := 0) se_22 rfl rfl (by omega) (by omega) rfl) ?_
  refine Wl.q (v := iv 1) (q_load sc_3 rfl (.cel (i := 1) rfl rfl)) ?_
  refine Wl.q (v := iv 1) (q_assign rfl) ?_
  refine Wl.done ?_
  refine Wx.go ?_
  refine Wc.seq ?_
  refine Wc.region ?_
  refine Wl.q (v := pv q0) (q_move rfl) ?_
  refine Wl.q (v := iv 1) (q_move rfl) ?_
  refine Wl.e (e_call (F := (pt q1 3 [iv 1]) :: F) (args := [pv q0, iv 1]) Try.call29 rfl (get_w W0 q0 tl2_3 1 ⟨1, 1, 0, 0⟩ (by decide) rfl)) (fun _ _ => ?_)
  refine Wl.imp (L' := (storeW q0 tl2_3) :: (pt q1 3 [iv 1]) :: F) (fun _ h => h) ?_
  refine Wl.q (v := Value.tuple #[Value.agg #[Value.int .u8 1, iv 1, iv 0, iv 0], Value.bool true]) (q_move rfl) ?_
  refine Wl.q (v := Value.agg #[Value.int .u8 1, iv 1, iv 0, iv 0]) (q_extract (i := 0) rfl rfl) ?_
  refine Wl.q (v := Value.bool true) (q_extract (i := 1) rfl rfl) ?_
  refine Wl.e (e_alloc (vs := [Value.int .u8 0, iv 0, iv 0, iv 0]) zo_31 rfl) (fun b1 _ => ?_)
  refine Wl.e (e_storeAgg (i := 0) (vs := [Value.int .u8 1, iv 1, iv 0, iv 0]) (c' := [Value.int .u8 1, iv 1, iv 0, iv 0]) sz_31 rfl rfl rfl rfl (by simp) rfl) (fun _ _ => ?_)
  refine Wl.imp (L' := (pt b1 31 [Value.int .u8 1, iv 1, iv 0, iv 0]) :: (storeW q0 tl2_3) :: (pt q1 3 [iv 1]) :: F) (fun _ h => h) ?_
  refine Wl.q (v := Value.bool true) (q_assign rfl) ?_
  refine Wl.done ?_
  refine Wx.go ?_
  refine Wc.seq ?_
  refine Wc.region ?_
  refine Wl.q (v := Value.bool true) (q_move rfl) ?_
  refine Wl.q (v := Value.bool false) (q_not rfl rfl) ?_
  refine Wl.done ?_
  refine Wx.go ?_
  refine Wc.no rfl ?_
  refine Wc.skip ?_
  refine Wx.blockEnd ?_
  refine Wx.go ?_
  refine Wc.region ?_
  refine Wl.q (v := iv 1) (q_add (c := 1) rfl rfl (by decide)) ?_
  refine Wl.q (v := iv 1) (q_move rfl) ?_
  refine Wl.done ?_
  refine Wx.again ?_
  refine Wn.round ?_
  refine Wc.imp (L' := (storeW q0 tl2_3) :: (pt q1 3 [iv 1]) :: F) (fun w hs => (st_drop (st_pull [0] hs))) ?_
  refine Wc.seq ?_
  refine Wc.region ?_
  refine Wl.q (v := Value.bool false) (q_lss (r := false) rfl rfl (decide_eq_false (by decide))) ?_
  refine Wl.done ?_
  refine Wx.go ?_
  refine Wc.seq ?_
  refine Wc.no rfl ?_
  refine Wc.exit ?_
  refine Wx.thenExit ?_
  refine Wx.thenExit ?_
  refine Wx.out ?_
  refine Wx.go ?_
  refine Wc.seq ?_
  refine Wc.region ?_
  refine Wl.q (v := iv 0) (q_assign rfl) ?_
  refine Wl.done ?_
  refine Wx.go ?_
  refine Wc.ret ?_
  refine Wx.fin1 rfl (.inl rfl) (fun w hs => ?_)
  have hs : st W0 w ((storeW q0 tl2_3) :: (pt q1 3 [iv 1]) :: F) := hs
  exact ⟨(), trivial, rfl, hs⟩

def tl3_4 : List TermR := [⟨1, 1, 0, 0⟩, ⟨4, 13, 1, 0⟩, ⟨5, 0, 2, 0⟩, ⟨4, 14, 1, 0⟩]

set_option maxRecDepth 8000 in
set_option maxHeartbeats 4000000 in
theorem au6_Own (W0 : World) (q0 : Nat)  :
    Con Try.prog W0 8 #[pv q0, iv 1] [storeW q0 tl2_3] (X := Unit) (fun _ => True) (fun _ => Value.tuple #[iv 4, iv 0]) (fun _ => [storeW q0 tl3_4]) := by
  refine Con.of (args := [pv q0, iv 1]) Try.func8 rfl Try.ntmps8 rfl (fun F => ?_)
  show Wc _ W0 _ _ _ _ _ ((storeW q0 tl2_3) :: F)
  refine Wc.seq ?_
  refine Wc.region ?_
  refine Wl.q (v := iv 0) (q_assign rfl) ?_
  refine Wl.q (v := iv 0) (q_assign rfl) ?_
  refine Wl.done ?_
  refine Wx.go ?_
  refine Wc.seq ?_
  refine Wc.seq ?_
  refine Wc.region ?_
  refine Wl.q (v := pv q0) (q_move rfl) ?_
  refine Wl.q (v := iv 1) (q_move rfl) ?_
  refine Wl.e (e_buildSlice (cs := [iv 1]) se_22 zo_3 (by decide) (by decide) (by kernel_rfl)) (fun b1 _ => ?_)
  refine Wl.imp (L' := (storeW q0 tl2_3) :: (pt b1 3 [iv 1]) :: F) (fun _ h => st_pull [1, 0] h) ?_
  refine Wl.e (e_call (F := F) (args := [pv q0, Value.slice (some ⟨b1, 0, none⟩) 1 1]) Try.call17 rfl (au7_there W0 q0 b1)) (fun _ _ => ?_)
  refine Wl.imp (L' := (storeW q0 tl2_3) :: (pt b1 3 [iv 1]) :: F) (fun _ h => h) ?_
  refine Wl.q (v := iv 0) (q_assign rfl) ?_
  refine Wl.done ?_
  refine Wx.go ?_
  refine Wc.seq ?_
  refine Wc.region ?_
  refine Wl.q (v := iv 0) (q_move rfl) ?_
  refine Wl.q (v := Value.bool false) (q_neq (r := true) rfl rfl (decide_eq_true (by decide))) ?_
  refine Wl.done ?_
  refine Wx.go ?_
  refine Wc.no rfl ?_
  refine Wc.skip ?_
  refine Wx.go ?_
  refine Wc.seq ?_
  refine Wc.region ?_
  refine Wl.q (v := pv q0) (q_move rfl) ?_
  refine Wl.q (v := iv 1) (q_move rfl) ?_
  refine Wl.q (v := Value.agg #[Value.int .u8 4, iv 14, iv 1, iv 0]) (q_build (pl := [(0, 1), (1, 1), (2, 1), (3, 1)]) Try.underlying31 zo_31 (by kernel_rfl) (by kernel_rfl)) ?_
  refine Wl.e (e_call (F := (pt b1 3 [iv 1]) :: F) (args := [pv q0, Value.agg #[Value.int .u8 4, iv 14, iv 1, iv 0]]) Try.call15 rfl (make_w W0 q0 tl2_3 tl3_4 ⟨4, 14, 1, 0⟩ 4 4 0 (by unfold okT; decide) (by decide +kernel) rfl)) (fun _ _ => ?_)
  refine Wl.imp (L' := (storeW q0 tl3_4) :: (pt b1 3 [iv 1]) :: F) (fun _ h => h) ?_
  refine Wl.q (v := iv 4) (q_extract (i := 0) rfl rfl) ?_
  refine Wl.q (v := iv 0) (q_extract (i := 1) rfl rfl) ?_
  refine Wl.q (v := iv 4) (q_assign rfl) ?_
  refine Wl.q (v := iv 0) (q_assign rfl) ?_
  refine Wl.done ?_
  refine Wx.go ?_
  refine Wc.ret ?_
  refine Wx.fin2 rfl (.inl rfl) (fun w hs => ?_)
  have hs : st W0 w ((storeW q0 tl3_4) :: F) := (st_drop (st_pull [1] hs))
  exact ⟨(), trivial, rfl, hs⟩

set_option maxRecDepth 8000 in
set_option maxHeartbeats 4000000 in
theorem au1_lives (W0 : World)  :
    Con Try.prog W0 12 #[] [] (X := Unit) (fun _ => True) (fun _ => Value.bool true) (fun _ => []) := by
  refine Con.of (args := []) Try.func12 rfl Try.ntmps12 rfl (fun F => ?_)
  show Wc _ W0 _ _ _ _ _ (F)
  refine Wc.seq ?_
  refine Wc.region ?_
  refine Wl.q (v := Value.bool false) (q_assign rfl) ?_
  refine Wl.done ?_
  refine Wx.go ?_
  refine Wc.seq ?_
  refine Wc.region ?_
  refine Wl.q (v := Value.agg #[Value.int .u8 1, iv 1, iv 0, iv 0]) (q_build (pl := [(0, 1), (1, 1), (2, 1), (3, 1)]) Try.underlying31 zo_31 (by kernel_rfl) (by kernel_rfl)) ?_
  refine Wl.e (e_buildSlice (cs := [Value.int .u8 1, iv 1, iv 0, iv 0]) se_32 zo_31 (by decide) (by decide) (by kernel_rfl)) (fun b1 _ => ?_)
  refine Wl.e (e_call (F := F) (args := [Value.slice (some ⟨b1, 0, none⟩) 1 1]) Try.call4 rfl (au2_Build W0 b1)) (fun ⟨b2, b3⟩ _ => ?_)
  refine Wl.imp (L' := (pt b1 31 [Value.int .u8 1, iv 1, iv 0, iv 0]) :: (storeW b2 tl0_1) :: (refW b3 tl0_1) :: F) (fun _ h => h) ?_
  refine Wl.q (v := Value.tuple #[pv b2, pv b3, Value.bool true]) (q_move rfl) ?_
  refine Wl.q (v := pv b2) (q_extract (i := 0) rfl rfl) ?_
  refine Wl.q (v := pv b3) (q_extract (i := 1) rfl rfl) ?_
  refine Wl.q (v := Value.bool true) (q_extract (i := 2) rfl rfl) ?_
  refine Wl.q (v := pv b2) (q_assign rfl) ?_
  refine Wl.q (v := pv b3) (q_assign rfl) ?_
  refine Wl.q (v := Value.bool true) (q_assign rfl) ?_
  refine Wl.done ?_
  refine Wx.go ?_
  refine Wc.seq ?_
  refine Wc.imp (L' := (storeW b2 tl0_1) :: F) (fun w hs => (st_drop (st_drop (st_pull [0, 1] hs)))) ?_
  refine Wc.region ?_
  refine Wl.q (v := pv b2) (q_move rfl) ?_
  refine Wl.e (e_call (F := F) (args := [pv b2, iv 1]) Try.call7 rfl (au3_Card W0 b2)) (fun _ _ => ?_)
  refine Wl.imp (L' := (storeW b2 tl2_3) :: F) (fun _ h => h) ?_
  refine Wl.q (v := Value.tuple #[iv 2, iv 3, iv 0]) (q_move rfl) ?_
  refine Wl.q (v := iv 2) (q_extract (i := 0) rfl rfl) ?_
  refine Wl.q (v := iv 3) (q_extract (i := 1) rfl rfl) ?_
  refine Wl.q (v := iv 0) (q_extract (i := 2) rfl rfl) ?_
  refine Wl.q (v := iv 2) (q_assign rfl) ?_
  refine Wl.q (v := iv 3) (q_assign rfl) ?_
  refine Wl.q (v := iv 0) (q_assign rfl) ?_
  refine Wl.done ?_
  refine Wx.go ?_
  refine Wc.seq ?_
  refine Wc.region ?_
  refine Wl.q (v := pv b2) (q_move rfl) ?_
  refine Wl.e (e_call (F := F) (args := [pv b2, iv 1]) Try.call8 rfl (au6_Own W0 b2)) (fun _ _ => ?_)
  refine Wl.imp (L' := (storeW b2 tl3_4) :: F) (fun _ h => h) ?_
  refine Wl.q (v := Value.tuple #[iv 4, iv 0]) (q_move rfl) ?_
  refine Wl.q (v := iv 4) (q_extract (i := 0) rfl rfl) ?_
  refine Wl.q (v := iv 0) (q_extract (i := 1) rfl rfl) ?_
  refine Wl.q (v := iv 4) (q_assign rfl) ?_
  refine Wl.q (v := iv 0) (q_assign rfl) ?_
  refine Wl.done ?_
  refine Wx.go ?_
  refine Wc.seq ?_
  refine Wc.region ?_
  refine Wl.q (v := Value.bool true) (q_move rfl) ?_
  refine Wl.q (v := Value.bool true) (q_move rfl) ?_
  refine Wl.q (v := iv 0) (q_move rfl) ?_
  refine Wl.q (v := Value.bool true) (q_eql (r := true) rfl rfl (decide_eq_true (by decide))) ?_
  refine Wl.q (v := Value.bool true) (q_pick (t := true) rfl rfl) ?_
  refine Wl.q (v := Value.bool true) (q_move rfl) ?_
  refine Wl.q (v := iv 0) (q_move rfl) ?_
  refine Wl.q (v := Value.bool true) (q_eql (r := true) rfl rfl (decide_eq_true (by decide))) ?_
  refine Wl.q (v := Value.bool true) (q_pick (t := true) rfl rfl) ?_
  refine Wl.q (v := Value.bool true) (q_move rfl) ?_
  refine Wl.q (v := iv 2) (q_move rfl) ?_
  refine Wl.q (v := Value.bool true) (q_gtr (r := true) rfl rfl (decide_eq_true (by decide))) ?_
  refine Wl.q (v := Value.bool true) (q_pick (t := true) rfl rfl) ?_
  refine Wl.q (v := Value.bool true) (q_move rfl) ?_
  refine Wl.q (v := iv 3) (q_move rfl) ?_
  refine Wl.q (v := Value.bool true) (q_gtr (r := true) rfl rfl (decide_eq_true (by decide))) ?_
  refine Wl.q (v := Value.bool true) (q_pick (t := true) rfl rfl) ?_
  refine Wl.q (v := Value.bool true) (q_move rfl) ?_
  refine Wl.q (v := iv 4) (q_move rfl) ?_
  refine Wl.q (v := Value.bool true) (q_gtr (r := true) rfl rfl (decide_eq_true (by decide))) ?_
  refine Wl.q (v := Value.bool true) (q_pick (t := true) rfl rfl) ?_
  refine Wl.q (v := Value.bool true) (q_move rfl) ?_
  refine Wl.q (v := iv 2) (q_move rfl) ?_
  refine Wl.q (v := iv 4) (q_move rfl) ?_
  refine Wl.q (v := Value.bool true) (q_neq (r := false) rfl rfl (decide_eq_false (by decide))) ?_
  refine Wl.q (v := Value.bool true) (q_pick (t := true) rfl rfl) ?_
  refine Wl.q (v := Value.bool true) (q_assign rfl) ?_
  refine Wl.done ?_
  refine Wx.go ?_
  refine Wc.ret ?_
  refine Wx.fin1 rfl (.inl rfl) (fun w hs => ?_)
  have hs : st W0 w (F) := (st_drop (st_pull [0] hs))
  exact ⟨(), trivial, rfl, hs⟩

end Go.Proofs.Ytkdjagmgmodfnaa
