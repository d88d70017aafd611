/- What follows: contracts of the calls. -/
import Derived.Test.YtoehhbapilfdbaaDoorDdApart
namespace Go.Proofs.YtoehhbapilfdbaaDoor
open Go Go.SL Go.Dd Go.RowKit
set_option linter.unusedVariables false
set_option maxRecDepth 8000

set_option maxRecDepth 8000 in
set_option maxHeartbeats 4000000 in
theorem ap28_SchedApart (W0 : World) (n : Int) (hn : 0 ≤ n ∧ n ≤ 1152921504606846976)  :
    Con Tryd.prog W0 4 #[iv n, iv 2] [] (X := Unit) (fun _ => True) (fun _ => Value.bool true) (fun _ => []) := by
  refine Con.of (args := [iv n, iv 2]) Tryd.func4 rfl Tryd.ntmps4 rfl (fun F => ?_)
  show Wc _ W0 _ _ _ _ _ (F)
  refine Wc.seq ?_
  refine Wc.region ?_
  refine Wl.q (v := Value.bool false) (q_assign rfl) ?_
  refine Wl.done ?_
  refine Wx.go ?_
  refine Wc.seq ?_
  refine Wc.seq ?_
  refine Wc.region ?_
  refine Wl.q (v := iv n) (q_move rfl) ?_
  refine Wl.q (v := Value.bool false) (q_lss (r := false) rfl rfl (decide_eq_false (by omega))) ?_
  refine Wl.q (v := Value.bool false) (q_move rfl) ?_
  refine Wl.q (v := iv n) (q_move rfl) ?_
  refine Wl.q (v := Value.bool false) (q_gtr (r := false) rfl rfl (decide_eq_false (by omega))) ?_
  refine Wl.q (v := Value.bool false) (q_pick (t := false) rfl rfl) ?_
  refine Wl.q (v := Value.bool false) (q_move rfl) ?_
  refine Wl.q (v := iv 2) (q_move rfl) ?_
  refine Wl.q (v := Value.bool false) (q_lss (r := false) rfl rfl (decide_eq_false (by decide))) ?_
  refine Wl.q (v := Value.bool false) (q_pick (t := false) rfl rfl) ?_
  refine Wl.q (v := Value.bool false) (q_move rfl) ?_
  refine Wl.q (v := iv 2) (q_move rfl) ?_
  refine Wl.q (v := Value.bool false) (q_gtr (r := false) rfl rfl (decide_eq_false (by decide))) ?_
  refine Wl.q (v := Value.bool false) (q_pick (t := false) rfl rfl) ?_
  refine Wl.done ?_
  refine Wx.go ?_
  refine Wc.no rfl ?_
  refine Wc.skip ?_
  refine Wx.go ?_
  refine Wc.seq ?_
  refine Wc.region ?_
  refine Wl.q (v := iv n) (q_move rfl) ?_
  refine Wl.q (v := Value.agg #[Value.int .u8 1, iv n, iv 0, iv 0]) (q_build (pl := [(0, 1), (1, 1), (2, 1), (3, 1)]) Tryd.underlying29 zo_29 (by kernel_rfl) (by kernel_rfl)) ?_
  refine Wl.q (v := iv n) (q_move rfl) ?_
  refine Wl.q (v := iv (n + 1)) (q_add (c := (n + 1)) rfl rfl (wrap_i64 (by omega) (by omega))) ?_
  refine Wl.q (v := Value.agg #[Value.int .u8 1, iv (n + 1), iv 0, iv 0]) (q_build (pl := [(0, 1), (1, 1), (2, 1), (3, 1)]) Tryd.underlying29 zo_29 (by kernel_rfl) (by kernel_rfl)) ?_
  refine Wl.q (v := iv n) (q_move rfl) ?_
  refine Wl.q (v := iv (n + 2)) (q_add (c := (n + 2)) rfl rfl (wrap_i64 (by omega) (by omega))) ?_
  refine Wl.q (v := Value.agg #[Value.int .u8 1, iv (n + 2), iv 0, iv 0]) (q_build (pl := [(0, 1), (1, 1), (2, 1), (3, 1)]) Tryd.underlying29 zo_29 (by kernel_rfl) (by kernel_rfl)) ?_
  refine Wl.e (e_buildSlice (cs := [Value.int .u8 1, iv n, iv 0, iv 0, Value.int .u8 1, iv (n + 1), iv 0, iv 0, Value.int .u8 1, iv (n + 2), iv 0, iv 0]) se_30 zo_29 (by decide) (by decide) (by kernel_rfl)) (fun b1 _ => ?_)
  refine Wl.e (e_call (F := F) (args := [Value.slice (some ⟨b1, 0, none⟩) 3 3]) Tryd.call5 rfl (ap2_Build W0 n hn b1)) (fun ⟨b2, b3⟩ _ => ?_)
  refine Wl.imp (L' := (pt b1 29 [Value.int .u8 1, iv n, iv 0, iv 0, Value.int .u8 1, iv (n + 1), iv 0, iv 0, Value.int .u8 1, iv (n + 2), iv 0, iv 0]) :: (storeW b2 (tl27_3 n)) :: (refW b3 (tl27_3 n)) :: F) (fun _ h => h) ?_
  refine Wl.q (v := Value.tuple #[pv b2, pv b3, Value.bool true]) (q_move rfl) ?_
  refine Wl.q (v := pv b2) (q_extract (i := 0) rfl rfl) ?_
  refine Wl.q (v := pv b3) (q_extract (i := 1) rfl rfl) ?_
  refine Wl.q (v := Value.bool true) (q_extract (i := 2) rfl rfl) ?_
  refine Wl.q (v := pv b2) (q_assign rfl) ?_
  refine Wl.q (v := pv b3) (q_assign rfl) ?_
  refine Wl.q (v := Value.bool true) (q_assign rfl) ?_
  refine Wl.done ?_
  refine Wx.go ?_
  refine Wc.seq ?_
  refine Wc.imp (L' := (storeW b2 (tl27_3 n)) :: F) (fun w hs => (st_drop (st_drop (st_pull [0, 1] hs)))) ?_
  refine Wc.region ?_
  refine Wl.q (v := pv b2) (q_move rfl) ?_
  refine Wl.e (e_call (F := F) (args := [pv b2, iv 1, iv 2, iv 3]) Tryd.call6 rfl (ap3_Next W0 n hn b2)) (fun _ _ => ?_)
  refine Wl.imp (L' := (storeW b2 (tl34_10 n)) :: F) (fun _ h => h) ?_
  refine Wl.q (v := Value.tuple #[Value.agg #[iv 5, iv 6, iv 7, iv 8, iv 9, iv 10], iv 0]) (q_move rfl) ?_
  refine Wl.q (v := Value.agg #[iv 5, iv 6, iv 7, iv 8, iv 9, iv 10]) (q_extract (i := 0) rfl rfl) ?_
  refine Wl.q (v := iv 0) (q_extract (i := 1) rfl rfl) ?_
  refine Wl.e (e_alloc (vs := [iv 0, iv 0, iv 0, iv 0, iv 0, iv 0]) zo_33 rfl) (fun b4 _ => ?_)
  refine Wl.e (e_storeAgg (i := 0) (vs := [iv 5, iv 6, iv 7, iv 8, iv 9, iv 10]) (c' := [iv 5, iv 6, iv 7, iv 8, iv 9, iv 10]) sz_33 rfl rfl rfl rfl (by simp) rfl) (fun _ _ => ?_)
  refine Wl.imp (L' := (pt b4 33 [iv 5, iv 6, iv 7, iv 8, iv 9, iv 10]) :: (storeW b2 (tl34_10 n)) :: F) (fun _ h => h) ?_
  refine Wl.q (v := iv 0) (q_assign rfl) ?_
  refine Wl.done ?_
  refine Wx.go ?_
  refine Wc.seq ?_
  refine Wc.seq ?_
  refine Wc.region ?_
  refine Wl.q (v := Value.bool true) (q_move rfl) ?_
  refine Wl.q (v := Value.bool false) (q_not rfl rfl) ?_
  refine Wl.q (v := Value.bool false) (q_move rfl) ?_
  refine Wl.q (v := iv 0) (q_move rfl) ?_
  refine Wl.q (v := Value.bool false) (q_neq (r := true) rfl rfl (decide_eq_true (by decide))) ?_
  refine Wl.q (v := Value.bool false) (q_pick (t := false) rfl rfl) ?_
  refine Wl.done ?_
  refine Wx.go ?_
  refine Wc.no rfl ?_
  refine Wc.skip ?_
  refine Wx.go ?_
  refine Wc.seq ?_
  refine Wc.region ?_
  refine Wl.q (v := Value.pointer (some ⟨b4, 2, none⟩)) (q_field (m := 2) fo_33_2 rfl rfl) ?_
  refine Wl.q (v := iv 7) (q_load sc_3 rfl (.cel (i := 0) rfl rfl)) ?_
  refine Wl.q (v := Value.pointer (some ⟨b4, 3, none⟩)) (q_field (m := 3) fo_33_3 rfl rfl) ?_
  refine Wl.q (v := iv 8) (q_load sc_3 rfl (.cel (i := 0) rfl rfl)) ?_
  refine Wl.q (v := Value.pointer (some ⟨b4, 4, none⟩)) (q_field (m := 4) fo_33_4 rfl rfl) ?_
  refine Wl.q (v := iv 9) (q_load sc_3 rfl (.cel (i := 0) rfl rfl)) ?_
  refine Wl.q (v := Value.pointer (some ⟨b4, 5, none⟩)) (q_field (m := 5) fo_33_5 rfl rfl) ?_
  refine Wl.q (v := iv 10) (q_load sc_3 rfl (.cel (i := 0) rfl rfl)) ?_
  refine Wl.e (e_buildSlice (cs := [iv 7, iv 8, iv 9, iv 10]) se_31 zo_3 (by decide) (by decide) (by kernel_rfl)) (fun b5 _ => ?_)
  refine Wl.q (v := Value.slice (some ⟨b5, 0, none⟩) 4 4) (q_assign rfl) ?_
  refine Wl.done ?_
  refine Wx.go ?_
  refine Wc.seq ?_
  refine Wc.region ?_
  refine Wl.q (v := pv b2) (q_move rfl) ?_
  refine Wl.q (v := Value.slice (some ⟨b5, 0, none⟩) 4 4) (q_move rfl) ?_
  refine Wl.q (v := iv 2) (q_move rfl) ?_
  refine Wl.q (v := Value.pointer (some ⟨b5, 2, none⟩)) (q_idx (m := 2) se_31 rfl rfl (by omega) (by omega) rfl) ?_
  refine Wl.q (v := iv 9) (q_load sc_3 rfl (.cel (i := 0) rfl rfl)) ?_
  refine Wl.e (e_buildSlice (cs := [iv 9, iv 3]) se_31 zo_3 (by decide) (by decide) (by kernel_rfl)) (fun b6 _ => ?_)
  refine Wl.imp (L' := (storeW b2 (tl34_10 n)) :: (pt b6 3 [iv 9, iv 3]) :: (pt b5 3 [iv 7, iv 8, iv 9, iv 10]) :: (pt b4 33 [iv 5, iv 6, iv 7, iv 8, iv 9, iv 10]) :: F) (fun _ h => st_pull [3, 0] h) ?_
  refine Wl.e (e_call (F := (pt b5 3 [iv 7, iv 8, iv 9, iv 10]) :: (pt b4 33 [iv 5, iv 6, iv 7, iv 8, iv 9, iv 10]) :: F) (args := [pv b2, Value.slice (some ⟨b6, 0, none⟩) 2 2]) Tryd.call8 rfl (dnew_w W0 b2 (tl34_10 n) b6 2 [9, 3] 2 [iv 9, iv 3] rfl rfl (by kernel_rfl))) (fun k7 _ => ?_)
  refine Wl.imp (L' := (knowK k7 b2 (tl34_10 n) (KL [9, 3])) :: (storeW b2 (tl34_10 n)) :: (pt b6 3 [iv 9, iv 3]) :: (pt b5 3 [iv 7, iv 8, iv 9, iv 10]) :: (pt b4 33 [iv 5, iv 6, iv 7, iv 8, iv 9, iv 10]) :: F) (fun _ h => h) ?_
  refine Wl.q (v := Value.tuple #[pv k7, iv 0]) (q_move rfl) ?_
  refine Wl.q (v := pv k7) (q_extract (i := 0) rfl rfl) ?_
  refine Wl.q (v := iv 0) (q_extract (i := 1) rfl rfl) ?_
  refine Wl.q (v := pv k7) (q_assign rfl) ?_
  refine Wl.q (v := iv 0) (q_assign rfl) ?_
  refine Wl.done ?_
  refine Wx.go ?_
  refine Wc.seq ?_
  refine Wc.region ?_
  refine Wl.q (v := pv b2) (q_move rfl) ?_
  refine Wl.q (v := Value.pointer (some ⟨b4, 1, none⟩)) (q_field (m := 1) fo_33_1 rfl rfl) ?_
  refine Wl.q (v := iv 6) (q_load sc_3 rfl (.cel (i := 4) rfl rfl)) ?_
  refine Wl.e (e_buildSlice (cs := [iv 6, iv 3]) se_31 zo_3 (by decide) (by decide) (by kernel_rfl)) (fun b8 _ => ?_)
  refine Wl.imp (L' := (storeW b2 (tl34_10 n)) :: (pt b8 3 [iv 6, iv 3]) :: (knowK k7 b2 (tl34_10 n) (KL [9, 3])) :: (pt b6 3 [iv 9, iv 3]) :: (pt b5 3 [iv 7, iv 8, iv 9, iv 10]) :: (pt b4 33 [iv 5, iv 6, iv 7, iv 8, iv 9, iv 10]) :: F) (fun _ h => st_pull [2, 0] h) ?_
  refine Wl.e (e_call (F := (knowK k7 b2 (tl34_10 n) (KL [9, 3])) :: (pt b6 3 [iv 9, iv 3]) :: (pt b5 3 [iv 7, iv 8, iv 9, iv 10]) :: (pt b4 33 [iv 5, iv 6, iv 7, iv 8, iv 9, iv 10]) :: F) (args := [pv b2, Value.slice (some ⟨b8, 0, none⟩) 2 2]) Tryd.call8 rfl (dnew_w W0 b2 (tl34_10 n) b8 2 [6, 3] 2 [iv 6, iv 3] rfl rfl (by kernel_rfl))) (fun k9 _ => ?_)
  refine Wl.imp (L' := (knowK k9 b2 (tl34_10 n) (KL [6, 3])) :: (storeW b2 (tl34_10 n)) :: (pt b8 3 [iv 6, iv 3]) :: (knowK k7 b2 (tl34_10 n) (KL [9, 3])) :: (pt b6 3 [iv 9, iv 3]) :: (pt b5 3 [iv 7, iv 8, iv 9, iv 10]) :: (pt b4 33 [iv 5, iv 6, iv 7, iv 8, iv 9, iv 10]) :: F) (fun _ h => h) ?_
  refine Wl.q (v := Value.tuple #[pv k9, iv 0]) (q_move rfl) ?_
  refine Wl.q (v := pv k9) (q_extract (i := 0) rfl rfl) ?_
  refine Wl.q (v := iv 0) (q_extract (i := 1) rfl rfl) ?_
  refine Wl.q (v := pv k9) (q_assign rfl) ?_
  refine Wl.q (v := iv 0) (q_assign rfl) ?_
  refine Wl.done ?_
  refine Wx.go ?_
  refine Wc.seq ?_
  refine Wc.imp (L' := (knowK k9 b2 (tl34_10 n) (KL [6, 3])) :: (storeW b2 (tl34_10 n)) :: (knowK k7 b2 (tl34_10 n) (KL [9, 3])) :: (pt b5 3 [iv 7, iv 8, iv 9, iv 10]) :: (pt b4 33 [iv 5, iv 6, iv 7, iv 8, iv 9, iv 10]) :: F) (fun w hs => (st_drop (st_drop (st_pull [2, 3] hs)))) ?_
  refine Wc.region ?_
  refine Wl.q (v := pv b2) (q_move rfl) ?_
  refine Wl.e (e_buildSlice (cs := [iv 1, iv 3]) se_31 zo_3 (by decide) (by decide) (by kernel_rfl)) (fun b10 _ => ?_)
  refine Wl.imp (L' := (storeW b2 (tl34_10 n)) :: (pt b10 3 [iv 1, iv 3]) :: (knowK k9 b2 (tl34_10 n) (KL [6, 3])) :: (knowK k7 b2 (tl34_10 n) (KL [9, 3])) :: (pt b5 3 [iv 7, iv 8, iv 9, iv 10]) :: (pt b4 33 [iv 5, iv 6, iv 7, iv 8, iv 9, iv 10]) :: F) (fun _ h => st_pull [2, 0] h) ?_
  refine Wl.e (e_call (F := (knowK k9 b2 (tl34_10 n) (KL [6, 3])) :: (knowK k7 b2 (tl34_10 n) (KL [9, 3])) :: (pt b5 3 [iv 7, iv 8, iv 9, iv 10]) :: (pt b4 33 [iv 5, iv 6, iv 7, iv 8, iv 9, iv 10]) :: F) (args := [pv b2, Value.slice (some ⟨b10, 0, none⟩) 2 2]) Tryd.call8 rfl (dnew_w W0 b2 (tl34_10 n) b10 2 [1, 3] 2 [iv 1, iv 3] rfl rfl (by kernel_rfl))) (fun k11 _ => ?_)
  refine Wl.imp (L' := (knowK k11 b2 (tl34_10 n) (KL [1, 3])) :: (storeW b2 (tl34_10 n)) :: (pt b10 3 [iv 1, iv 3]) :: (knowK k9 b2 (tl34_10 n) (KL [6, 3])) :: (knowK k7 b2 (tl34_10 n) (KL [9, 3])) :: (pt b5 3 [iv 7, iv 8, iv 9, iv 10]) :: (pt b4 33 [iv 5, iv 6, iv 7, iv 8, iv 9, iv 10]) :: F) (fun _ h => h) ?_
  refine Wl.q (v := Value.tuple #[pv k11, iv 0]) (q_move rfl) ?_
  refine Wl.q (v := pv k11) (q_extract (i := 0) rfl rfl) ?_
  refine Wl.q (v := iv 0) (q_extract (i := 1) rfl rfl) ?_
  refine Wl.q (v := pv k11) (q_assign rfl) ?_
  refine Wl.q (v := iv 0) (q_assign rfl) ?_
  refine Wl.done ?_
  refine Wx.go ?_
  refine Wc.seq ?_
  refine Wc.seq ?_
  refine Wc.region ?_
  refine Wl.q (v := iv 0) (q_move rfl) ?_
  refine Wl.q (v := Value.bool false) (q_neq (r := true) rfl rfl (decide_eq_true (by decide))) ?_
  refine Wl.q (v := Value.bool false) (q_move rfl) ?_
  refine Wl.q (v := iv 0) (q_move rfl) ?_
  refine Wl.q (v := Value.bool false) (q_neq (r := true) rfl rfl (decide_eq_true (by decide))) ?_
  refine Wl.q (v := Value.bool false) (q_pick (t := false) rfl rfl) ?_
  refine Wl.q (v := Value.bool false) (q_move rfl) ?_
  refine Wl.q (v := iv 0) (q_move rfl) ?_
  refine Wl.q (v := Value.bool false) (q_neq (r := true) rfl rfl (decide_eq_true (by decide))) ?_
  refine Wl.q (v := Value.bool false) (q_pick (t := false) rfl rfl) ?_
  refine Wl.q (v := Value.bool false) (q_move rfl) ?_
  refine Wl.q (v := pv k7) (q_move rfl) ?_
  refine Wl.q (v := Value.pointer (some ⟨b4, 1, none⟩)) (q_field (m := 1) fo_33_1 rfl rfl) ?_
  refine Wl.q (v := iv 6) (q_load sc_3 rfl (.cel (i := 6) rfl rfl)) ?_
  refine Wl.imp (L' := (storeW b2 (tl34_10 n)) :: (knowK k7 b2 (tl34_10 n) (KL [9, 3])) :: (knowK k11 b2 (tl34_10 n) (KL [1, 3])) :: (pt b10 3 [iv 1, iv 3]) :: (knowK k9 b2 (tl34_10 n) (KL [6, 3])) :: (pt b5 3 [iv 7, iv 8, iv 9, iv 10]) :: (pt b4 33 [iv 5, iv 6, iv 7, iv 8, iv 9, iv 10]) :: F) (fun _ h => st_pull [1, 3] h) ?_
  refine Wl.e (e_call (F := (knowK k11 b2 (tl34_10 n) (KL [1, 3])) :: (pt b10 3 [iv 1, iv 3]) :: (knowK k9 b2 (tl34_10 n) (KL [6, 3])) :: (pt b5 3 [iv 7, iv 8, iv 9, iv 10]) :: (pt b4 33 [iv 5, iv 6, iv 7, iv 8, iv 9, iv 10]) :: F) (args := [pv k7, iv 6]) Tryd.call9 rfl (khas_w W0 k7 b2 (tl34_10 n) (KL [9, 3]) 6 (der_no [0, 9, 3] (by kernel_rfl)))) (fun _ _ => ?_)
  refine Wl.imp (L' := (storeW b2 (tl34_10 n)) :: (knowK k7 b2 (tl34_10 n) (KL [9, 3])) :: (knowK k11 b2 (tl34_10 n) (KL [1, 3])) :: (pt b10 3 [iv 1, iv 3]) :: (knowK k9 b2 (tl34_10 n) (KL [6, 3])) :: (pt b5 3 [iv 7, iv 8, iv 9, iv 10]) :: (pt b4 33 [iv 5, iv 6, iv 7, iv 8, iv 9, iv 10]) :: F) (fun _ h => h) ?_
  refine Wl.q (v := Value.bool false) (q_pick (t := false) rfl rfl) ?_
  refine Wl.q (v := Value.bool false) (q_move rfl) ?_
  refine Wl.q (v := pv k7) (q_move rfl) ?_
  refine Wl.q (v := pv b4) (q_field (m := 0) fo_33_0 rfl rfl) ?_
  refine Wl.q (v := iv 5) (q_load sc_3 rfl (.cel (i := 6) rfl rfl)) ?_
  refine Wl.e (e_call (F := (knowK k11 b2 (tl34_10 n) (KL [1, 3])) :: (pt b10 3 [iv 1, iv 3]) :: (knowK k9 b2 (tl34_10 n) (KL [6, 3])) :: (pt b5 3 [iv 7, iv 8, iv 9, iv 10]) :: (pt b4 33 [iv 5, iv 6, iv 7, iv 8, iv 9, iv 10]) :: F) (args := [pv k7, iv 5]) Tryd.call9 rfl (khas_w W0 k7 b2 (tl34_10 n) (KL [9, 3]) 5 (der_no [0, 9, 3] (by kernel_rfl)))) (fun _ _ => ?_)
  refine Wl.imp (L' := (storeW b2 (tl34_10 n)) :: (knowK k7 b2 (tl34_10 n) (KL [9, 3])) :: (knowK k11 b2 (tl34_10 n) (KL [1, 3])) :: (pt b10 3 [iv 1, iv 3]) :: (knowK k9 b2 (tl34_10 n) (KL [6, 3])) :: (pt b5 3 [iv 7, iv 8, iv 9, iv 10]) :: (pt b4 33 [iv 5, iv 6, iv 7, iv 8, iv 9, iv 10]) :: F) (fun _ h => h) ?_
  refine Wl.q (v := Value.bool false) (q_pick (t := false) rfl rfl) ?_
  refine Wl.q (v := Value.bool false) (q_move rfl) ?_
  refine Wl.q (v := pv k9) (q_move rfl) ?_
  refine Wl.q (v := pv b4) (q_field (m := 0) fo_33_0 rfl rfl) ?_
  refine Wl.q (v := iv 5) (q_load sc_3 rfl (.cel (i := 6) rfl rfl)) ?_
  refine Wl.imp (L' := (storeW b2 (tl34_10 n)) :: (knowK k9 b2 (tl34_10 n) (KL [6, 3])) :: (knowK k7 b2 (tl34_10 n) (KL [9, 3])) :: (knowK k11 b2 (tl34_10 n) (KL [1, 3])) :: (pt b10 3 [iv 1, iv 3]) :: (pt b5 3 [iv 7, iv 8, iv 9, iv 10]) :: (pt b4 33 [iv 5, iv 6, iv 7, iv 8, iv 9, iv 10]) :: F) (fun _ h => st_pull [0, 3] h) ?_
  refine Wl.e (e_call (F := (knowK k7 b2 (tl34_10 n) (KL [9, 3])) :: (knowK k11 b2 (tl34_10 n) (KL [1, 3])) :: (pt b10 3 [iv 1, iv 3]) :: (pt b5 3 [iv 7, iv 8, iv 9, iv 10]) :: (pt b4 33 [iv 5, iv 6, iv 7, iv 8, iv 9, iv 10]) :: F) (args := [pv k9, iv 5]) Tryd.call9 rfl (khas_w W0 k9 b2 (tl34_10 n) (KL [6, 3]) 5 (der_no [0, 6, 3, 7, 8, 9, 10] (by kernel_rfl)))) (fun _ _ => ?_)
  refine Wl.imp (L' := (storeW b2 (tl34_10 n)) :: (knowK k9 b2 (tl34_10 n) (KL [6, 3])) :: (knowK k7 b2 (tl34_10 n) (KL [9, 3])) :: (knowK k11 b2 (tl34_10 n) (KL [1, 3])) :: (pt b10 3 [iv 1, iv 3]) :: (pt b5 3 [iv 7, iv 8, iv 9, iv 10]) :: (pt b4 33 [iv 5, iv 6, iv 7, iv 8, iv 9, iv 10]) :: F) (fun _ h => h) ?_
  refine Wl.q (v := Value.bool false) (q_pick (t := false) rfl rfl) ?_
  refine Wl.q (v := Value.bool false) (q_move rfl) ?_
  refine Wl.q (v := pv k11) (q_move rfl) ?_
  refine Wl.q (v := pv b4) (q_field (m := 0) fo_33_0 rfl rfl) ?_
  refine Wl.q (v := iv 5) (q_load sc_3 rfl (.cel (i := 6) rfl rfl)) ?_
  refine Wl.imp (L' := (storeW b2 (tl34_10 n)) :: (knowK k11 b2 (tl34_10 n) (KL [1, 3])) :: (knowK k9 b2 (tl34_10 n) (KL [6, 3])) :: (knowK k7 b2 (tl34_10 n) (KL [9, 3])) :: (pt b10 3 [iv 1, iv 3]) :: (pt b5 3 [iv 7, iv 8, iv 9, iv 10]) :: (pt b4 33 [iv 5, iv 6, iv 7, iv 8, iv 9, iv 10]) :: F) (fun _ h => st_pull [0, 2] h) ?_
  refine Wl.e (e_call (F := (knowK k9 b2 (tl34_10 n) (KL [6, 3])) :: (knowK k7 b2 (tl34_10 n) (KL [9, 3])) :: (pt b10 3 [iv 1, iv 3]) :: (pt b5 3 [iv 7, iv 8, iv 9, iv 10]) :: (pt b4 33 [iv 5, iv 6, iv 7, iv 8, iv 9, iv 10]) :: F) (args := [pv k11, iv 5]) Tryd.call9 rfl (khas_w W0 k11 b2 (tl34_10 n) (KL [1, 3]) 5 (der_no [0, 1, 3] (by kernel_rfl)))) (fun _ _ => ?_)
  refine Wl.imp (L' := (storeW b2 (tl34_10 n)) :: (knowK k11 b2 (tl34_10 n) (KL [1, 3])) :: (knowK k9 b2 (tl34_10 n) (KL [6, 3])) :: (knowK k7 b2 (tl34_10 n) (KL [9, 3])) :: (pt b10 3 [iv 1, iv 3]) :: (pt b5 3 [iv 7, iv 8, iv 9, iv 10]) :: (pt b4 33 [iv 5, iv 6, iv 7, iv 8, iv 9, iv 10]) :: F) (fun _ h => h) ?_
  refine Wl.q (v := Value.bool false) (q_pick (t := false) rfl rfl) ?_
  refine Wl.q (v := Value.bool false) (q_move rfl) ?_
  refine Wl.q (v := pv k11) (q_move rfl) ?_
  refine Wl.q (v := Value.pointer (some ⟨b4, 1, none⟩)) (q_field (m := 1) fo_33_1 rfl rfl) ?_
  refine Wl.q (v := iv 6) (q_load sc_3 rfl (.cel (i := 6) rfl rfl)) ?_
  refine Wl.e (e_call (F := (knowK k9 b2 (tl34_10 n) (KL [6, 3])) :: (knowK k7 b2 (tl34_10 n) (KL [9, 3])) :: (pt b10 3 [iv 1, iv 3]) :: (pt b5 3 [iv 7, iv 8, iv 9, iv 10]) :: (pt b4 33 [iv 5, iv 6, iv 7, iv 8, iv 9, iv 10]) :: F) (args := [pv k11, iv 6]) Tryd.call9 rfl (khas_w W0 k11 b2 (tl34_10 n) (KL [1, 3]) 6 (der_no [0, 1, 3] (by kernel_rfl)))) (fun _ _ => ?_)
  refine Wl.imp (L' := (storeW b2 (tl34_10 n)) :: (knowK k11 b2 (tl34_10 n) (KL [1, 3])) :: (knowK k9 b2 (tl34_10 n) (KL [6, 3])) :: (knowK k7 b2 (tl34_10 n) (KL [9, 3])) :: (pt b10 3 [iv 1, iv 3]) :: (pt b5 3 [iv 7, iv 8, iv 9, iv 10]) :: (pt b4 33 [iv 5, iv 6, iv 7, iv 8, iv 9, iv 10]) :: F) (fun _ h => h) ?_
  refine Wl.q (v := Value.bool false) (q_pick (t := false) rfl rfl) ?_
  refine Wl.done ?_
  refine Wx.go ?_
  refine Wc.no rfl ?_
  refine Wc.skip ?_
  refine Wx.go ?_
  refine Wc.seq ?_
  refine Wc.seq ?_
  refine Wc.imp (L' := (storeW b2 (tl34_10 n)) :: (knowK k11 b2 (tl34_10 n) (KL [1, 3])) :: (knowK k9 b2 (tl34_10 n) (KL [6, 3])) :: (knowK k7 b2 (tl34_10 n) (KL [9, 3])) :: (pt b5 3 [iv 7, iv 8, iv 9, iv 10]) :: F) (fun w hs => (st_drop (st_drop (st_pull [4, 5] hs)))) ?_
  refine Wc.region ?_
  refine Wl.q (v := iv 0) (q_assign rfl) ?_
  refine Wl.done ?_
  refine Wx.go ?_
  refine Wc.block ?_
  refine Wc.rounds 64 ?_
  refine Wn.round ?_
  refine Wc.seq ?_
  refine Wc.seq ?_
  refine Wc.region ?_
  refine Wl.q (v := iv 0) (q_move rfl) ?_
  refine Wl.q (v := Value.bool true) (q_lss (r := true) rfl rfl (decide_eq_true (by decide))) ?_
  refine Wl.done ?_
  refine Wx.go ?_
  refine Wc.yes rfl ?_
  refine Wc.skip ?_
  refine Wx.go ?_
  refine Wc.seq ?_
  refine Wc.block ?_
  refine Wc.seq ?_
  refine Wc.region ?_
  refine Wl.q (v := pv k7) (q_move rfl) ?_
  refine Wl.q (v := Value.slice (some ⟨b5, 0, none⟩) 4 4) (q_move rfl) ?_
  refine Wl.q (v := iv 0) (q_move rfl) ?_
  refine Wl.q (v := pv b5) (q_idx (m := 0) se_31 rfl rfl (by omega) (by omega) rfl) ?_
  refine Wl.q (v := iv 7) (q_load sc_3 rfl (.cel (i := 4) rfl rfl)) ?_
  refine Wl.imp (L' := (storeW b2 (tl34_10 n)) :: (knowK k7 b2 (tl34_10 n) (KL [9, 3])) :: (knowK k11 b2 (tl34_10 n) (KL [1, 3])) :: (knowK k9 b2 (tl34_10 n) (KL [6, 3])) :: (pt b5 3 [iv 7, iv 8, iv 9, iv 10]) :: F) (fun _ h => st_pull [0, 2] h) ?_
  refine Wl.e (e_call (F := (knowK k11 b2 (tl34_10 n) (KL [1, 3])) :: (knowK k9 b2 (tl34_10 n) (KL [6, 3])) :: (pt b5 3 [iv 7, iv 8, iv 9, iv 10]) :: F) (args := [pv k7, iv 7]) Tryd.call9 rfl (khas_w W0 k7 b2 (tl34_10 n) (KL [9, 3]) 7 (der_no [0, 9, 3] (by kernel_rfl)))) (fun _ _ => ?_)
  refine Wl.imp (L' := (storeW b2 (tl34_10 n)) :: (knowK k7 b2 (tl34_10 n) (KL [9, 3])) :: (knowK k11 b2 (tl34_10 n) (KL [1, 3])) :: (knowK k9 b2 (tl34_10 n) (KL [6, 3])) :: (pt b5 3 [iv 7, iv 8, iv 9, iv 10]) :: F) (fun _ h => h) ?_
  refine Wl.q (v := iv 0) (q_move rfl) ?_
  refine Wl.q (v := iv 2) (q_move rfl) ?_
  refine Wl.q (v := Value.bool false) (q_eql (r := false) rfl rfl (decide_eq_false (by decide))) ?_
  refine Wl.q (v := Value.bool false) (q_neq_bool (r := true) rfl rfl Tryd.underlying4 rfl) ?_
  refine Wl.q (v := Value.bool false) (q_move rfl) ?_
  refine Wl.q (v := pv k9) (q_move rfl) ?_
  refine Wl.q (v := Value.slice (some ⟨b5, 0, none⟩) 4 4) (q_move rfl) ?_
  refine Wl.q (v := iv 0) (q_move rfl) ?_
  refine Wl.q (v := pv b5) (q_idx (m := 0) se_31 rfl rfl (by omega) (by omega) rfl) ?_
  refine Wl.q (v := iv 7) (q_load sc_3 rfl (.cel (i := 4) rfl rfl)) ?_
  refine Wl.imp (L' := (storeW b2 (tl34_10 n)) :: (knowK k9 b2 (tl34_10 n) (KL [6, 3])) :: (knowK k7 b2 (tl34_10 n) (KL [9, 3])) :: (knowK k11 b2 (tl34_10 n) (KL [1, 3])) :: (pt b5 3 [iv 7, iv 8, iv 9, iv 10]) :: F) (fun _ h => st_pull [0, 2] h) ?_
  refine Wl.e (e_call (F := (knowK k7 b2 (tl34_10 n) (KL [9, 3])) :: (knowK k11 b2 (tl34_10 n) (KL [1, 3])) :: (pt b5 3 [iv 7, iv 8, iv 9, iv 10]) :: F) (args := [pv k9, iv 7]) Tryd.call9 rfl (khas_w W0 k9 b2 (tl34_10 n) (KL [6, 3]) 7 (der_yes [6, 3, 7, 8, 9, 10] (by kernel_rfl)))) (fun _ _ => ?_)
  refine Wl.imp (L' := (storeW b2 (tl34_10 n)) :: (knowK k9 b2 (tl34_10 n) (KL [6, 3])) :: (knowK k7 b2 (tl34_10 n) (KL [9, 3])) :: (knowK k11 b2 (tl34_10 n) (KL [1, 3])) :: (pt b5 3 [iv 7, iv 8, iv 9, iv 10]) :: F) (fun _ h => h) ?_
  refine Wl.q (v := Value.bool false) (q_not rfl rfl) ?_
  refine Wl.q (v := Value.bool false) (q_pick (t := false) rfl rfl) ?_
  refine Wl.q (v := Value.bool false) (q_move rfl) ?_
  refine Wl.q (v := pv k11) (q_move rfl) ?_
  refine Wl.q (v := Value.slice (some ⟨b5, 0, none⟩) 4 4) (q_move rfl) ?_
  refine Wl.q (v := iv 0) (q_move rfl) ?_
  refine Wl.q (v := pv b5) (q_idx (m := 0) se_31 rfl rfl (by omega) (by omega) rfl) ?_
  refine Wl.q (v := iv 7) (q_load sc_3 rfl (.cel (i := 4) rfl rfl)) ?_
  refine Wl.imp (L' := (storeW b2 (tl34_10 n)) :: (knowK k11 b2 (tl34_10 n) (KL [1, 3])) :: (knowK k9 b2 (tl34_10 n) (KL [6, 3])) :: (knowK k7 b2 (tl34_10 n) (KL [9, 3])) :: (pt b5 3 [iv 7, iv 8, iv 9, iv 10]) :: F) (fun _ h => st_pull [0, 2] h) ?_
  refine Wl.e (e_call (F := (knowK k9 b2 (tl34_10 n) (KL [6, 3])) :: (knowK k7 b2 (tl34_10 n) (KL [9, 3])) :: (pt b5 3 [iv 7, iv 8, iv 9, iv 10]) :: F) (args := [pv k11, iv 7]) Tryd.call9 rfl (khas_w W0 k11 b2 (tl34_10 n) (KL [1, 3]) 7 (der_no [0, 1, 3] (by kernel_rfl)))) (fun _ _ => ?_)
  refine Wl.imp (L' := (storeW b2 (tl34_10 n)) :: (knowK k11 b2 (tl34_10 n) (KL [1, 3])) :: (knowK k9 b2 (tl34_10 n) (KL [6, 3])) :: (knowK k7 b2 (tl34_10 n) (KL [9, 3])) :: (pt b5 3 [iv 7, iv 8, iv 9, iv 10]) :: F) (fun _ h => h) ?_
  refine Wl.q (v := Value.bool false) (q_pick (t := false) rfl rfl) ?_
  refine Wl.done ?_
  refine Wx.go ?_
  refine Wc.no rfl ?_
  refine Wc.skip ?_
  refine Wx.blockEnd ?_
  refine Wx.go ?_
  refine Wc.region ?_
  refine Wl.q (v := iv 0) (q_move rfl) ?_
  refine Wl.q (v := iv 1) (q_add (c := 1) rfl rfl (by decide)) ?_
  refine Wl.q (v := iv 1) (q_assign rfl) ?_
  refine Wl.done ?_
  refine Wx.again ?_
  refine Wn.round ?_
  refine Wc.seq ?_
  refine Wc.seq ?_
  refine Wc.region ?_
  refine Wl.q (v := iv 1) (q_move rfl) ?_
  refine Wl.q (v := Value.bool true) (q_lss (r := true) rfl rfl (decide_eq_true (by decide))) ?_
  refine Wl.done ?_
  refine Wx.go ?_
  refine Wc.yes rfl ?_
  refine Wc.skip ?_
  refine Wx.go ?_
  refine Wc.seq ?_
  refine Wc.block ?_
  refine Wc.seq ?_
  refine Wc.region ?_
  refine Wl.q (v := pv k7) (q_move rfl) ?_
  refine Wl.q (v := Value.slice (some ⟨b5, 0, none⟩) 4 4) (q_move rfl) ?_
  refine Wl.q (v := iv 1) (q_move rfl) ?_
  refine Wl.q (v := Value.pointer (some ⟨b5, 1, none⟩)) (q_idx (m := 1) se_31 rfl rfl (by omega) (by omega) rfl) ?_
  refine Wl.q (v := iv 8) (q_load sc_3 rfl (.cel (i := 4) rfl rfl)) ?_
  refine Wl.imp (L' := (storeW b2 (tl34_10 n)) :: (knowK k7 b2 (tl34_10 n) (KL [9, 3])) :: (knowK k11 b2 (tl34_10 n) (KL [1, 3])) :: (knowK k9 b2 (tl34_10 n) (KL [6, 3])) :: (pt b5 3 [iv 7, iv 8, iv 9, iv 10]) :: F) (fun _ h => st_pull [0, 2] h) ?_
  refine Wl.e (e_call (F := (knowK k11 b2 (tl34_10 n) (KL [1, 3])) :: (knowK k9 b2 (tl34_10 n) (KL [6, 3])) :: (pt b5 3 [iv 7, iv 8, iv 9, iv 10]) :: F) (args := [pv k7, iv 8]) Tryd.call9 rfl (khas_w W0 k7 b2 (tl34_10 n) (KL [9, 3]) 8 (der_no [0, 9, 3] (by kernel_rfl)))) (fun _ _ => ?_)
  refine Wl.imp (L' := (storeW b2 (tl34_10 n)) :: (knowK k7 b2 (tl34_10 n) (KL [9, 3])) :: (knowK k11 b2 (tl34_10 n) (KL [1, 3])) :: (knowK k9 b2 (tl34_10 n) (KL [6, 3])) :: (pt b5 3 [iv 7, iv 8, iv 9, iv 10]) :: F) (fun _ h => h) ?_
  refine Wl.q (v := iv 1) (q_move rfl) ?_
  refine Wl.q (v := iv 2) (q_move rfl) ?_
  refine Wl.q (v := Value.bool false) (q_eql (r := false) rfl rfl (decide_eq_false (by decide))) ?_
  refine Wl.q (v := Value.bool false) (q_neq_bool (r := true) rfl rfl Tryd.underlying4 rfl) ?_
  refine Wl.q (v := Value.bool false) (q_move rfl) ?_
  refine Wl.q (v := pv k9) (q_move rfl) ?_
  refine Wl.q (v := Value.slice (some ⟨b5, 0, none⟩) 4 4) (q_move rfl) ?_
  refine Wl.q (v := iv 1) (q_move rfl) ?_
  refine Wl.q (v := Value.pointer (some ⟨b5, 1, none⟩)) (q_idx (m := 1) se_31 rfl rfl (by omega) (by omega) rfl) ?_
  refine Wl.q (v := iv 8) (q_load sc_3 rfl (.cel (i := 4) rfl rfl)) ?_
  refine Wl.imp (L' := (storeW b2 (tl34_10 n)) :: (knowK k9 b2 (tl34_10 n) (KL [6, 3])) :: (knowK k7 b2 (tl34_10 n) (KL [9, 3])) :: (knowK k11 b2 (tl34_10 n) (KL [1, 3])) :: (pt b5 3 [iv 7, iv 8, iv 9, iv 10]) :: F) (fun _ h => st_pull [0, 2] h) ?_
  refine Wl.e (e_call (F := (knowK k7 b2 (tl34_10 n) (KL [9, 3])) :: (knowK k11 b2 (tl34_10 n) (KL [1, 3])) :: (pt b5 3 [iv 7, iv 8, iv 9, iv 10]) :: F) (args := [pv k9, iv 8]) Tryd.call9 rfl (khas_w W0 k9 b2 (tl34_10 n) (KL [6, 3]) 8 (der_yes [6, 3, 7, 8, 9, 10] (by kernel_rfl)))) (fun _ _ => ?_)
  refine Wl.imp (L' := (storeW b2 (tl34_10 n)) :: (knowK k9 b2 (tl34_10 n) (KL [6, 3])) :: (knowK k7 b2 (tl34_10 n) (KL [9, 3])) :: (knowK k11 b2 (tl34_10 n) (KL [1, 3])) :: (pt b5 3 [iv 7, iv 8, iv 9, iv 10]) :: F) (fun _ h => h) ?_
  refine Wl.q (v := Value.bool false) (q_not rfl rfl) ?_
  refine Wl.q (v := Value.bool false) (q_pick (t := false) rfl rfl) ?_
  refine Wl.q (v := Value.bool false) (q_move rfl) ?_
  refine Wl.q (v := pv k11) (q_move rfl) ?_
  refine Wl.q (v := Value.slice (some ⟨b5, 0, none⟩) 4 4) (q_move rfl) ?_
  refine Wl.q (v := iv 1) (q_move rfl) ?_
  refine Wl.q (v := Value.pointer (some ⟨b5, 1, none⟩)) (q_idx (m := 1) se_31 rfl rfl (by omega) (by omega) rfl) ?_
  refine Wl.q (v := iv 8) (q_load sc_3 rfl (.cel (i := 4) rfl rfl)) ?_
  refine Wl.imp (L' := (storeW b2 (tl34_10 n)) :: (knowK k11 b2 (tl34_10 n) (KL [1, 3])) :: (knowK k9 b2 (tl34_10 n) (KL [6, 3])) :: (knowK k7 b2 (tl34_10 n) (KL [9, 3])) :: (pt b5 3 [iv 7, iv 8, iv 9, iv 10]) :: F) (fun _ h => st_pull [0, 2] h) ?_
  refine Wl.e (e_call (F := (knowK k9 b2 (tl34_10 n) (KL [6, 3])) :: (knowK k7 b2 (tl34_10 n) (KL [9, 3])) :: (pt b5 3 [iv 7, iv 8, iv 9, iv 10]) :: F) (args := [pv k11, iv 8]) Tryd.call9 rfl (khas_w W0 k11 b2 (tl34_10 n) (KL [1, 3]) 8 (der_no [0, 1, 3] (by kernel_rfl)))) (fun _ _ => ?_)
  refine Wl.imp (L' := (storeW b2 (tl34_10 n)) :: (knowK k11 b2 (tl34_10 n) (KL [1, 3])) :: (knowK k9 b2 (tl34_10 n) (KL [6, 3])) :: (knowK k7 b2 (tl34_10 n) (KL [9, 3])) :: (pt b5 3 [iv 7, iv 8, iv 9, iv 10]) :: F) (fun _ h => h) ?_
  refine Wl.q (v := Value.bool false) (q_pick (t := false) rfl rfl) ?_
  refine Wl.done ?_
  refine Wx.go ?_
  refine Wc.no rfl ?_
  refine Wc.skip ?_
  refine Wx.blockEnd ?_
  refine Wx.go ?_
  refine Wc.region ?_
  refine Wl.q (v := iv 1) (q_move rfl) ?_
  refine Wl.q (v := iv 2) (q_add (c := 2) rfl rfl (by decide)) ?_
  refine Wl.q (v := iv 2) (q_assign rfl) ?_
  refine Wl.done ?_
  refine Wx.again ?_
  refine Wn.round ?_
  refine Wc.seq ?_
  refine Wc.seq ?_
  refine Wc.region ?_
  refine Wl.q (v := iv 2) (q_move rfl) ?_
  refine Wl.q (v := Value.bool true) (q_lss (r := true) rfl rfl (decide_eq_true (by decide))) ?_
  refine Wl.done ?_
  refine Wx.go ?_
  refine Wc.yes rfl ?_
  refine Wc.skip ?_
  refine Wx.go ?_
  refine Wc.seq ?_
  refine Wc.block ?_
  refine Wc.seq ?_
  refine Wc.region ?_
  refine Wl.q (v := pv k7) (q_move rfl) ?_
  refine Wl.q (v := Value.slice (some ⟨b5, 0, none⟩) 4 4) (q_move rfl) ?_
  refine Wl.q (v := iv 2) (q_move rfl) ?_
  refine Wl.q (v := Value.pointer (some ⟨b5, 2, none⟩)) (q_idx (m := 2) se_31 rfl rfl (by omega) (by omega) rfl) ?_
  refine Wl.q (v := iv 9) (q_load sc_3 rfl (.cel (i := 4) rfl rfl)) ?_
  refine Wl.imp (L' := (storeW b2 (tl34_10 n)) :: (knowK k7 b2 (tl34_10 n) (KL [9, 3])) :: (knowK k11 b2 (tl34_10 n) (KL [1, 3])) :: (knowK k9 b2 (tl34_10 n) (KL [6, 3])) :: (pt b5 3 [iv 7, iv 8, iv 9, iv 10]) :: F) (fun _ h => st_pull [0, 2] h) ?_
  refine Wl.e (e_call (F := (knowK k11 b2 (tl34_10 n) (KL [1, 3])) :: (knowK k9 b2 (tl34_10 n) (KL [6, 3])) :: (pt b5 3 [iv 7, iv 8, iv 9, iv 10]) :: F) (args := [pv k7, iv 9]) Tryd.call9 rfl (khas_w W0 k7 b2 (tl34_10 n) (KL [9, 3]) 9 (der_yes [9, 3] (by kernel_rfl)))) (fun _ _ => ?_)
  refine Wl.imp (L' := (storeW b2 (tl34_10 n)) :: (knowK k7 b2 (tl34_10 n) (KL [9, 3])) :: (knowK k11 b2 (tl34_10 n) (KL [1, 3])) :: (knowK k9 b2 (tl34_10 n) (KL [6, 3])) :: (pt b5 3 [iv 7, iv 8, iv 9, iv 10]) :: F) (fun _ h => h) ?_
  refine Wl.q (v := iv 2) (q_move rfl) ?_
  refine Wl.q (v := iv 2) (q_move rfl) ?_
  refine Wl.q (v := Value.bool true) (q_eql (r := true) rfl rfl (decide_eq_true (by decide))) ?_
  refine Wl.q (v := Value.bool false) (q_neq_bool (r := true) rfl rfl Tryd.underlying4 rfl) ?_
  refine Wl.q (v := Value.bool false) (q_move rfl) ?_
  refine Wl.q (v := pv k9) (q_move rfl) ?_
  refine Wl.q (v := Value.slice (some ⟨b5, 0, none⟩) 4 4) (q_move rfl) ?_
  refine Wl.q (v := iv 2) (q_move rfl) ?_
  refine Wl.q (v := Value.pointer (some ⟨b5, 2, none⟩)) (q_idx (m := 2) se_31 rfl rfl (by omega) (by omega) rfl) ?_
  refine Wl.q (v := iv 9) (q_load sc_3 rfl (.cel (i := 4) rfl rfl)) ?_
  refine Wl.imp (L' := (storeW b2 (tl34_10 n)) :: (knowK k9 b2 (tl34_10 n) (KL [6, 3])) :: (knowK k7 b2 (tl34_10 n) (KL [9, 3])) :: (knowK k11 b2 (tl34_10 n) (KL [1, 3])) :: (pt b5 3 [iv 7, iv 8, iv 9, iv 10]) :: F) (fun _ h => st_pull [0, 2] h) ?_
  refine Wl.e (e_call (F := (knowK k7 b2 (tl34_10 n) (KL [9, 3])) :: (knowK k11 b2 (tl34_10 n) (KL [1, 3])) :: (pt b5 3 [iv 7, iv 8, iv 9, iv 10]) :: F) (args := [pv k9, iv 9]) Tryd.call9 rfl (khas_w W0 k9 b2 (tl34_10 n) (KL [6, 3]) 9 (der_yes [6, 3, 7, 8, 9, 10] (by kernel_rfl)))) (fun _ _ => ?_)
  refine Wl.imp (L' := (storeW b2 (tl34_10 n)) :: (knowK k9 b2 (tl34_10 n) (KL [6, 3])) :: (knowK k7 b2 (tl34_10 n) (KL [9, 3])) :: (knowK k11 b2 (tl34_10 n) (KL [1, 3])) :: (pt b5 3 [iv 7, iv 8, iv 9, iv 10]) :: F) (fun _ h => h) ?_
  refine Wl.q (v := Value.bool false) (q_not rfl rfl) ?_
  refine Wl.q (v := Value.bool false) (q_pick (t := false) rfl rfl) ?_
  refine Wl.q (v := Value.bool false) (q_move rfl) ?_
  refine Wl.q (v := pv k11) (q_move rfl) ?_
  refine Wl.q (v := Value.slice (some ⟨b5, 0, none⟩) 4 4) (q_move rfl) ?_
  refine Wl.q (v := iv 2) (q_move rfl) ?_
  refine Wl.q (v := Value.pointer (some ⟨b5, 2, none⟩)) (q_idx (m := 2) se_31 rfl rfl (by omega) (by omega) rfl) ?_
  refine Wl.q (v := iv 9) (q_load sc_3 rfl (.cel (i := 4) rfl rfl)) ?_
  refine Wl.imp (L' := (storeW b2 (tl34_10 n)) :: (knowK k11 b2 (tl34_10 n) (KL [1, 3])) :: (knowK k9 b2 (tl34_10 n) (KL [6, 3])) :: (knowK k7 b2 (tl34_10 n) (KL [9, 3])) :: (pt b5 3 [iv 7, iv 8, iv 9, iv 10]) :: F) (fun _ h => st_pull [0, 2] h) ?_
  refine Wl.e (e_call (F := (knowK k9 b2 (tl34_10 n) (KL [6, 3])) :: (knowK k7 b2 (tl34_10 n) (KL [9, 3])) :: (pt b5 3 [iv 7, iv 8, iv 9, iv 10]) :: F) (args := [pv k11, iv 9]) Tryd.call9 rfl (khas_w W0 k11 b2 (tl34_10 n) (KL [1, 3]) 9 (der_no [0, 1, 3] (by kernel_rfl)))) (fun _ _ => ?_)
  refine Wl.imp (L' := (storeW b2 (tl34_10 n)) :: (knowK k11 b2 (tl34_10 n) (KL [1, 3])) :: (knowK k9 b2 (tl34_10 n) (KL [6, 3])) :: (knowK k7 b2 (tl34_10 n) (KL [9, 3])) :: (pt b5 3 [iv 7, iv 8, iv 9, iv 10]) :: F) (fun _ h => h) ?_
  refine Wl.q (v := Value.bool false) (q_pick (t := false) rfl rfl) ?_
  refine Wl.done ?_
  refine Wx.go ?_
  refine Wc.no rfl ?_
  refine Wc.skip ?_
  refine Wx.blockEnd ?_
  refine Wx.go ?_
  refine Wc.region ?_
  refine Wl.q (v := iv 2) (q_move rfl) ?_
  refine Wl.q (v := iv 3) (q_add (c := 3) rfl rfl (by decide)) ?_
  refine Wl.q (v := iv 3) (q_assign rfl) ?_
  refine Wl.done ?_
  refine Wx.again ?_
  refine Wn.round ?_
  refine Wc.seq ?_
  refine Wc.seq ?_
  refine Wc.region ?_
  refine Wl.q (v := iv 3) (q_move rfl) ?_
  refine Wl.q (v := Value.bool true) (q_lss (r := true) rfl rfl (decide_eq_true (by decide))) ?_
  refine Wl.done ?_
  refine Wx.go ?_
  refine Wc.yes rfl ?_
  refine Wc.skip ?_
  refine Wx.go ?_
  refine Wc.seq ?_
  refine Wc.block ?_
  refine Wc.seq ?_
  refine Wc.region ?_
  refine Wl.q (v := pv k7) (q_move rfl) ?_
  refine Wl.q (v := Value.slice (some ⟨b5, 0, none⟩) 4 4) (q_move rfl) ?_
  refine Wl.q (v := iv 3) (q_move rfl) ?_
  refine Wl.q (v := Value.pointer (some ⟨b5, 3, none⟩)) (q_idx (m := 3) se_31 rfl rfl (by omega) (by omega) rfl) ?_
  refine Wl.q (v := iv 10) (q_load sc_3 rfl (.cel (i := 4) rfl rfl)) ?_
  refine Wl.imp (L' := (storeW b2 (tl34_10 n)) :: (knowK k7 b2 (tl34_10 n) (KL [9, 3])) :: (knowK k11 b2 (tl34_10 n) (KL [1, 3])) :: (knowK k9 b2 (tl34_10 n) (KL [6, 3])) :: (pt b5 3 [iv 7, iv 8, iv 9, iv 10]) :: F) (fun _ h => st_pull [0, 2] h) ?_
  refine Wl.e (e_call (F := (knowK k11 b2 (tl34_10 n) (KL [1, 3])) :: (knowK k9 b2 (tl34_10 n) (KL [6, 3])) :: (pt b5 3 [iv 7, iv 8, iv 9, iv 10]) :: F) (args := [pv k7, iv 10]) Tryd.call9 rfl (khas_w W0 k7 b2 (tl34_10 n) (KL [9, 3]) 10 (der_no [0, 9, 3] (by kernel_rfl)))) (fun _ _ => ?_)
  refine Wl.imp (L' := (storeW b2 (tl34_10 n)) :: (knowK k7 b2 (tl34_10 n) (KL [9, 3])) :: (knowK k11 b2 (tl34_10 n) (KL [1, 3])) :: (knowK k9 b2 (tl34_10 n) (KL [6, 3])) :: (pt b5 3 [iv 7, iv 8, iv 9, iv 10]) :: F) (fun _ h => h) ?_
  refine Wl.q (v := iv 3) (q_move rfl) ?_
  refine Wl.q (v := iv 2) (q_move rfl) ?_
  refine Wl.q (v := Value.bool false) (q_eql (r := false) rfl rfl (decide_eq_false (by decide))) ?_
  refine Wl.q (v := Value.bool false) (q_neq_bool (r := true) rfl rfl Tryd.underlying4 rfl) ?_
  refine Wl.q (v := Value.bool false) (q_move rfl) ?_
  refine Wl.q (v := pv k9) (q_move rfl) ?_
  refine Wl.q (v := Value.slice (some ⟨b5, 0, none⟩) 4 4) (q_move rfl) ?_
  refine Wl.q (v := iv 3) (q_move rfl) ?_
  refine Wl.q (v := Value.pointer (some ⟨b5, 3, none⟩)) (q_idx (m := 3) se_31 rfl rfl (by omega) (by omega) rfl) ?_
  refine Wl.q (v := iv 10) (q_load sc_3 rfl (.cel (i := 4) rfl rfl)) ?_
  refine Wl.imp (L' := (storeW b2 (tl34_10 n)) :: (knowK k9 b2 (tl34_10 n) (KL [6, 3])) :: (knowK k7 b2 (tl34_10 n) (KL [9, 3])) :: (knowK k11 b2 (tl34_10 n) (KL [1, 3])) :: (pt b5 3 [iv 7, iv 8, iv 9, iv 10]) :: F) (fun _ h => st_pull [0, 2] h) ?_
  refine Wl.e (e_call (F := (knowK k7 b2 (tl34_10 n) (KL [9, 3])) :: (knowK k11 b2 (tl34_10 n) (KL [1, 3])) :: (pt b5 3 [iv 7, iv 8, iv 9, iv 10]) :: F) (args := [pv k9, iv 10]) Tryd.call9 rfl (khas_w W0 k9 b2 (tl34_10 n) (KL [6, 3]) 10 (der_yes [6, 3, 7, 8, 9, 10] (by kernel_rfl)))) (fun _ _ => ?_)
  refine Wl.imp (L' := (storeW b2 (tl34_10 n)) :: (knowK k9 b2 (tl34_10 n) (KL [6, 3])) :: (knowK k7 b2 (tl34_10 n) (KL [9, 3])) :: (knowK k11 b2 (tl34_10 n) (KL [1, 3])) :: (pt b5 3 [iv 7, iv 8, iv 9, iv 10]) :: F) (fun _ h => h) ?_
  refine Wl.q (v := Value.bool false) (q_not rfl rfl) ?_
  refine Wl.q (v := Value.bool false) (q_pick (t := false) rfl rfl) ?_
  refine Wl.q (v := Value.bool false) (q_move rfl) ?_
  refine Wl.q (v := pv k11) (q_move rfl) ?_
  refine Wl.q (v := Value.slice (some ⟨b5, 0, none⟩) 4 4) (q_move rfl) ?_
  refine Wl.q (v := iv 3) (q_move rfl) ?_
  refine Wl.q (v := Value.pointer (some ⟨b5, 3, none⟩)) (q_idx (m := 3) se_31 rfl rfl (by omega) (by omega) rfl) ?_
  refine Wl.q (v := iv 10) (q_load sc_3 rfl (.cel (i := 4) rfl rfl)) ?_
  refine Wl.imp (L' := (storeW b2 (tl34_10 n)) :: (knowK k11 b2 (tl34_10 n) (KL [1, 3])) :: (knowK k9 b2 (tl34_10 n) (KL [6, 3])) :: (knowK k7 b2 (tl34_10 n) (KL [9, 3])) :: (pt b5 3 [iv 7, iv 8, iv 9, iv 10]) :: F) (fun _ h => st_pull [0, 2] h) ?_
  refine Wl.e (e_call (F := (knowK k9 b2 (tl34_10 n) (KL [6, 3])) :: (knowK k7 b2 (tl34_10 n) (KL [9, 3])) :: (pt b5 3 [iv 7, iv 8, iv 9, iv 10]) :: F) (args := [pv k11, iv 10]) Tryd.call9 rfl (khas_w W0 k11 b2 (tl34_10 n) (KL [1, 3]) 10 (der_no [0, 1, 3] (by kernel_rfl)))) (fun _ _ => ?_)
  refine Wl.imp (L' := (storeW b2 (tl34_10 n)) :: (knowK k11 b2 (tl34_10 n) (KL [1, 3])) :: (knowK k9 b2 (tl34_10 n) (KL [6, 3])) :: (knowK k7 b2 (tl34_10 n) (KL [9, 3])) :: (pt b5 3 [iv 7, iv 8, iv 9, iv 10]) :: F) (fun _ h => h) ?_
  refine Wl.q (v := Value.bool false) (q_pick (t := false) rfl rfl) ?_
  refine Wl.done ?_
  refine Wx.go ?_
  refine Wc.no rfl ?_
  refine Wc.skip ?_
  refine Wx.blockEnd ?_
  refine Wx.go ?_
  refine Wc.region ?_
  refine Wl.q (v := iv 3) (q_move rfl) ?_
  refine Wl.q (v := iv 4) (q_add (c := 4) rfl rfl (by decide)) ?_
  refine Wl.q (v := iv 4) (q_assign rfl) ?_
  refine Wl.done ?_
  refine Wx.again ?_
  refine Wn.round ?_
  refine Wc.seq ?_
  refine Wc.seq ?_
  refine Wc.region ?_
  refine Wl.q (v := iv 4) (q_move rfl) ?_
  refine Wl.q (v := Value.bool false) (q_lss (r := false) rfl rfl (decide_eq_false (by decide))) ?_
  refine Wl.done ?_
  refine Wx.go ?_
  refine Wc.no rfl ?_
  refine Wc.exit ?_
  refine Wx.thenExit ?_
  refine Wx.thenExit ?_
  refine Wx.out ?_
  refine Wx.go ?_
  refine Wc.seq ?_
  refine Wc.imp (L' := F) (fun w hs => (st_drop (st_drop (st_drop (st_drop (st_drop (st_pull [0, 0, 0, 0, 0] hs))))))) ?_
  refine Wc.region ?_
  refine Wl.e (e_call (F := F) (args := []) Tryd.call7 rfl (au1_lives W0)) (fun _ _ => ?_)
  refine Wl.imp (L' := F) (fun _ h => h) ?_
  refine Wl.q (v := Value.bool true) (q_assign rfl) ?_
  refine Wl.done ?_
  refine Wx.go ?_
  refine Wc.ret ?_
  refine Wx.fin1 rfl (.inl rfl) (fun w hs => ?_)
  have hs : st W0 w (F) := hs
  exact ⟨(), trivial, rfl, hs⟩

set_option maxRecDepth 8000 in
set_option maxHeartbeats 4000000 in
theorem ap29_SchedApart (W0 : World) (n : Int) (hn : 0 ≤ n ∧ n ≤ 1152921504606846976)  :
    Con Tryd.prog W0 4 #[iv n, iv 3] [] (X := Unit) (fun _ => True) (fun _ => Value.bool true) (fun _ => []) := by
  refine Con.of (args := [iv n, iv 3]) Tryd.func4 rfl Tryd.ntmps4 rfl (fun F => ?_)
  show Wc _ W0 _ _ _ _ _ (F)
  refine Wc.seq ?_
  refine Wc.region ?_
  refine Wl.q (v := Value.bool false) (q_assign rfl) ?_
  refine Wl.done ?_
  refine Wx.go ?_
  refine Wc.seq ?_
  refine Wc.seq ?_
  refine Wc.region ?_
  refine Wl.q (v := iv n) (q_move rfl) ?_
  refine Wl.q (v := Value.bool false) (q_lss (r := false) rfl rfl (decide_eq_false (by omega))) ?_
  refine Wl.q (v := Value.bool false) (q_move rfl) ?_
  refine Wl.q (v := iv n) (q_move rfl) ?_
  refine Wl.q (v := Value.bool false) (q_gtr (r := false) rfl rfl (decide_eq_false (by omega))) ?_
  refine Wl.q (v := Value.bool false) (q_pick (t := false) rfl rfl) ?_
  refine Wl.q (v := Value.bool false) (q_move rfl) ?_
  refine Wl.q (v := iv 3) (q_move rfl) ?_
  refine Wl.q (v := Value.bool false) (q_lss (r := false) rfl rfl (decide_eq_false (by decide))) ?_
  refine Wl.q (v := Value.bool false) (q_pick (t := false) rfl rfl) ?_
  refine Wl.q (v := Value.bool false) (q_move rfl) ?_
  refine Wl.q (v := iv 3) (q_move rfl) ?_
  refine Wl.q (v := Value.bool false) (q_gtr (r := false) rfl rfl (decide_eq_false (by decide))) ?_
  refine Wl.q (v := Value.bool false) (q_pick (t := false) rfl rfl) ?_
  refine Wl.done ?_
  refine Wx.go ?_
  refine Wc.no rfl ?_
  refine Wc.skip ?_
  refine Wx.go ?_
  refine Wc.seq ?_
  refine Wc.region ?_
  refine Wl.q (v := iv n) (q_move rfl) ?_
  refine Wl.q (v := Value.agg #[Value.int .u8 1, iv n, iv 0, iv 0]) (q_build (pl := [(0, 1), (1, 1), (2, 1), (3, 1)]) Tryd.underlying29 zo_29 (by kernel_rfl) (by kernel_rfl)) ?_
  refine Wl.q (v := iv n) (q_move rfl) ?_
  refine Wl.q (v := iv (n + 1)) (q_add (c := (n + 1)) rfl rfl (wrap_i64 (by omega) (by omega))) ?_
  refine Wl.q (v := Value.agg #[Value.int .u8 1, iv (n + 1), iv 0, iv 0]) (q_build (pl := [(0, 1), (1, 1), (2, 1), (3, 1)]) Tryd.underlying29 zo_29 (by kernel_rfl) (by kernel_rfl)) ?_
  refine Wl.q (v := iv n) (q_move rfl) ?_
  refine Wl.q (v := iv (n + 2)) (q_add (c := (n + 2)) rfl rfl (wrap_i64 (by omega) (by omega))) ?_
  refine Wl.q (v := Value.agg #[Value.int .u8 1, iv (n + 2), iv 0, iv 0]) (q_build (pl := [(0, 1), (1, 1), (2, 1), (3, 1)]) Tryd.underlying29 zo_29 (by kernel_rfl) (by kernel_rfl)) ?_
  refine Wl.e (e_buildSlice (cs := [Value.int .u8 1, iv n, iv 0, iv 0, Value.int .u8 1, iv (n + 1), iv 0, iv 0, Value.int .u8 1, iv (n + 2), iv 0, iv 0]) se_30 zo_29 (by decide) (by decide) (by kernel_rfl)) (fun b1 _ => ?_)
  refine Wl.e (e_call (F := F) (args := [Value.slice (some ⟨b1, 0, none⟩) 3 3]) Tryd.call5 rfl (ap2_Build W0 n hn b1)) (fun ⟨b2, b3⟩ _ => ?_)
  refine Wl.imp (L' := (pt b1 29 [Value.int .u8 1, iv n, iv 0, iv 0, Value.int .u8 1, iv (n + 1), iv 0, iv 0, Value.int .u8 1, iv (n + 2), iv 0, iv 0]) :: (storeW b2 (tl27_3 n)) :: (refW b3 (tl27_3 n)) :: F) (fun _ h => h) ?_
  refine Wl.q (v := Value.tuple #[pv b2, pv b3, Value.bool true]) (q_move rfl) ?_
  refine Wl.q (v := pv b2) (q_extract (i := 0) rfl rfl) ?_
  refine Wl.q (v := pv b3) (q_extract (i := 1) rfl rfl) ?_
  refine Wl.q (v := Value.bool true) (q_extract (i := 2) rfl rfl) ?_
  refine Wl.q (v := pv b2) (q_assign rfl) ?_
  refine Wl.q (v := pv b3) (q_assign rfl) ?_
  refine Wl.q (v := Value.bool true) (q_assign rfl) ?_
  refine Wl.done ?_
  refine Wx.go ?_
  refine Wc.seq ?_
  refine Wc.imp (L' := (storeW b2 (tl27_3 n)) :: F) (fun w hs => (st_drop (st_drop (st_pull [0, 1] hs)))) ?_
  refine Wc.region ?_
  refine Wl.q (v := pv b2) (q_move rfl) ?_
  refine Wl.e (e_call (F := F) (args := [pv b2, iv 1, iv 2, iv 3]) Tryd.call6 rfl (ap3_Next W0 n hn b2)) (fun _ _ => ?_)
  refine Wl.imp (L' := (storeW b2 (tl34_10 n)) :: F) (fun _ h => h) ?_
  refine Wl.q (v := Value.tuple #[Value.agg #[iv 5, iv 6, iv 7, iv 8, iv 9, iv 10], iv 0]) (q_move rfl) ?_
  refine Wl.q (v := Value.agg #[iv 5, iv 6, iv 7, iv 8, iv 9, iv 10]) (q_extract (i := 0) rfl rfl) ?_
  refine Wl.q (v := iv 0) (q_extract (i := 1) rfl rfl) ?_
  refine Wl.e (e_alloc (vs := [iv 0, iv 0, iv 0, iv 0, iv 0, iv 0]) zo_33 rfl) (fun b4 _ => ?_)
  refine Wl.e (e_storeAgg (i := 0) (vs := [iv 5, iv 6, iv 7, iv 8, iv 9, iv 10]) (c' := [iv 5, iv 6, iv 7, iv 8, iv 9, iv 10]) sz_33 rfl rfl rfl rfl (by simp) rfl) (fun _ _ => ?_)
  refine Wl.imp (L' := (pt b4 33 [iv 5, iv 6, iv 7, iv 8, iv 9, iv 10]) :: (storeW b2 (tl34_10 n)) :: F) (fun _ h => h) ?_
  refine Wl.q (v := iv 0) (q_assign rfl) ?_
  refine Wl.done ?_
  refine Wx.go ?_
  refine Wc.seq ?_
  refine Wc.seq ?_
  refine Wc.region ?_
  refine Wl.q (v := Value.bool true) (q_move rfl) ?_
  refine Wl.q (v := Value.bool false) (q_not rfl rfl) ?_
  refine Wl.q (v := Value.bool false) (q_move rfl) ?_
  refine Wl.q (v := iv 0) (q_move rfl) ?_
  refine Wl.q (v := Value.bool false) (q_neq (r := true) rfl rfl (decide_eq_true (by decide))) ?_
  refine Wl.q (v := Value.bool false) (q_pick (t := false) rfl rfl) ?_
  refine Wl.done ?_
  refine Wx.go ?_
  refine Wc.no rfl ?_
  refine Wc.skip ?_
  refine Wx.go ?_
  refine Wc.seq ?_
  refine Wc.region ?_
  refine Wl.q (v := Value.pointer (some ⟨b4, 2, none⟩)) (q_field (m := 2) fo_33_2 rfl rfl) ?_
  refine Wl.q (v := iv 7) (q_load sc_3 rfl (.cel (i := 0) rfl rfl)) ?_
  refine Wl.q (v := Value.pointer (some ⟨b4, 3, none⟩)) (q_field (m := 3) fo_33_3 rfl rfl) ?_
  refine Wl.q (v := iv 8) (q_load sc_3 rfl (.cel (i := 0) rfl rfl)) ?_
  refine Wl.q (v := Value.pointer (some ⟨b4, 4, none⟩)) (q_field (m := 4) fo_33_4 rfl rfl) ?_
  refine Wl.q (v := iv 9) (q_load sc_3 rfl (.cel (i := 0) rfl rfl)) ?_
  refine Wl.q (v := Value.pointer (some ⟨b4, 5, none⟩)) (q_field (m := 5) fo_33_5 rfl rfl) ?_
  refine Wl.q (v := iv 10) (q_load sc_3 rfl (.cel (i := 0) rfl rfl)) ?_
  refine Wl.e (e_buildSlice (cs := [iv 7, iv 8, iv 9, iv 10]) se_31 zo_3 (by decide) (by decide) (by kernel_rfl)) (fun b5 _ => ?_)
  refine Wl.q (v := Value.slice (some ⟨b5, 0, none⟩) 4 4) (q_assign rfl) ?_
  refine Wl.done ?_
  refine Wx.go ?_
  refine Wc.seq ?_
  refine Wc.region ?_
  refine Wl.q (v := pv b2) (q_move rfl) ?_
  refine Wl.q (v := Value.slice (some ⟨b5, 0, none⟩) 4 4) (q_move rfl) ?_
  refine Wl.q (v := iv 3) (q_move rfl) ?_
  refine Wl.q (v := Value.pointer (some ⟨b5, 3, none⟩)) (q_idx (m := 3) se_31 rfl rfl (by omega) (by omega) rfl) ?_
  refine Wl.q (v := iv 10) (q_load sc_3 rfl (.cel (i := 0) rfl rfl)) ?_
  refine Wl.e (e_buildSlice (cs := [iv 10, iv 3]) se_31 zo_3 (by decide) (by decide) (by kernel_rfl)) (fun b6 _ => ?_)
  refine Wl.imp (L' := (storeW b2 (tl34_10 n)) :: (pt b6 3 [iv 10, iv 3]) :: (pt b5 3 [iv 7, iv 8, iv 9, iv 10]) :: (pt b4 33 [iv 5, iv 6, iv 7, iv 8, iv 9, iv 10]) :: F) (fun _ h => st_pull [3, 0] h) ?_
  refine Wl.e (e_call (F := (pt b5 3 [iv 7, iv 8, iv 9, iv 10]) :: (pt b4 33 [iv 5, iv 6, iv 7, iv 8, iv 9, iv 10]) :: F) (args := [pv b2, Value.slice (some ⟨b6, 0, none⟩) 2 2]) Tryd.call8 rfl (dnew_w W0 b2 (tl34_10 n) b6 2 [10, 3] 2 [iv 10, iv 3] rfl rfl (by kernel_rfl))) (fun k7 _ => ?_)
  refine Wl.imp (L' := (knowK k7 b2 (tl34_10 n) (KL [10, 3])) :: (storeW b2 (tl34_10 n)) :: (pt b6 3 [iv 10, iv 3]) :: (pt b5 3 [iv 7, iv 8, iv 9, iv 10]) :: (pt b4 33 [iv 5, iv 6, iv 7, iv 8, iv 9, iv 10]) :: F) (fun _ h => h) ?_
  refine Wl.q (v := Value.tuple #[pv k7, iv 0]) (q_move rfl) ?_
  refine Wl.q (v := pv k7) (q_extract (i := 0) rfl rfl) ?_
  refine Wl.q (v := iv 0) (q_extract (i := 1) rfl rfl) ?_
  refine Wl.q (v := pv k7) (q_assign rfl) ?_
  refine Wl.q (v := iv 0) (q_assign rfl) ?_
  refine Wl.done ?_
  refine Wx.go ?_
  refine Wc.seq ?_
  refine Wc.region ?_
  refine Wl.q (v := pv b2) (q_move rfl) ?_
  refine Wl.q (v := Value.pointer (some ⟨b4, 1, none⟩)) (q_field (m := 1) fo_33_1 rfl rfl) ?_
  refine Wl.q (v := iv 6) (q_load sc_3 rfl (.cel (i := 4) rfl rfl)) ?_
  refine Wl.e (e_buildSlice (cs := [iv 6, iv 3]) se_31 zo_3 (by decide) (by decide) (by kernel_rfl)) (fun b8 _ => ?_)
  refine Wl.imp (L' := (storeW b2 (tl34_10 n)) :: (pt b8 3 [iv 6, iv 3]) :: (knowK k7 b2 (tl34_10 n) (KL [10, 3])) :: (pt b6 3 [iv 10, iv 3]) :: (pt b5 3 [iv 7, iv 8, iv 9, iv 10]) :: (pt b4 33 [iv 5, iv 6, iv 7, iv 8, iv 9, iv 10]) :: F) (fun _ h => st_pull [2, 0] h) ?_
  refine Wl.e (e_call (F := (knowK k7 b2 (tl34_10 n) (KL [10, 3])) :: (pt b6 3 [iv 10, iv 3]) :: (pt b5 3 [iv 7, iv 8, iv 9, iv 10]) :: (pt b4 33 [iv 5, iv 6, iv 7, iv 8, iv 9, iv 10]) :: F) (args := [pv b2, Value.slice (some ⟨b8, 0, none⟩) 2 2]) Tryd.call8 rfl (dnew_w W0 b2 (tl34_10 n) b8 2 [6, 3] 2 [iv 6, iv 3] rfl rfl (by kernel_rfl))) (fun k9 _ => ?_)
  refine Wl.imp (L' := (knowK k9 b2 (tl34_10 n) (KL [6, 3])) :: (storeW b2 (tl34_10 n)) :: (pt b8 3 [iv 6, iv 3]) :: (knowK k7 b2 (tl34_10 n) (KL [10, 3])) :: (pt b6 3 [iv 10, iv 3]) :: (pt b5 3 [iv 7, iv 8, iv 9, iv 10]) :: (pt b4 33 [iv 5, iv 6, iv 7, iv 8, iv 9, iv 10]) :: F) (fun _ h => h) ?_
  refine Wl.q (v := Value.tuple #[pv k9, iv 0]) (q_move rfl) ?_
  refine Wl.q (v := pv k9) (q_extract (i := 0) rfl rfl) ?_
  refine Wl.q (v := iv 0) (q_extract (i := 1) rfl rfl) ?_
  refine Wl.q (v := pv k9) (q_assign rfl) ?_
  refine Wl.q (v := iv 0) (q_assign rfl) ?_
  refine Wl.done ?_
  refine Wx.go ?_
  refine Wc.seq ?_
  refine Wc.imp (L' := (knowK k9 b2 (tl34_10 n) (KL [6, 3])) :: (storeW b2 (tl34_10 n)) :: (knowK k7 b2 (tl34_10 n) (KL [10, 3])) :: (pt b5 3 [iv 7, iv 8, iv 9, iv 10]) :: (pt b4 33 [iv 5, iv 6, iv 7, iv 8, iv 9, iv 10]) :: F) (fun w hs => (st_drop (st_drop (st_pull [2, 3] hs)))) ?_
  refine Wc.region ?_
  refine Wl.q (v := pv b2) (q_move rfl) ?_
  refine Wl.e (e_buildSlice (cs := [iv 1, iv 3]) se_31 zo_3 (by decide) (by decide) (by kernel_rfl)) (fun b10 _ => ?_)
  refine Wl.imp (L' := (storeW b2 (tl34_10 n)) :: (pt b10 3 [iv 1, iv 3]) :: (knowK k9 b2 (tl34_10 n) (KL [6, 3])) :: (knowK k7 b2 (tl34_10 n) (KL [10, 3])) :: (pt b5 3 [iv 7, iv 8, iv 9, iv 10]) :: (pt b4 33 [iv 5, iv 6, iv 7, iv 8, iv 9, iv 10]) :: F) (fun _ h => st_pull [2, 0] h) ?_
  refine Wl.e (e_call (F := (knowK k9 b2 (tl34_10 n) (KL [6, 3])) :: (knowK k7 b2 (tl34_10 n) (KL [10, 3])) :: (pt b5 3 [iv 7, iv 8, iv 9, iv 10]) :: (pt b4 33 [iv 5, iv 6, iv 7, iv 8, iv 9, iv 10]) :: F) (args := [pv b2, Value.slice (some ⟨b10, 0, none⟩) 2 2]) Tryd.call8 rfl (dnew_w W0 b2 (tl34_10 n) b10 2 [1, 3] 2 [iv 1, iv 3] rfl rfl (by kernel_rfl))) (fun k11 _ => ?_)
  refine Wl.imp (L' := (knowK k11 b2 (tl34_10 n) (KL [1, 3])) :: (storeW b2 (tl34_10 n)) :: (pt b10 3 [iv 1, iv 3]) :: (knowK k9 b2 (tl34_10 n) (KL [6, 3])) :: (knowK k7 b2 (tl34_10 n) (KL [10, 3])) :: (pt b5 3 [iv 7, iv 8, iv 9, iv 10]) :: (pt b4 33 [iv 5, iv 6, iv 7, iv 8, iv 9, iv 10]) :: F) (fun _ h => h) ?_
  refine Wl.q (v := Value.tuple #[pv k11, iv 0]) (q_move rfl) ?_
  refine Wl.q (v := pv k11) (q_extract (i := 0) rfl rfl) ?_
  refine Wl.q (v := iv 0) (q_extract (i := 1) rfl rfl) ?_
  refine Wl.q (v := pv k11) (q_assign rfl) ?_
  refine Wl.q (v := iv 0) (q_assign rfl) ?_
  refine Wl.done ?_
  refine Wx.go ?_
  refine Wc.seq ?_
  refine Wc.seq ?_
  refine Wc.region ?_
  refine Wl.q (v := iv 0) (q_move rfl) ?_
  refine Wl.q (v := Value.bool false) (q_neq (r := true) rfl rfl (decide_eq_true (by decide))) ?_
  refine Wl.q (v := Value.bool false) (q_move rfl) ?_
  refine Wl.q (v := iv 0) (q_move rfl) ?_
  refine Wl.q (v := Value.bool false) (q_neq (r := true) rfl rfl (decide_eq_true (by decide))) ?_
  refine Wl.q (v := Value.bool false) (q_pick (t := false) rfl rfl) ?_
  refine Wl.q (v := Value.bool false) (q_move rfl) ?_
  refine Wl.q (v := iv 0) (q_move rfl) ?_
  refine Wl.q (v := Value.bool false) (q_neq (r := true) rfl rfl (decide_eq_true (by decide))) ?_
  refine Wl.q (v := Value.bool false) (q_pick (t := false) rfl rfl) ?_
  refine Wl.q (v := Value.bool false) (q_move rfl) ?_
  refine Wl.q (v := pv k7) (q_move rfl) ?_
  refine Wl.q (v := Value.pointer (some ⟨b4, 1, none⟩)) (q_field (m := 1) fo_33_1 rfl rfl) ?_
  refine Wl.q (v := iv 6) (q_load sc_3 rfl (.cel (i := 6) rfl rfl)) ?_
  refine Wl.imp (L' := (storeW b2 (tl34_10 n)) :: (knowK k7 b2 (tl34_10 n) (KL [10, 3])) :: (knowK k11 b2 (tl34_10 n) (KL [1, 3])) :: (pt b10 3 [iv 1, iv 3]) :: (knowK k9 b2 (tl34_10 n) (KL [6, 3])) :: (pt b5 3 [iv 7, iv 8, iv 9, iv 10]) :: (pt b4 33 [iv 5, iv 6, iv 7, iv 8, iv 9, iv 10]) :: F) (fun _ h => st_pull [1, 3] h) ?_
  refine Wl.e (e_call (F := (knowK k11 b2 (tl34_10 n) (KL [1, 3])) :: (pt b10 3 [iv 1, iv 3]) :: (knowK k9 b2 (tl34_10 n) (KL [6, 3])) :: (pt b5 3 [iv 7, iv 8, iv 9, iv 10]) :: (pt b4 33 [iv 5, iv 6, iv 7, iv 8, iv 9, iv 10]) :: F) (args := [pv k7, iv 6]) Tryd.call9 rfl (khas_w W0 k7 b2 (tl34_10 n) (KL [10, 3]) 6 (der_no [0, 10, 3] (by kernel_rfl)))) (fun _ _ => ?_)
  refine Wl.imp (L' := (storeW b2 (tl34_10 n)) :: (knowK k7 b2 (tl34_10 n) (KL [10, 3])) :: (knowK k11 b2 (tl34_10 n) (KL [1, 3])) :: (pt b10 3 [iv 1, iv 3]) :: (knowK k9 b2 (tl34_10 n) (KL [6, 3])) :: (pt b5 3 [iv 7, iv 8, iv 9, iv 10]) :: (pt b4 33 [iv 5, iv 6, iv 7, iv 8, iv 9, iv 10]) :: F) (fun _ h => h) ?_
  refine Wl.q (v := Value.bool false) (q_pick (t := false) rfl rfl) ?_
  refine Wl.q (v := Value.bool false) (q_move rfl) ?_
  refine Wl.q (v := pv k7) (q_move rfl) ?_
  refine Wl.q (v := pv b4) (q_field (m := 0) fo_33_0 rfl rfl) ?_
  refine Wl.q (v := iv 5) (q_load sc_3 rfl (.cel (i := 6) rfl rfl)) ?_
  refine Wl.e (e_call (F := (knowK k11 b2 (tl34_10 n) (KL [1, 3])) :: (pt b10 3 [iv 1, iv 3]) :: (knowK k9 b2 (tl34_10 n) (KL [6, 3])) :: (pt b5 3 [iv 7, iv 8, iv 9, iv 10]) :: (pt b4 33 [iv 5, iv 6, iv 7, iv 8, iv 9, iv 10]) :: F) (args := [pv k7, iv 5]) Tryd.call9 rfl (khas_w W0 k7 b2 (tl34_10 n) (KL [10, 3]) 5 (der_no [0, 10, 3] (by kernel_rfl)))) (fun _ _ => ?_)
  refine Wl.imp (L' := (storeW b2 (tl34_10 n)) :: (knowK k7 b2 (tl34_10 n) (KL [10, 3])) :: (knowK k11 b2 (tl34_10 n) (KL [1, 3])) :: (pt b10 3 [iv 1, iv 3]) :: (knowK k9 b2 (tl34_10 n) (KL [6, 3])) :: (pt b5 3 [iv 7, iv 8, iv 9, iv 10]) :: (pt b4 33 [iv 5, iv 6, iv 7, iv 8, iv 9, iv 10]) :: F) (fun _ h => h) ?_
  refine Wl.q (v := Value.bool false) (q_pick (t := false) rfl rfl) ?_
  refine Wl.q (v := Value.bool false) (q_move rfl) ?_
  refine Wl.q (v := pv k9) (q_move rfl) ?_
  refine Wl.q (v := pv b4) (q_field (m := 0) fo_33_0 rfl rfl) ?_
  refine Wl.q (v := iv 5) (q_load sc_3 rfl (.cel (i := 6) rfl rfl)) ?_
  refine Wl.imp (L' := (storeW b2 (tl34_10 n)) :: (knowK k9 b2 (tl34_10 n) (KL [6, 3])) :: (knowK k7 b2 (tl34_10 n) (KL [10, 3])) :: (knowK k11 b2 (tl34_10 n) (KL [1, 3])) :: (pt b10 3 [iv 1, iv 3]) :: (pt b5 3 [iv 7, iv 8, iv 9, iv 10]) :: (pt b4 33 [iv 5, iv 6, iv 7, iv 8, iv 9, iv 10]) :: F) (fun _ h => st_pull [0, 3] h) ?_
  refine Wl.e (e_call (F := (knowK k7 b2 (tl34_10 n) (KL [10, 3])) :: (knowK k11 b2 (tl34_10 n) (KL [1, 3])) :: (pt b10 3 [iv 1, iv 3]) :: (pt b5 3 [iv 7, iv 8, iv 9, iv 10]) :: (pt b4 33 [iv 5, iv 6, iv 7, iv 8, iv 9, iv 10]) :: F) (args := [pv k9, iv 5]) Tryd.call9 rfl (khas_w W0 k9 b2 (tl34_10 n) (KL [6, 3]) 5 (der_no [0, 6, 3, 7, 8, 9, 10] (by kernel_rfl)))) (fun _ _ => ?_)
  refine Wl.imp (L' := (storeW b2 (tl34_10 n)) :: (knowK k9 b2 (tl34_10 n) (KL [6, 3])) :: (knowK k7 b2 (tl34_10 n) (KL [10, 3])) :: (knowK k11 b2 (tl34_10 n) (KL [1, 3])) :: (pt b10 3 [iv 1, iv 3]) :: (pt b5 3 [iv 7, iv 8, iv 9, iv 10]) :: (pt b4 33 [iv 5, iv 6, iv 7, iv 8, iv 9, iv 10]) :: F) (fun _ h => h) ?_
  refine Wl.q (v := Value.bool false) (q_pick (t := false) rfl rfl) ?_
  refine Wl.q (v := Value.bool false) (q_move rfl) ?_
  refine Wl.q (v := pv k11) (q_move rfl) ?_
  refine Wl.q (v := pv b4) (q_field (m := 0) fo_33_0 rfl rfl) ?_
  refine Wl.q (v := iv 5) (q_load sc_3 rfl (.cel (i := 6) rfl rfl)) ?_
  refine Wl.imp (L' := (storeW b2 (tl34_10 n)) :: (knowK k11 b2 (tl34_10 n) (KL [1, 3])) :: (knowK k9 b2 (tl34_10 n) (KL [6, 3])) :: (knowK k7 b2 (tl34_10 n) (KL [10, 3])) :: (pt b10 3 [iv 1, iv 3]) :: (pt b5 3 [iv 7, iv 8, iv 9, iv 10]) :: (pt b4 33 [iv 5, iv 6, iv 7, iv 8, iv 9, iv 10]) :: F) (fun _ h => st_pull [0, 2] h) ?_
  refine Wl.e (e_call (F := (knowK k9 b2 (tl34_10 n) (KL [6, 3])) :: (knowK k7 b2 (tl34_10 n) (KL [10, 3])) :: (pt b10 3 [iv 1, iv 3]) :: (pt b5 3 [iv 7, iv 8, iv 9, iv 10]) :: (pt b4 33 [iv 5, iv 6, iv 7, iv 8, iv 9, iv 10]) :: F) (args := [pv k11, iv 5]) Tryd.call9 rfl (khas_w W0 k11 b2 (tl34_10 n) (KL [1, 3]) 5 (der_no [0, 1, 3] (by kernel_rfl)))) (fun _ _ => ?_)
  refine Wl.imp (L' := (storeW b2 (tl34_10 n)) :: (knowK k11 b2 (tl34_10 n) (KL [1, 3])) :: (knowK k9 b2 (tl34_10 n) (KL [6, 3])) :: (knowK k7 b2 (tl34_10 n) (KL [10, 3])) :: (pt b10 3 [iv 1, iv 3]) :: (pt b5 3 [iv 7, iv 8, iv 9, iv 10]) :: (pt b4 33 [iv 5, iv 6, iv 7, iv 8, iv 9, iv 10]) :: F) (fun _ h => h) ?_
  refine Wl.q (v := Value.bool false) (q_pick (t := false) rfl rfl) ?_
  refine Wl.q (v := Value.bool false) (q_move rfl) ?_
  refine Wl.q (v := pv k11) (q_move rfl) ?_
  refine Wl.q (v := Value.pointer (some ⟨b4, 1, none⟩)) (q_field (m := 1) fo_33_1 rfl rfl) ?_
  refine Wl.q (v := iv 6) (q_load sc_3 rfl (.cel (i := 6) rfl rfl)) ?_
  refine Wl.e (e_call (F := (knowK k9 b2 (tl34_10 n) (KL [6, 3])) :: (knowK k7 b2 (tl34_10 n) (KL [10, 3])) :: (pt b10 3 [iv 1, iv 3]) :: (pt b5 3 [iv 7, iv 8, iv 9, iv 10]) :: (pt b4 33 [iv 5, iv 6, iv 7, iv 8, iv 9, iv 10]) :: F) (args := [pv k11, iv 6]) Tryd.call9 rfl (khas_w W0 k11 b2 (tl34_10 n) (KL [1, 3]) 6 (der_no [0, 1, 3] (by kernel_rfl)))) (fun _ _ => ?_)
  refine Wl.imp (L' := (storeW b2 (tl34_10 n)) :: (knowK k11 b2 (tl34_10 n) (KL [1, 3])) :: (knowK k9 b2 (tl34_10 n) (KL [6, 3])) :: (knowK k7 b2 (tl34_10 n) (KL [10, 3])) :: (pt b10 3 [iv 1, iv 3]) :: (pt b5 3 [iv 7, iv 8, iv 9, iv 10]) :: (pt b4 33 [iv 5, iv 6, iv 7, iv 8, iv 9, iv 10]) :: F) (fun _ h => h) ?_
  refine Wl.q (v := Value.bool false) (q_pick (t := false) rfl rfl) ?_
  refine Wl.done ?_
  refine Wx.go ?_
  refine Wc.no rfl ?_
  refine Wc.skip ?_
  refine Wx.go ?_
  refine Wc.seq ?_
  refine Wc.seq ?_
  refine Wc.imp (L' := (storeW b2 (tl34_10 n)) :: (knowK k11 b2 (tl34_10 n) (KL [1, 3])) :: (knowK k9 b2 (tl34_10 n) (KL [6, 3])) :: (knowK k7 b2 (tl34_10 n) (KL [10, 3])) :: (pt b5 3 [iv 7, iv 8, iv 9, iv 10]) :: F) (fun w hs => (st_drop (st_drop (st_pull [4, 5] hs)))) ?_
  refine Wc.region ?_
  refine Wl.q (v := iv 0) (q_assign rfl) ?_
  refine Wl.done ?_
  refine Wx.go ?_
  refine Wc.block ?_
  refine Wc.rounds 64 ?_
  refine Wn.round ?_
  refine Wc.seq ?_
  refine Wc.seq ?_
  refine Wc.region ?_
  refine Wl.q (v := iv 0) (q_move rfl) ?_
  refine Wl.q (v := Value.bool true) (q_lss (r := true) rfl rfl (decide_eq_true (by decide))) ?_
  refine Wl.done ?_
  refine Wx.go ?_
  refine Wc.yes rfl ?_
  refine Wc.skip ?_
  refine Wx.go ?_
  refine Wc.seq ?_
  refine Wc.block ?_
  refine Wc.seq ?_
  refine Wc.region ?_
  refine Wl.q (v := pv k7) (q_move rfl) ?_
  refine Wl.q (v := Value.slice (some ⟨b5, 0, none⟩) 4 4) (q_move rfl) ?_
  refine Wl.q (v := iv 0) (q_move rfl) ?_
  refine Wl.q (v := pv b5) (q_idx (m := 0) se_31 rfl rfl (by omega) (by omega) rfl) ?_
  refine Wl.q (v := iv 7) (q_load sc_3 rfl (.cel (i := 4) rfl rfl)) ?_
  refine Wl.imp (L' := (storeW b2 (tl34_10 n)) :: (knowK k7 b2 (tl34_10 n) (KL [10, 3])) :: (knowK k11 b2 (tl34_10 n) (KL [1, 3])) :: (knowK k9 b2 (tl34_10 n) (KL [6, 3])) :: (pt b5 3 [iv 7, iv 8, iv 9, iv 10]) :: F) (fun _ h => st_pull [0, 2] h) ?_
  refine Wl.e (e_call (F := (knowK k11 b2 (tl34_10 n) (KL [1, 3])) :: (knowK k9 b2 (tl34_10 n) (KL [6, 3])) :: (pt b5 3 [iv 7, iv 8, iv 9, iv 10]) :: F) (args := [pv k7, iv 7]) Tryd.call9 rfl (khas_w W0 k7 b2 (tl34_10 n) (KL [10, 3]) 7 (der_no [0, 10, 3] (by kernel_rfl)))) (fun _ _ => ?_)
  refine Wl.imp (L' := (storeW b2 (tl34_10 n)) :: (knowK k7 b2 (tl34_10 n) (KL [10, 3])) :: (knowK k11 b2 (tl34_10 n) (KL [1, 3])) :: (knowK k9 b2 (tl34_10 n) (KL [6, 3])) :: (pt b5 3 [iv 7, iv 8, iv 9, iv 10]) :: F) (fun _ h => h) ?_
  refine Wl.q (v := iv 0) (q_move rfl) ?_
  refine Wl.q (v := iv 3) (q_move rfl) ?_
  refine Wl.q (v := Value.bool false) (q_eql (r := false) rfl rfl (decide_eq_false (by decide))) ?_
  refine Wl.q (v := Value.bool false) (q_neq_bool (r := true) rfl rfl Tryd.underlying4 rfl) ?_
  refine Wl.q (v := Value.bool false) (q_move rfl) ?_
  refine Wl.q (v := pv k9) (q_move rfl) ?_
  refine Wl.q (v := Value.slice (some ⟨b5, 0, none⟩) 4 4) (q_move rfl) ?_
  refine Wl.q (v := iv 0) (q_move rfl) ?_
  refine Wl.q (v := pv b5) (q_idx (m := 0) se_31 rfl rfl (by omega) (by omega) rfl) ?_
  refine Wl.q (v := iv 7) (q_load sc_3 rfl (.cel (i := 4) rfl rfl)) ?_
  refine Wl.imp (L' := (storeW b2 (tl34_10 n)) :: (knowK k9 b2 (tl34_10 n) (KL [6, 3])) :: (knowK k7 b2 (tl34_10 n) (KL [10, 3])) :: (knowK k11 b2 (tl34_10 n) (KL [1, 3])) :: (pt b5 3 [iv 7, iv 8, iv 9, iv 10]) :: F) (fun _ h => st_pull [0, 2] h) ?_
  refine Wl.e (e_call (F := (knowK k7 b2 (tl34_10 n) (KL [10, 3])) :: (knowK k11 b2 (tl34_10 n) (KL [1, 3])) :: (pt b5 3 [iv 7, iv 8, iv 9, iv 10]) :: F) (args := [pv k9, iv 7]) Tryd.call9 rfl (khas_w W0 k9 b2 (tl34_10 n) (KL [6, 3]) 7 (der_yes [6, 3, 7, 8, 9, 10] (by kernel_rfl)))) (fun _ _ => ?_)
  refine Wl.imp (L' := (storeW b2 (tl34_10 n)) :: (knowK k9 b2 (tl34_10 n) (KL [6, 3])) :: (knowK k7 b2 (tl34_10 n) (KL [10, 3])) :: (knowK k11 b2 (tl34_10 n) (KL [1, 3])) :: (pt b5 3 [iv 7, iv 8, iv 9, iv 10]) :: F) (fun _ h => h) ?_
  refine Wl.q (v := Value.bool false) (q_not rfl rfl) ?_
  refine Wl.q (v := Value.bool false) (q_pick (t := false) rfl rfl) ?_
  refine Wl.q (v := Value.bool false) (q_move rfl) ?_
  refine Wl.q (v := pv k11) (q_move rfl) ?_
  refine Wl.q (v := Value.slice (some ⟨b5, 0, none⟩) 4 4) (q_move rfl) ?_
  refine Wl.q (v := iv 0) (q_move rfl) ?_
  refine Wl.q (v := pv b5) (q_idx (m := 0) se_31 rfl rfl (by omega) (by omega) rfl) ?_
  refine Wl.q (v := iv 7) (q_load sc_3 rfl (.cel (i := 4) rfl rfl)) ?_
  refine Wl.imp (L' := (storeW b2 (tl34_10 n)) :: (knowK k11 b2 (tl34_10 n) (KL [1, 3])) :: (knowK k9 b2 (tl34_10 n) (KL [6, 3])) :: (knowK k7 b2 (tl34_10 n) (KL [10, 3])) :: (pt b5 3 [iv 7, iv 8, iv 9, iv 10]) :: F) (fun _ h => st_pull [0, 2] h) ?_
  refine Wl.e (e_call (F := (knowK k9 b2 (tl34_10 n) (KL [6, 3])) :: (knowK k7 b2 (tl34_10 n) (KL [10, 3])) :: (pt b5 3 [iv 7, iv 8, iv 9, iv 10]) :: F) (args := [pv k11, iv 7]) Tryd.call9 rfl (khas_w W0 k11 b2 (tl34_10 n) (KL [1, 3]) 7 (der_no [0, 1, 3] (by kernel_rfl)))) (fun _ _ => ?_)
  refine Wl.imp (L' := (storeW b2 (tl34_10 n)) :: (knowK k11 b2 (tl34_10 n) (KL [1, 3])) :: (knowK k9 b2 (tl34_10 n) (KL [6, 3])) :: (knowK k7 b2 (tl34_10 n) (KL [10, 3])) :: (pt b5 3 [iv 7, iv 8, iv 9, iv 10]) :: F) (fun _ h => h) ?_
  refine Wl.q (v := Value.bool false) (q_pick (t := false) rfl rfl) ?_
  refine Wl.done ?_
  refine Wx.go ?_
  refine Wc.no rfl ?_
  refine Wc.skip ?_
  refine Wx.blockEnd ?_
  refine Wx.go ?_
  refine Wc.region ?_
  refine Wl.q (v := iv 0) (q_move rfl) ?_
  refine Wl.q (v := iv 1) (q_add (c := 1) rfl rfl (by decide)) ?_
  refine Wl.q (v := iv 1) (q_assign rfl) ?_
  refine Wl.done ?_
  refine Wx.again ?_
  refine Wn.round ?_
  refine Wc.seq ?_
  refine Wc.seq ?_
  refine Wc.region ?_
  refine Wl.q (v := iv 1) (q_move rfl) ?_
  refine Wl.q (v := Value.bool true) (q_lss (r := true) rfl rfl (decide_eq_true (by decide))) ?_
  refine Wl.done ?_
  refine Wx.go ?_
  refine Wc.yes rfl ?_
  refine Wc.skip ?_
  refine Wx.go ?_
  refine Wc.seq ?_
  refine Wc.block ?_
  refine Wc.seq ?_
  refine Wc.region ?_
  refine Wl.q (v := pv k7) (q_move rfl) ?_
  refine Wl.q (v := Value.slice (some ⟨b5, 0, none⟩) 4 4) (q_move rfl) ?_
  refine Wl.q (v := iv 1) (q_move rfl) ?_
  refine Wl.q (v := Value.pointer (some ⟨b5, 1, none⟩)) (q_idx (m := 1) se_31 rfl rfl (by omega) (by omega) rfl) ?_
  refine Wl.q (v := iv 8) (q_load sc_3 rfl (.cel (i := 4) rfl rfl)) ?_
  refine Wl.imp (L' := (storeW b2 (tl34_10 n)) :: (knowK k7 b2 (tl34_10 n) (KL [10, 3])) :: (knowK k11 b2 (tl34_10 n) (KL [1, 3])) :: (knowK k9 b2 (tl34_10 n) (KL [6, 3])) :: (pt b5 3 [iv 7, iv 8, iv 9, iv 10]) :: F) (fun _ h => st_pull [0, 2] h) ?_
  refine Wl.e (e_call (F := (knowK k11 b2 (tl34_10 n) (KL [1, 3])) :: (knowK k9 b2 (tl34_10 n) (KL [6, 3])) :: (pt b5 3 [iv 7, iv 8, iv 9, iv 10]) :: F) (args := [pv k7, iv 8]) Tryd.call9 rfl (khas_w W0 k7 b2 (tl34_10 n) (KL [10, 3]) 8 (der_no [0, 10, 3] (by kernel_rfl)))) (fun _ _ => ?_)
  refine Wl.imp (L' := (storeW b2 (tl34_10 n)) :: (knowK k7 b2 (tl34_10 n) (KL [10, 3])) :: (knowK k11 b2 (tl34_10 n) (KL [1, 3])) :: (knowK k9 b2 (tl34_10 n) (KL [6, 3])) :: (pt b5 3 [iv 7, iv 8, iv 9, iv 10]) :: F) (fun _ h => h) ?_
  refine Wl.q (v := iv 1) (q_move rfl) ?_
  refine Wl.q (v := iv 3) (q_move rfl) ?_
  refine Wl.q (v := Value.bool false) (q_eql (r := false) rfl rfl (decide_eq_false (by decide))) ?_
  refine Wl.q (v := Value.bool false) (q_neq_bool (r := true) rfl rfl Tryd.underlying4 rfl) ?_
  refine Wl.q (v := Value.bool false) (q_move rfl) ?_
  refine Wl.q (v := pv k9) (q_move rfl) ?_
  refine Wl.q (v := Value.slice (some ⟨b5, 0, none⟩) 4 4) (q_move rfl) ?_
  refine Wl.q (v := iv 1) (q_move rfl) ?_
  refine Wl.q (v := Value.pointer (some ⟨b5, 1, none⟩)) (q_idx (m := 1) se_31 rfl rfl (by omega) (by omega) rfl) ?_
  refine Wl.q (v := iv 8) (q_load sc_3 rfl (.cel (i := 4) rfl rfl)) ?_
  refine Wl.imp (L' := (storeW b2 (tl34_10 n)) :: (knowK k9 b2 (tl34_10 n) (KL [6, 3])) :: (knowK k7 b2 (tl34_10 n) (KL [10, 3])) :: (knowK k11 b2 (tl34_10 n) (KL [1, 3])) :: (pt b5 3 [iv 7, iv 8, iv 9, iv 10]) :: F) (fun _ h => st_pull [0, 2] h) ?_
  refine Wl.e (e_call (F := (knowK k7 b2 (tl34_10 n) (KL [10, 3])) :: (knowK k11 b2 (tl34_10 n) (KL [1, 3])) :: (pt b5 3 [iv 7, iv 8, iv 9, iv 10]) :: F) (args := [pv k9, iv 8]) Tryd.call9 rfl (khas_w W0 k9 b2 (tl34_10 n) (KL [6, 3]) 8 (der_yes [6, 3, 7, 8, 9, 10] (by kernel_rfl)))) (fun _ _ => ?_)
  refine Wl.imp (L' := (storeW b2 (tl34_10 n)) :: (knowK k9 b2 (tl34_10 n) (KL [6, 3])) :: (knowK k7 b2 (tl34_10 n) (KL [10, 3])) :: (knowK k11 b2 (tl34_10 n) (KL [1, 3])) :: (pt b5 3 [iv 7, iv 8, iv 9, iv 10]) :: F) (fun _ h => h) ?_
  refine Wl.q (v := Value.bool false) (q_not rfl rfl) ?_
  refine Wl.q (v := Value.bool false) (q_pick (t := false) rfl rfl) ?_
  refine Wl.q (v := Value.bool false) (q_move rfl) ?_
  refine Wl.q (v := pv k11) (q_move rfl) ?_
  refine Wl.q (v := Value.slice (some ⟨b5, 0, none⟩) 4 4) (q_move rfl) ?_
  refine Wl.q (v := iv 1) (q_move rfl) ?_
  refine Wl.q (v := Value.pointer (some ⟨b5, 1, none⟩)) (q_idx (m := 1) se_31 rfl rfl (by omega) (by omega) rfl) ?_
  refine Wl.q (v := iv 8) (q_load sc_3 rfl (.cel (i := 4) rfl rfl)) ?_
  refine Wl.imp (L' := (storeW b2 (tl34_10 n)) :: (knowK k11 b2 (tl34_10 n) (KL [1, 3])) :: (knowK k9 b2 (tl34_10 n) (KL [6, 3])) :: (knowK k7 b2 (tl34_10 n) (KL [10, 3])) :: (pt b5 3 [iv 7, iv 8, iv 9, iv 10]) :: F) (fun _ h => st_pull [0, 2] h) ?_
  refine Wl.e (e_call (F := (knowK k9 b2 (tl34_10 n) (KL [6, 3])) :: (knowK k7 b2 (tl34_10 n) (KL [10, 3])) :: (pt b5 3 [iv 7, iv 8, iv 9, iv 10]) :: F) (args := [pv k11, iv 8]) Tryd.call9 rfl (khas_w W0 k11 b2 (tl34_10 n) (KL [1, 3]) 8 (der_no [0, 1, 3] (by kernel_rfl)))) (fun _ _ => ?_)
  refine Wl.imp (L' := (storeW b2 (tl34_10 n)) :: (knowK k11 b2 (tl34_10 n) (KL [1, 3])) :: (knowK k9 b2 (tl34_10 n) (KL [6, 3])) :: (knowK k7 b2 (tl34_10 n) (KL [10, 3])) :: (pt b5 3 [iv 7, iv 8, iv 9, iv 10]) :: F) (fun _ h => h) ?_
  refine Wl.q (v := Value.bool false) (q_pick (t := false) rfl rfl) ?_
  refine Wl.done ?_
  refine Wx.go ?_
  refine Wc.no rfl ?_
  refine Wc.skip ?_
  refine Wx.blockEnd ?_
  refine Wx.go ?_
  refine Wc.region ?_
  refine Wl.q (v := iv 1) (q_move rfl) ?_
  refine Wl.q (v := iv 2) (q_add (c := 2) rfl rfl (by decide)) ?_
  refine Wl.q (v := iv 2) (q_assign rfl) ?_
  refine Wl.done ?_
  refine Wx.again ?_
  refine Wn.round ?_
  refine Wc.seq ?_
  refine Wc.seq ?_
  refine Wc.region ?_
  refine Wl.q (v := iv 2) (q_move rfl) ?_
  refine Wl.q (v := Value.bool true) (q_lss (r := true) rfl rfl (decide_eq_true (by decide))) ?_
  refine Wl.done ?_
  refine Wx.go ?_
  refine Wc.yes rfl ?_
  refine Wc.skip ?_
  refine Wx.go ?_
  refine Wc.seq ?_
  refine Wc.block ?_
  refine Wc.seq ?_
  refine Wc.region ?_
  refine Wl.q (v := pv k7) (q_move rfl) ?_
  refine Wl.q (v := Value.slice (some ⟨b5, 0, none⟩) 4 4) (q_move rfl) ?_
  refine Wl.q (v := iv 2) (q_move rfl) ?_
  refine Wl.q (v := Value.pointer (some ⟨b5, 2, none⟩)) (q_idx (m := 2) se_31 rfl rfl (by omega) (by omega) rfl) ?_
  refine Wl.q (v := iv 9) (q_load sc_3 rfl (.cel (i := 4) rfl rfl)) ?_
  refine Wl.imp (L' := (storeW b2 (tl34_10 n)) :: (knowK k7 b2 (tl34_10 n) (KL [10, 3])) :: (knowK k11 b2 (tl34_10 n) (KL [1, 3])) :: (knowK k9 b2 (tl34_10 n) (KL [6, 3])) :: (pt b5 3 [iv 7, iv 8, iv 9, iv 10]) :: F) (fun _ h => st_pull [0, 2] h) ?_
  refine Wl.e (e_call (F := (knowK k11 b2 (tl34_10 n) (KL [1, 3])) :: (knowK k9 b2 (tl34_10 n) (KL [6, 3])) :: (pt b5 3 [iv 7, iv 8, iv 9, iv 10]) :: F) (args := [pv k7, iv 9]) Tryd.call9 rfl (khas_w W0 k7 b2 (tl34_10 n) (KL [10, 3]) 9 (der_no [0, 10, 3] (by kernel_rfl)))) (fun _ _ => ?_)
  refine Wl.imp (L' := (storeW b2 (tl34_10 n)) :: (knowK k7 b2 (tl34_10 n) (KL [10, 3])) :: (knowK k11 b2 (tl34_10 n) (KL [1, 3])) :: (knowK k9 b2 (tl34_10 n) (KL [6, 3])) :: (pt b5 3 [iv 7, iv 8, iv 9, iv 10]) :: F) (fun _ h => h) ?_
  refine Wl.q (v := iv 2) (q_move rfl) ?_
  refine Wl.q (v := iv 3) (q_move rfl) ?_
  refine Wl.q (v := Value.bool false) (q_eql (r := false) rfl rfl (decide_eq_false (by decide))) ?_
  refine Wl.q (v := Value.bool false) (q_neq_bool (r := true) rfl rfl Tryd.underlying4 rfl) ?_
  refine Wl.q (v := Value.bool false) (q_move rfl) ?_
  refine Wl.q (v := pv k9) (q_move rfl) ?_
  refine Wl.q (v := Value.slice (some ⟨b5, 0, none⟩) 4 4) (q_move rfl) ?_
  refine Wl.q (v := iv 2) (q_move rfl) ?_
  refine Wl.q (v := Value.pointer (some ⟨b5, 2, none⟩)) (q_idx (m := 2) se_31 rfl rfl (by omega) (by omega) rfl) ?_
  refine Wl.q (v := iv 9) (q_load sc_3 rfl (.cel (i := 4) rfl rfl)) ?_
  refine Wl.imp (L' := (storeW b2 (tl34_10 n)) :: (knowK k9 b2 (tl34_10 n) (KL [6, 3])) :: (knowK k7 b2 (tl34_10 n) (KL [10, 3])) :: (knowK k11 b2 (tl34_10 n) (KL [1, 3])) :: (pt b5 3 [iv 7, iv 8, iv 9, iv 10]) :: F) (fun _ h => st_pull [0, 2] h) ?_
  refine Wl.e (e_call (F := (knowK k7 b2 (tl34_10 n) (KL [10, 3])) :: (knowK k11 b2 (tl34_10 n) (KL [1, 3])) :: (pt b5 3 [iv 7, iv 8, iv 9, iv 10]) :: F) (args := [pv k9, iv 9]) Tryd.call9 rfl (khas_w W0 k9 b2 (tl34_10 n) (KL [6, 3]) 9 (der_yes [6, 3, 7, 8, 9, 10] (by kernel_rfl)))) (fun _ _ => ?_)
  refine Wl.imp (L' := (storeW b2 (tl34_10 n)) :: (knowK k9 b2 (tl34_10 n) (KL [6, 3])) :: (knowK k7 b2 (tl34_10 n) (KL [10, 3])) :: (knowK k11 b2 (tl34_10 n) (KL [1, 3])) :: (pt b5 3 [iv 7, iv 8, iv 9, iv 10]) :: F) (fun _ h => h) ?_
  refine Wl.q (v := Value.bool false) (q_not rfl rfl) ?_
  refine Wl.q (v := Value.bool false) (q_pick (t := false) rfl rfl) ?_
  refine Wl.q (v := Value.bool false) (q_move rfl) ?_
  refine Wl.q (v := pv k11) (q_move rfl) ?_
  refine Wl.q (v := Value.slice (some ⟨b5, 0, none⟩) 4 4) (q_move rfl) ?_
  refine Wl.q (v := iv 2) (q_move rfl) ?_
  refine Wl.q (v := Value.pointer (some ⟨b5, 2, none⟩)) (q_idx (m := 2) se_31 rfl rfl (by omega) (by omega) rfl) ?_
  refine Wl.q (v := iv 9) (q_load sc_3 rfl (.cel (i := 4) rfl rfl)) ?_
  refine Wl.imp (L' := (storeW b2 (tl34_10 n)) :: (knowK k11 b2 (tl34_10 n) (KL [1, 3])) :: (knowK k9 b2 (tl34_10 n) (KL [6, 3])) :: (knowK k7 b2 (tl34_10 n) (KL [10, 3])) :: (pt b5 3 [iv 7, iv 8, iv 9, iv 10]) :: F) (fun _ h => st_pull [0, 2] h) ?_
  refine Wl.e (e_call (F := (knowK k9 b2 (tl34_10 n) (KL [6, 3])) :: (knowK k7 b2 (tl34_10 n) (KL [10, 3])) :: (pt b5 3 [iv 7, iv 8, iv 9, iv 10]) :: F) (args := [pv k11, iv 9]) Tryd.call9 rfl (khas_w W0 k11 b2 (tl34_10 n) (KL [1, 3]) 9 (der_no [0, 1, 3] (by kernel_rfl)))) (fun _ _ => ?_)
  refine Wl.imp (L' := (storeW b2 (tl34_10 n)) :: (knowK k11 b2 (tl34_10 n) (KL [1, 3])) :: (knowK k9 b2 (tl34_10 n) (KL [6, 3])) :: (knowK k7 b2 (tl34_10 n) (KL [10, 3])) :: (pt b5 3 [iv 7, iv 8, iv 9, iv 10]) :: F) (fun _ h => h) ?_
  refine Wl.q (v := Value.bool false) (q_pick (t := false) rfl rfl) ?_
  refine Wl.done ?_
  refine Wx.go ?_
  refine Wc.no rfl ?_
  refine Wc.skip ?_
  refine Wx.blockEnd ?_
  refine Wx.go ?_
  refine Wc.region ?_
  refine Wl.q (v := iv 2) (q_move rfl) ?_
  refine Wl.q (v := iv 3) (q_add (c := 3) rfl rfl (by decide)) ?_
  refine Wl.q (v := iv 3) (q_assign rfl) ?_
  refine Wl.done ?_
  refine Wx.again ?_
  refine Wn.round ?_
  refine Wc.seq ?_
  refine Wc.seq ?_
  refine Wc.region ?_
  refine Wl.q (v := iv 3) (q_move rfl) ?_
  refine Wl.q (v := Value.bool true) (q_lss (r := true) rfl rfl (decide_eq_true (by decide))) ?_
  refine Wl.done ?_
  refine Wx.go ?_
  refine Wc.yes rfl ?_
  refine Wc.skip ?_
  refine Wx.go ?_
  refine Wc.seq ?_
  refine Wc.block ?_
  refine Wc.seq ?_
  refine Wc.region ?_
  refine Wl.q (v := pv k7) (q_move rfl) ?_
  refine Wl.q (v := Value.slice (some ⟨b5, 0, none⟩) 4 4) (q_move rfl) ?_
  refine Wl.q (v := iv 3) (q_move rfl) ?_
  refine Wl.q (v := Value.pointer (some ⟨b5, 3, none⟩)) (q_idx (m := 3) se_31 rfl rfl (by omega) (by omega) rfl) ?_
  refine Wl.q (v := iv 10) (q_load sc_3 rfl (.cel (i := 4) rfl rfl)) ?_
  refine Wl.imp (L' := (storeW b2 (tl34_10 n)) :: (knowK k7 b2 (tl34_10 n) (KL [10, 3])) :: (knowK k11 b2 (tl34_10 n) (KL [1, 3])) :: (knowK k9 b2 (tl34_10 n) (KL [6, 3])) :: (pt b5 3 [iv 7, iv 8, iv 9, iv 10]) :: F) (fun _ h => st_pull [0, 2] h) ?_
  refine Wl.e (e_call (F := (knowK k11 b2 (tl34_10 n) (KL [1, 3])) :: (knowK k9 b2 (tl34_10 n) (KL [6, 3])) :: (pt b5 3 [iv 7, iv 8, iv 9, iv 10]) :: F) (args := [pv k7, iv 10]) Tryd.call9 rfl (khas_w W0 k7 b2 (tl34_10 n) (KL [10, 3]) 10 (der_yes [10, 3] (by kernel_rfl)))) (fun _ _ => ?_)
  refine Wl.imp (L' := (storeW b2 (tl34_10 n)) :: (knowK k7 b2 (tl34_10 n) (KL [10, 3])) :: (knowK k11 b2 (tl34_10 n) (KL [1, 3])) :: (knowK k9 b2 (tl34_10 n) (KL [6, 3])) :: (pt b5 3 [iv 7, iv 8, iv 9, iv 10]) :: F) (fun _ h => h) ?_
  refine Wl.q (v := iv 3) (q_move rfl) ?_
  refine Wl.q (v := iv 3) (q_move rfl) ?_
  refine Wl.q (v := Value.bool true) (q_eql (r := true) rfl rfl (decide_eq_true (by decide))) ?_
  refine Wl.q (v := Value.bool false) (q_neq_bool (r := true) rfl rfl Tryd.underlying4 rfl) ?_
  refine Wl.q (v := Value.bool false) (q_move rfl) ?_
  refine Wl.q (v := pv k9) (q_move rfl) ?_
  refine Wl.q (v := Value.slice (some ⟨b5, 0, none⟩) 4 4) (q_move rfl) ?_
  refine Wl.q (v := iv 3) (q_move rfl) ?_
  refine Wl.q (v := Value.pointer (some ⟨b5, 3, none⟩)) (q_idx (m := 3) se_31 rfl rfl (by omega) (by omega) rfl) ?_
  refine Wl.q (v := iv 10) (q_load sc_3 rfl (.cel (i := 4) rfl rfl)) ?_
  refine Wl.imp (L' := (storeW b2 (tl34_10 n)) :: (knowK k9 b2 (tl34_10 n) (KL [6, 3])) :: (knowK k7 b2 (tl34_10 n) (KL [10, 3])) :: (knowK k11 b2 (tl34_10 n) (KL [1, 3])) :: (pt b5 3 [iv 7, iv 8, iv 9, iv 10]) :: F) (fun _ h => st_pull [0, 2] h) ?_
  refine Wl.e (e_call (F := (knowK k7 b2 (tl34_10 n) (KL [10, 3])) :: (knowK k11 b2 (tl34_10 n) (KL [1, 3])) :: (pt b5 3 [iv 7, iv 8, iv 9, iv 10]) :: F) (args := [pv k9, iv 10]) Tryd.call9 rfl (khas_w W0 k9 b2 (tl34_10 n) (KL [6, 3]) 10 (der_yes [6, 3, 7, 8, 9, 10] (by kernel_rfl)))) (fun _ _ => ?_)
  refine Wl.imp (L' := (storeW b2 (tl34_10 n)) :: (knowK k9 b2 (tl34_10 n) (KL [6, 3])) :: (knowK k7 b2 (tl34_10 n) (KL [10, 3])) :: (knowK k11 b2 (tl34_10 n) (KL [1, 3])) :: (pt b5 3 [iv 7, iv 8, iv 9, iv 10]) :: F) (fun _ h => h) ?_
  refine Wl.q (v := Value.bool false) (q_not rfl rfl) ?_
  refine Wl.q (v := Value.bool false) (q_pick (t := false) rfl rfl) ?_
  refine Wl.q (v := Value.bool false) (q_move rfl) ?_
  refine Wl.q (v := pv k11) (q_move rfl) ?_
  refine Wl.q (v := Value.slice (some ⟨b5, 0, none⟩) 4 4) (q_move rfl) ?_
  refine Wl.q (v := iv 3) (q_move rfl) ?_
  refine Wl.q (v := Value.pointer (some ⟨b5, 3, none⟩)) (q_idx (m := 3) se_31 rfl rfl (by omega) (by omega) rfl) ?_
  refine Wl.q (v := iv 10) (q_load sc_3 rfl (.cel (i := 4) rfl rfl)) ?_
  refine Wl.imp (L' := (storeW b2 (tl34_10 n)) :: (knowK k11 b2 (tl34_10 n) (KL [1, 3])) :: (knowK k9 b2 (tl34_10 n) (KL [6, 3])) :: (knowK k7 b2 (tl34_10 n) (KL [10, 3])) :: (pt b5 3 [iv 7, iv 8, iv 9, iv 10]) :: F) (fun _ h => st_pull [0, 2] h) ?_
  refine Wl.e (e_call (F := (knowK k9 b2 (tl34_10 n) (KL [6, 3])) :: (knowK k7 b2 (tl34_10 n) (KL [10, 3])) :: (pt b5 3 [iv 7, iv 8, iv 9, iv 10]) :: F) (args := [pv k11, iv 10]) Tryd.call9 rfl (khas_w W0 k11 b2 (tl34_10 n) (KL [1, 3]) 10 (der_no [0, 1, 3] (by kernel_rfl)))) (fun _ _ => ?_)
  refine Wl.imp (L' := (storeW b2 (tl34_10 n)) :: (knowK k11 b2 (tl34_10 n) (KL [1, 3])) :: (knowK k9 b2 (tl34_10 n) (KL [6, 3])) :: (knowK k7 b2 (tl34_10 n) (KL [10, 3])) :: (pt b5 3 [iv 7, iv 8, iv 9, iv 10]) :: F) (fun _ h => h) ?_
  refine Wl.q (v := Value.bool false) (q_pick (t := false) rfl rfl) ?_
  refine Wl.done ?_
  refine Wx.go ?_
  refine Wc.no rfl ?_
  refine Wc.skip ?_
  refine Wx.blockEnd ?_
  refine Wx.go ?_
  refine Wc.region ?_
  refine Wl.q (v := iv 3) (q_move rfl) ?_
  refine Wl.q (v := iv 4) (q_add (c := 4) rfl rfl (by decide)) ?_
  refine Wl.q (v := iv 4) (q_assign rfl) ?_
  refine Wl.done ?_
  refine Wx.again ?_
  refine Wn.round ?_
  refine Wc.seq ?_
  refine Wc.seq ?_
  refine Wc.region ?_
  refine Wl.q (v := iv 4) (q_move rfl) ?_
  refine Wl.q (v := Value.bool false) (q_lss (r := false) rfl rfl (decide_eq_false (by decide))) ?_
  refine Wl.done ?_
  refine Wx.go ?_
  refine Wc.no rfl ?_
  refine Wc.exit ?_
  refine Wx.thenExit ?_
  refine Wx.thenExit ?_
  refine Wx.out ?_
  refine Wx.go ?_
  refine Wc.seq ?_
  refine Wc.imp (L' := F) (fun w hs => (st_drop (st_drop (st_drop (st_drop (st_drop (st_pull [0, 0, 0, 0, 0] hs))))))) ?_
  refine Wc.region ?_
  refine Wl.e (e_call (F := F) (args := []) Tryd.call7 rfl (au1_lives W0)) (fun _ _ => ?_)
  refine Wl.imp (L' := F) (fun _ h => h) ?_
  refine Wl.q (v := Value.bool true) (q_assign rfl) ?_
  refine Wl.done ?_
  refine Wx.go ?_
  refine Wc.ret ?_
  refine Wx.fin1 rfl (.inl rfl) (fun w hs => ?_)
  have hs : st W0 w (F) := hs
  exact ⟨(), trivial, rfl, hs⟩

theorem apart_out (W0 : World) (n which : Int) (h : n < 0 ∨ 1152921504606846976 < n ∨ which < 0 ∨ 3 < which) :
    Con Tryd.prog W0 4 #[Value.int .i64 n, Value.int .i64 which] [] (X := Unit) (fun _ => True) (fun _ => .bool true) (fun _ => []) := by
  refine Con.of (args := [Value.int .i64 n, Value.int .i64 which]) Tryd.func4 rfl Tryd.ntmps4 rfl (fun F => ?_)
  show Wc _ W0 _ _ _ _ _ (F)
  refine Wc.seq ?_
  refine Wc.region ?_
  refine Wl.q (v := Value.bool false) (q_assign rfl) ?_
  refine Wl.done ?_
  refine Wx.go ?_
  refine Wc.seq ?_
  refine Wc.seq ?_
  refine Wc.region ?_
  refine Wl.q (v := Value.int .i64 n) (q_move rfl) ?_
  by_cases g1 : n < 0
  ·
    refine Wl.q (v := Value.bool true) (q_lss (r := true) rfl rfl (decide_eq_true g1)) ?_
    refine Wl.q (v := Value.bool true) (q_move rfl) ?_
    refine Wl.no ?_
    refine Wl.no ?_
    refine Wl.q (v := Value.bool true) (q_pick (t := true) rfl rfl) ?_
    refine Wl.q (v := Value.bool true) (q_move rfl) ?_
    refine Wl.no ?_
    refine Wl.no ?_
    refine Wl.q (v := Value.bool true) (q_pick (t := true) rfl rfl) ?_
    refine Wl.q (v := Value.bool true) (q_move rfl) ?_
    refine Wl.no ?_
    refine Wl.no ?_
    refine Wl.q (v := Value.bool true) (q_pick (t := true) rfl rfl) ?_
    refine Wl.done ?_
    refine Wx.go ?_
    refine Wc.yes rfl ?_
    refine Wc.seq ?_
    refine Wc.region ?_
    refine Wl.q (v := Value.bool true) (q_assign rfl) ?_
    refine Wl.done ?_
    refine Wx.go ?_
    refine Wc.ret ?_
    refine Wx.thenRet ?_
    refine Wx.fin1 rfl (.inl rfl) (fun w hs => ?_)
    exact ⟨(), trivial, rfl, hs⟩
  ·
    refine Wl.q (v := Value.bool false) (q_lss (r := false) rfl rfl (decide_eq_false g1)) ?_
    refine Wl.q (v := Value.bool false) (q_move rfl) ?_
    refine Wl.q (v := Value.int .i64 n) (q_move rfl) ?_
    by_cases g2 : n > 1152921504606846976
    ·
      refine Wl.q (v := Value.bool true) (q_gtr (r := true) rfl rfl (decide_eq_true g2)) ?_
      refine Wl.q (v := Value.bool true) (q_pick (t := false) rfl rfl) ?_
      refine Wl.q (v := Value.bool true) (q_move rfl) ?_
      refine Wl.no ?_
      refine Wl.no ?_
      refine Wl.q (v := Value.bool true) (q_pick (t := true) rfl rfl) ?_
      refine Wl.q (v := Value.bool true) (q_move rfl) ?_
      refine Wl.no ?_
      refine Wl.no ?_
      refine Wl.q (v := Value.bool true) (q_pick (t := true) rfl rfl) ?_
      refine Wl.done ?_
      refine Wx.go ?_
      refine Wc.yes rfl ?_
      refine Wc.seq ?_
      refine Wc.region ?_
      refine Wl.q (v := Value.bool true) (q_assign rfl) ?_
      refine Wl.done ?_
      refine Wx.go ?_
      refine Wc.ret ?_
      refine Wx.thenRet ?_
      refine Wx.fin1 rfl (.inl rfl) (fun w hs => ?_)
      exact ⟨(), trivial, rfl, hs⟩
    ·
      refine Wl.q (v := Value.bool false) (q_gtr (r := false) rfl rfl (decide_eq_false g2)) ?_
      refine Wl.q (v := Value.bool false) (q_pick (t := false) rfl rfl) ?_
      refine Wl.q (v := Value.bool false) (q_move rfl) ?_
      refine Wl.q (v := Value.int .i64 which) (q_move rfl) ?_
      by_cases g3 : which < 0
      ·
        refine Wl.q (v := Value.bool true) (q_lss (r := true) rfl rfl (decide_eq_true g3)) ?_
        refine Wl.q (v := Value.bool true) (q_pick (t := false) rfl rfl) ?_
        refine Wl.q (v := Value.bool true) (q_move rfl) ?_
        refine Wl.no ?_
        refine Wl.no ?_
        refine Wl.q (v := Value.bool true) (q_pick (t := true) rfl rfl) ?_
        refine Wl.done ?_
        refine Wx.go ?_
        refine Wc.yes rfl ?_
        refine Wc.seq ?_
        refine Wc.region ?_
        refine Wl.q (v := Value.bool true) (q_assign rfl) ?_
        refine Wl.done ?_
        refine Wx.go ?_
        refine Wc.ret ?_
        refine Wx.thenRet ?_
        refine Wx.fin1 rfl (.inl rfl) (fun w hs => ?_)
        exact ⟨(), trivial, rfl, hs⟩
      ·
        refine Wl.q (v := Value.bool false) (q_lss (r := false) rfl rfl (decide_eq_false g3)) ?_
        refine Wl.q (v := Value.bool false) (q_pick (t := false) rfl rfl) ?_
        refine Wl.q (v := Value.bool false) (q_move rfl) ?_
        refine Wl.q (v := Value.int .i64 which) (q_move rfl) ?_
        by_cases g4 : which > 3
        ·
          refine Wl.q (v := Value.bool true) (q_gtr (r := true) rfl rfl (decide_eq_true g4)) ?_
          refine Wl.q (v := Value.bool true) (q_pick (t := false) rfl rfl) ?_
          refine Wl.done ?_
          refine Wx.go ?_
          refine Wc.yes rfl ?_
          refine Wc.seq ?_
          refine Wc.region ?_
          refine Wl.q (v := Value.bool true) (q_assign rfl) ?_
          refine Wl.done ?_
          refine Wx.go ?_
          refine Wc.ret ?_
          refine Wx.thenRet ?_
          refine Wx.fin1 rfl (.inl rfl) (fun w hs => ?_)
          exact ⟨(), trivial, rfl, hs⟩
        ·
          exfalso; omega

theorem apart_law (W0 : World) (n which : Int) : Con Tryd.prog W0 4 #[.int .i64 n, .int .i64 which] [] (X := Unit) (fun _ => True) (fun _ => .bool true) (fun _ => []) := by
  by_cases h : n < 0 ∨ 1152921504606846976 < n ∨ which < 0 ∨ 3 < which
  · exact apart_out W0 n which h
  have hn : 0 ≤ n ∧ n ≤ 1152921504606846976 := by omega
  obtain rfl | rfl | rfl | rfl : which = 0 ∨ which = 1 ∨ which = 2 ∨ which = 3 := by omega
  · exact ap1_SchedApart W0 n hn
  · exact ap27_SchedApart W0 n hn
  · exact ap28_SchedApart W0 n hn
  · exact ap29_SchedApart W0 n hn

end Go.Proofs.YtoehhbapilfdbaaDoor
