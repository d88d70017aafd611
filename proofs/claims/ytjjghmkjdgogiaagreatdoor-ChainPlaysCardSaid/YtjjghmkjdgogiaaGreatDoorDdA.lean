/- What follows: contracts of the calls. -/
import Derived.Test.YtjjghmkjdgogiaaGreatDoorDdW
import Derived.Test.YtjjghmkjdgogiaaGreatDoorDdN
import Derived.Test.YtjjghmkjdgogiaaGreatDoorAcQ
namespace Go.Proofs.YtjjghmkjdgogiaaGreatDoor
open Go Go.SL Go.Dd Go.RowKit
set_option linter.unusedVariables false
set_option maxRecDepth 8000
theorem se_129 : sliceElem Tryz.prog 129 = some (2, 1) := by kernel_rfl
theorem se_23 : sliceElem Tryz.prog 23 = some (3, 1) := by kernel_rfl
theorem sz_3 : sizeIs Tryz.prog 3 = some 1 := by kernel_rfl
theorem by_3 : (Tryz.prog.info? 3).map (·.bytes) = some 8 := by kernel_rfl
theorem list0_w (W0 : World) (s : Nat) (ts : List TermR) : Con Tryz.prog W0 135 #[.pointer (some ⟨s, 0, none⟩), .slice none 0 0] [storeW s ts] (X := Unit) (fun _ => True) (fun _ => .tuple #[.int .i64 0, .int .i64 0]) (fun _ => [storeW s ts]) := Con.storeW fun hw hl =>
 (list0_c W0 s ts).mono fun _ _ => ⟨(), trivial, rfl, fun _ _ hs => storeW_mk hw hl hs⟩

set_option maxRecDepth 8000 in
set_option maxHeartbeats 4000000 in
theorem da2_List (W0 : World) (ts ts2 : List TermR) (x : Int) (n : Nat) (ht : okT ⟨2, x, 0, 0⟩) (h : mk ts ⟨2, x, 0, 0⟩ = (ts2, n, 0)) (hn : 1 ≤ n ∧ n ≤ ts2.length) (q0 : Nat) (u1 : Value)  :
  Con Tryz.prog W0 135 #[pv q0, u1] [storeW q0 ts2, sl 3 1 u1 1 [iv ((n : Nat) : Int)]] (X := Unit) (fun _ => True) (fun _ => Value.tuple #[iv ((n : Nat) : Int), iv 0]) (fun _ => [storeW q0 ts2, sl 3 1 u1 1 [iv ((n : Nat) : Int)]]) := by
 refine Con.of (args := [pv q0, u1]) Tryz.func135 rfl Tryz.ntmps135 rfl (fun F => ?_)
 show Wc _ W0 _ _ _ _ _ ((storeW q0 ts2) :: (sl 3 1 u1 1 [iv ((n : Nat) : Int)]) :: F)
 refine Wc.seq ?_
 refine Wc.region ?_
 refine Wl.q (v := iv 0) (q_assign rfl) ?_
 refine Wl.q (v := iv 0) (q_assign rfl) ?_
 refine Wl.done ?_
 refine Wx.go ?_
 refine Wc.seq ?_
 refine Wc.seq ?_
 refine Wc.region ?_
 refine Wl.q (v := pv q0) (q_move rfl) ?_
 refine Wl.e (e_call (F := (sl 3 1 u1 1 [iv ((n : Nat) : Int)]) :: F) (args := [pv q0]) Tryz.call132 rfl (made_w W0 q0 ts2)) (fun _ _ => ?_)
 refine Wl.imp (L' := (storeW q0 ts2) :: (sl 3 1 u1 1 [iv ((n : Nat) : Int)]) :: F) (fun _ h => h) ?_
 refine Wl.q (v := Value.bool false) (q_not rfl rfl) ?_
 refine Wl.done ?_
 refine Wx.go ?_
 refine Wc.no rfl ?_
 refine Wc.skip ?_
 refine Wx.go ?_
 refine Wc.seq ?_
 refine Wc.seq ?_
 refine Wc.region ?_
 refine Wl.q (v := u1) (q_move rfl) ?_
 refine Wl.q (v := iv 1) (q_len_sl (i := 1) Tryz.underlying23 rfl rfl) ?_
 refine Wl.q (v := iv 0) (q_move rfl) ?_
 refine Wl.done ?_
 refine Wx.go ?_
 refine Wc.block ?_
 refine Wc.rounds 64 ?_
 refine Wn.round ?_
 refine Wc.seq ?_
 refine Wc.region ?_
 refine Wl.q (v := Value.bool true) (q_lss (r := true) rfl rfl (decide_eq_true (by decide))) ?_
 refine Wl.done ?_
 refine Wx.go ?_
 refine Wc.seq ?_
 refine Wc.yes rfl ?_
 refine Wc.skip ?_
 refine Wx.go ?_
 refine Wc.seq ?_
 refine Wc.block ?_
 refine Wc.seq ?_
 refine Wc.region ?_
 refine Wl.sl (i := 1) (m := 1) rfl (by decide) (fun b1 c2 hv3 hc4 => ?_)
 subst hv3
 refine Wl.imp (L' := (storeW q0 ts2) :: (slp 3 1 b1 c2 [iv ((n : Nat) : Int)]) :: F) (fun _ h => h) ?_
 refine Wl.q (v := pv b1) (q_idx (m := 0) se_23 rfl rfl (by omega) (by omega) rfl) ?_
 refine Wl.q (v := iv ((n : Nat) : Int)) (q_load sc_3 rfl (.row (i := 1) rfl rfl)) ?_
 refine Wl.q (v := iv ((n : Nat) : Int)) (q_assign rfl) ?_
 refine Wl.done ?_
 refine Wx.go ?_
 refine Wc.seq ?_
 refine Wc.region ?_
 refine Wl.q (v := pv q0) (q_move rfl) ?_
 refine Wl.q (v := iv ((n : Nat) : Int)) (q_move rfl) ?_
 refine Wl.e (e_call (F := (slp 3 1 b1 c2 [iv ((n : Nat) : Int)]) :: F) (args := [pv q0, iv ((n : Nat) : Int)]) Tryz.call143 rfl (there_w W0 q0 ts2 ((n : Nat) : Int) true (decide_eq_true (by omega)))) (fun _ _ => ?_)
 refine Wl.imp (L' := (storeW q0 ts2) :: (slp 3 1 b1 c2 [iv ((n : Nat) : Int)]) :: F) (fun _ h => h) ?_
 refine Wl.q (v := Value.bool false) (q_not rfl rfl) ?_
 refine Wl.done ?_
 refine Wx.go ?_
 refine Wc.no rfl ?_
 refine Wc.skip ?_
 refine Wx.blockEnd ?_
 refine Wx.go ?_
 refine Wc.region ?_
 refine Wl.q (v := iv 1) (q_add (c := 1) rfl rfl (by decide)) ?_
 refine Wl.q (v := iv 1) (q_move rfl) ?_
 refine Wl.done ?_
 refine Wx.again ?_
 refine Wn.round ?_
 refine Wc.seq ?_
 refine Wc.region ?_
 refine Wl.q (v := Value.bool false) (q_lss (r := false) rfl rfl (decide_eq_false (by decide))) ?_
 refine Wl.done ?_
 refine Wx.go ?_
 refine Wc.seq ?_
 refine Wc.no rfl ?_
 refine Wc.exit ?_
 refine Wx.thenExit ?_
 refine Wx.thenExit ?_
 refine Wx.out ?_
 refine Wx.go ?_
 refine Wc.seq ?_
 refine Wc.seq ?_
 refine Wc.region ?_
 refine Wl.q (v := Value.slice (some ⟨b1, 0, none⟩) 1 c2) (q_move rfl) ?_
 refine Wl.q (v := iv 1) (q_len_slice Tryz.underlying23 rfl) ?_
 refine Wl.q (v := Value.bool false) (q_eql (r := false) rfl rfl (decide_eq_false (by decide))) ?_
 refine Wl.done ?_
 refine Wx.go ?_
 refine Wc.no rfl ?_
 refine Wc.skip ?_
 refine Wx.go ?_
 refine Wc.seq ?_
 refine Wc.region ?_
 refine Wl.q (v := Value.slice (some ⟨b1, 0, none⟩) 1 c2) (q_move rfl) ?_
 refine Wl.q (v := Value.slice (some ⟨b1, 0, none⟩) 1 c2) (q_move rfl) ?_
 refine Wl.q (v := iv 1) (q_len_slice Tryz.underlying23 rfl) ?_
 refine Wl.q (v := iv 0) (q_sub (c := 0) rfl rfl (by decide)) ?_
 refine Wl.q (v := pv b1) (q_idx (m := 0) se_23 rfl rfl (by omega) (by omega) rfl) ?_
 refine Wl.q (v := iv ((n : Nat) : Int)) (q_load sc_3 rfl (.row (i := 1) rfl rfl)) ?_
 refine Wl.q (v := iv ((n : Nat) : Int)) (q_assign rfl) ?_
 refine Wl.done ?_
 refine Wx.go ?_
 refine Wc.seq ?_
 refine Wc.seq ?_
 refine Wc.region ?_
 refine Wl.q (v := Value.slice (some ⟨b1, 0, none⟩) 1 c2) (q_move rfl) ?_
 refine Wl.q (v := iv 1) (q_len_slice Tryz.underlying23 rfl) ?_
 refine Wl.q (v := iv (-1)) (q_sub (c := (-1)) rfl rfl (by decide)) ?_
 refine Wl.q (v := iv (-1)) (q_assign rfl) ?_
 refine Wl.done ?_
 refine Wx.go ?_
 refine Wc.block ?_
 refine Wc.rounds 64 ?_
 refine Wn.round ?_
 refine Wc.seq ?_
 refine Wc.seq ?_
 refine Wc.region ?_
 refine Wl.q (v := iv (-1)) (q_move rfl) ?_
 refine Wl.q (v := Value.bool false) (q_geq (r := false) rfl rfl (decide_eq_false (by decide))) ?_
 refine Wl.done ?_
 refine Wx.go ?_
 refine Wc.no rfl ?_
 refine Wc.exit ?_
 refine Wx.thenExit ?_
 refine Wx.thenExit ?_
 refine Wx.out ?_
 refine Wx.go ?_
 refine Wc.seq ?_
 refine Wc.region ?_
 refine Wl.q (v := iv ((n : Nat) : Int)) (q_move rfl) ?_
 refine Wl.q (v := iv ((n : Nat) : Int)) (q_assign rfl) ?_
 refine Wl.q (v := iv 0) (q_assign rfl) ?_
 refine Wl.done ?_
 refine Wx.go ?_
 refine Wc.ret ?_
 refine Wx.fin2 rfl (.inl rfl) (fun w hs => ?_)
 have hs : st W0 w ((storeW q0 ts2) :: (slp 3 1 b1 c2 [iv ((n : Nat) : Int)]) :: F) := hs
 have hs : st W0 w ((sl 3 1 (Value.slice (some ⟨b1, 0, none⟩) 1 c2) 1 [iv ((n : Nat) : Int)]) :: (storeW q0 ts2) :: F) := st_sl_mk rfl hc4 (st_pull [1] hs)
 have hs : st W0 w ((storeW q0 ts2) :: (sl 3 1 (Value.slice (some ⟨b1, 0, none⟩) 1 c2) 1 [iv ((n : Nat) : Int)]) :: F) := st_pull [1, 0] hs
 exact ⟨(), trivial, rfl, hs⟩

set_option maxRecDepth 8000 in
set_option maxHeartbeats 4000000 in
theorem da1_Data (W0 : World) (ts ts2 : List TermR) (x : Int) (n : Nat) (ht : okT ⟨2, x, 0, 0⟩) (h : mk ts ⟨2, x, 0, 0⟩ = (ts2, n, 0)) (hn : 1 ≤ n ∧ n ≤ ts2.length) (s : Nat) (vb : Nat)  :
  Con Tryz.prog W0 136 #[pv s, Value.slice (some ⟨vb, 0, none⟩) 1 1] [storeW s ts, pt vb 2 [iv x]] (X := Unit) (fun _ => True) (fun _ => Value.tuple #[iv ((n : Nat) : Int), iv 0]) (fun _ => [storeW s ts2, pt vb 2 [iv x]]) := by
 refine Con.of (args := [pv s, Value.slice (some ⟨vb, 0, none⟩) 1 1]) Tryz.func136 rfl Tryz.ntmps136 rfl (fun F => ?_)
 show Wc _ W0 _ _ _ _ _ ((storeW s ts) :: (pt vb 2 [iv x]) :: F)
 refine Wc.seq ?_
 refine Wc.region ?_
 refine Wl.q (v := iv 0) (q_assign rfl) ?_
 refine Wl.q (v := iv 0) (q_assign rfl) ?_
 refine Wl.done ?_
 refine Wx.go ?_
 refine Wc.seq ?_
 refine Wc.seq ?_
 refine Wc.region ?_
 refine Wl.q (v := pv s) (q_move rfl) ?_
 refine Wl.e (e_call (F := (pt vb 2 [iv x]) :: F) (args := [pv s]) Tryz.call132 rfl (made_w W0 s ts)) (fun _ _ => ?_)
 refine Wl.imp (L' := (storeW s ts) :: (pt vb 2 [iv x]) :: F) (fun _ h => h) ?_
 refine Wl.q (v := Value.bool false) (q_not rfl rfl) ?_
 refine Wl.done ?_
 refine Wx.go ?_
 refine Wc.no rfl ?_
 refine Wc.skip ?_
 refine Wx.go ?_
 refine Wc.seq ?_
 refine Wc.region ?_
 refine Wl.q (v := Value.slice none 0 0) (q_assign rfl) ?_
 refine Wl.done ?_
 refine Wx.go ?_
 refine Wc.seq ?_
 refine Wc.seq ?_
 refine Wc.region ?_
 refine Wl.q (v := Value.slice (some ⟨vb, 0, none⟩) 1 1) (q_move rfl) ?_
 refine Wl.q (v := iv 1) (q_len_slice Tryz.underlying129 rfl) ?_
 refine Wl.q (v := iv 0) (q_move rfl) ?_
 refine Wl.done ?_
 refine Wx.go ?_
 refine Wc.block ?_
 refine Wc.rounds 64 ?_
 refine Wn.round ?_
 refine Wc.seq ?_
 refine Wc.region ?_
 refine Wl.q (v := Value.bool true) (q_lss (r := true) rfl rfl (decide_eq_true (by decide))) ?_
 refine Wl.done ?_
 refine Wx.go ?_
 refine Wc.seq ?_
 refine Wc.yes rfl ?_
 refine Wc.skip ?_
 refine Wx.go ?_
 refine Wc.seq ?_
 refine Wc.block ?_
 refine Wc.seq ?_
 refine Wc.region ?_
 refine Wl.q (v := pv vb) (q_idx (m := 0) se_129 rfl rfl (by omega) (by omega) rfl) ?_
 refine Wl.q (v := iv x) (q_load sc_2 rfl (.cel (i := 1) rfl rfl)) ?_
 refine Wl.q (v := iv x) (q_assign rfl) ?_
 refine Wl.done ?_
 refine Wx.go ?_
 refine Wc.seq ?_
 refine Wc.region ?_
 refine Wl.q (v := pv s) (q_move rfl) ?_
 refine Wl.q (v := iv x) (q_move rfl) ?_
 refine Wl.q (v := Value.agg #[Value.int .u8 2, iv x, iv 0, iv 0]) (q_build (pl := [(0, 1), (1, 1), (2, 1), (3, 1)]) Tryz.underlying89 zo_89 (by kernel_rfl) (by kernel_rfl)) ?_
 refine Wl.e (e_call (F := (pt vb 2 [iv x]) :: F) (args := [pv s, Value.agg #[Value.int .u8 2, iv x, iv 0, iv 0]]) Tryz.call18 rfl (make_w W0 s ts ts2 (⟨2, x, 0, 0⟩ : TermR) n _ 0 ht h rfl)) (fun _ _ => ?_)
 refine Wl.imp (L' := (storeW s ts2) :: (pt vb 2 [iv x]) :: F) (fun _ h => h) ?_
 refine Wl.q (v := Value.tuple #[iv ((n : Nat) : Int), iv 0]) (q_move rfl) ?_
 refine Wl.q (v := iv ((n : Nat) : Int)) (q_extract (i := 0) rfl rfl) ?_
 refine Wl.q (v := iv 0) (q_extract (i := 1) rfl rfl) ?_
 refine Wl.q (v := iv ((n : Nat) : Int)) (q_assign rfl) ?_
 refine Wl.q (v := iv 0) (q_assign rfl) ?_
 refine Wl.done ?_
 refine Wx.go ?_
 refine Wc.seq ?_
 refine Wc.seq ?_
 refine Wc.region ?_
 refine Wl.q (v := iv 0) (q_move rfl) ?_
 refine Wl.q (v := Value.bool false) (q_neq (r := true) rfl rfl (decide_eq_true (by decide))) ?_
 refine Wl.done ?_
 refine Wx.go ?_
 refine Wc.no rfl ?_
 refine Wc.skip ?_
 refine Wx.go ?_
 refine Wc.region ?_
 refine Wl.q (v := Value.slice none 0 0) (q_move rfl) ?_
 refine Wl.q (v := iv ((n : Nat) : Int)) (q_move rfl) ?_
 refine Wl.e (e_buildSlice (cs := [iv ((n : Nat) : Int)]) se_23 zo_3 (by decide) (by decide) (by kernel_rfl)) (fun b1 _ => ?_)
 refine Wl.imp (L' := (sl 3 1 (Value.slice none 0 0) 0 []) :: (pt b1 3 [iv ((n : Nat) : Int)]) :: (storeW s ts2) :: (pt vb 2 [iv x]) :: F) (fun w hs => st_sl_nil hs) ?_
 refine Wl.e (e_append (i := 0) (k := 1) (m := 1) (off := 0) (news := [iv ((n : Nat) : Int)]) Tryz.underlying23 sz_3 by_3 zo_3 rfl rfl rfl rfl rfl (Has.of_pt (i := 1) rfl rfl) rfl (by decide) (by simp only [maxLen]; omega) (by omega)) (fun v2 _ => ?_)
 refine Wl.imp (L' := (sl 3 1 v2 1 [iv ((n : Nat) : Int)]) :: (pt b1 3 [iv ((n : Nat) : Int)]) :: (storeW s ts2) :: (pt vb 2 [iv x]) :: F) (fun _ h => h) ?_
 refine Wl.q (v := v2) (q_assign rfl) ?_
 refine Wl.done ?_
 refine Wx.blockEnd ?_
 refine Wx.go ?_
 refine Wc.region ?_
 refine Wl.q (v := iv 1) (q_add (c := 1) rfl rfl (by decide)) ?_
 refine Wl.q (v := iv 1) (q_move rfl) ?_
 refine Wl.done ?_
 refine Wx.again ?_
 refine Wn.round ?_
 refine Wc.imp (L' := (sl 3 1 v2 1 [iv ((n : Nat) : Int)]) :: (storeW s ts2) :: (pt vb 2 [iv x]) :: F) (fun w hs => (st_drop (st_pull [1] hs))) ?_
 refine Wc.seq ?_
 refine Wc.region ?_
 refine Wl.q (v := Value.bool false) (q_lss (r := false) rfl rfl (decide_eq_false (by decide))) ?_
 refine Wl.done ?_
 refine Wx.go ?_
 refine Wc.seq ?_
 refine Wc.no rfl ?_
 refine Wc.exit ?_
 refine Wx.thenExit ?_
 refine Wx.thenExit ?_
 refine Wx.out ?_
 refine Wx.go ?_
 refine Wc.seq ?_
 refine Wc.region ?_
 refine Wl.q (v := pv s) (q_move rfl) ?_
 refine Wl.q (v := v2) (q_move rfl) ?_
 refine Wl.imp (L' := (storeW s ts2) :: (sl 3 1 v2 1 [iv ((n : Nat) : Int)]) :: (pt vb 2 [iv x]) :: F) (fun _ h => st_pull [1, 0] h) ?_
 refine Wl.e (e_call (F := (pt vb 2 [iv x]) :: F) (args := [pv s, v2]) Tryz.call135 rfl (da2_List W0 ts ts2 x n ht h hn s v2)) (fun _ _ => ?_)
 refine Wl.imp (L' := (storeW s ts2) :: (sl 3 1 v2 1 [iv ((n : Nat) : Int)]) :: (pt vb 2 [iv x]) :: F) (fun _ h => h) ?_
 refine Wl.q (v := iv ((n : Nat) : Int)) (q_extract (i := 0) rfl rfl) ?_
 refine Wl.q (v := iv 0) (q_extract (i := 1) rfl rfl) ?_
 refine Wl.q (v := iv ((n : Nat) : Int)) (q_assign rfl) ?_
 refine Wl.q (v := iv 0) (q_assign rfl) ?_
 refine Wl.done ?_
 refine Wx.go ?_
 refine Wc.ret ?_
 refine Wx.fin2 rfl (.inl rfl) (fun w hs => ?_)
 have hs : st W0 w ((storeW s ts2) :: (pt vb 2 [iv x]) :: F) := (st_drop (st_pull [1] hs))
 exact ⟨(), trivial, rfl, hs⟩

end Go.Proofs.YtjjghmkjdgogiaaGreatDoor
