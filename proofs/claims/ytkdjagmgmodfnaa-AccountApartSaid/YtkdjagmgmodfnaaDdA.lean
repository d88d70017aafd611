/- What follows: contracts of the calls. -/
import Derived.Test.YtkdjagmgmodfnaaDdW
import Derived.Test.YtkdjagmgmodfnaaDdN
import Derived.Test.YtkdjagmgmodfnaaAcQ
namespace Go.Proofs.Ytkdjagmgmodfnaa
open Go Go.SL Go.Dd Go.RowKit
set_option linter.unusedVariables false
set_option maxRecDepth 8000
theorem se_77 : sliceElem Try.prog 77 = some (2, 1) := by kernel_rfl
theorem fo_56_0 : fieldOff Try.prog 56 0 = some 0 := by kernel_rfl
theorem zo_2 : zeroOf Try.prog 2 = some (Value.int .i64 0) := by kernel_rfl
theorem fo_56_2 : fieldOff Try.prog 56 2 = some 2 := by kernel_rfl
theorem sc_33 : scalar Try.prog 33 = true := by kernel_rfl
theorem sz_33 : sizeIs Try.prog 33 = some 1 := by kernel_rfl
theorem fo_56_1 : fieldOff Try.prog 56 1 = some 1 := by kernel_rfl
theorem zo_56 : zeroOf Try.prog 56 = some (Value.agg #[Value.pointer none, Value.slice none 0 0, Value.int .i64 0]) := by kernel_rfl
theorem list0_w (W0 : World) (s : Nat) (ts : List TermR) : Con Try.prog W0 28 #[.pointer (some ⟨s, 0, none⟩), .slice none 0 0] [storeW s ts] (X := Unit) (fun _ => True) (fun _ => .tuple #[.int .i64 0, .int .i64 0]) (fun _ => [storeW s ts]) := Con.storeW fun hw hl =>
  (list0_c W0 s ts).mono fun _ _ => ⟨(), trivial, rfl, fun _ _ hs => storeW_mk hw hl hs⟩

set_option maxRecDepth 8000 in
set_option maxHeartbeats 4000000 in
theorem da2_List (W0 : World) (ts ts2 : List TermR) (x : Int) (n : Nat) (ht : okT ⟨2, x, 0, 0⟩) (h : mk ts ⟨2, x, 0, 0⟩ = (ts2, n, 0)) (hn : 1 ≤ n ∧ n ≤ ts2.length) (q0 : Nat) (u1 : Value)  :
    Con Try.prog W0 28 #[pv q0, u1] [storeW q0 ts2, sl 3 1 u1 1 [iv ((n : Nat) : Int)]] (X := Unit) (fun _ => True) (fun _ => Value.tuple #[iv ((n : Nat) : Int), iv 0]) (fun _ => [storeW q0 ts2, sl 3 1 u1 1 [iv ((n : Nat) : Int)]]) := by
  refine Con.of (args := [pv q0, u1]) Try.func28 rfl Try.ntmps28 rfl (fun F => ?_)
  show Wc _ W0 _ _ _ _ _ ((storeW q0 ts2) :: (sl 3 1 u1 1 [iv ((n : Nat) : Int)]) :: F)
  refine Wc.seq ?_
  refine Wc.region ?_
  refine Wl.q (v := iv 0) (q_assign rfl) ?_
  refine Wl.q (v := iv 0) (q_assign rfl) ?_
  refine Wl.done ?_
  refine Wx.go ?_
  refine Wc.seq ?_
  refine Wc.seq ?_
  refine Wc.region ?_
  refine Wl.q (v := pv q0) (q_move rfl) ?_
  refine Wl.e (e_call (F := (sl 3 1 u1 1 [iv ((n : Nat) : Int)]) :: F) (args := [pv q0]) Try.call25 rfl (made_w W0 q0 ts2)) (fun _ _ => ?_)
  refine Wl.imp (L' := (storeW q0 ts2) :: (sl 3 1 u1 1 [iv ((n : Nat) : Int)]) :: F) (fun _ h => h) ?_
  refine Wl.q (v := Value.bool false) (q_not rfl rfl) ?_
  refine Wl.done ?_
  refine Wx.go ?_
  refine Wc.no rfl ?_
  refine Wc.skip ?_
  refine Wx.go ?_
  refine Wc.seq ?_
  refine Wc.seq ?_
  refine Wc.region ?_
  refine Wl.q (v := u1) (q_move rfl) ?_
  refine Wl.q (v := iv 1) (q_len_sl (i := 1) Try.underlying22 rfl rfl) ?_
  refine Wl.q (v := iv 0) (q_move rfl) ?_
  refine Wl.done ?_
  refine Wx.go ?_
  refine Wc.block ?_
  refine Wc.rounds 64 ?_
  refine Wn.round ?_
  refine Wc.seq ?_
  refine Wc.region ?_
  refine Wl.q (v := Value.bool true) (q_lss (r := true) rfl rfl (decide_eq_true (by decide))) ?_
  refine Wl.done ?_
  refine Wx.go ?_
  refine Wc.seq ?_
  refine Wc.yes rfl ?_
  refine Wc.skip ?_
  refine Wx.go ?_
  refine Wc.seq ?_
  refine Wc.block ?_
  refine Wc.seq ?_
  refine Wc.region ?_
  refine Wl.sl (i := 1) (m := 1) rfl (by decide) (fun b1 c2 hv3 hc4 => ?_)
  subst hv3
  refine Wl.imp (L' := (storeW q0 ts2) :: (slp 3 1 b1 c2 [iv ((n : Nat) : Int)]) :: F) (fun _ h => h) ?_
  refine Wl.q (v := pv b1) (q_idx (m := 0) se_22 rfl rfl (by omega) (by omega) rfl) ?_
  refine Wl.q (v := iv ((n : Nat) : Int)) (q_load sc_3 rfl (.row (i := 1) rfl rfl)) ?_
  refine Wl.q (v := iv ((n : Nat) : Int)) (q_assign rfl) ?_
  refine Wl.done ?_
  refine Wx.go ?_
  refine Wc.seq ?_
  refine Wc.region ?_
  refine Wl.q (v := pv q0) (q_move rfl) ?_
  refine Wl.q (v := iv ((n : Nat) : Int)) (q_move rfl) ?_
  refine Wl.e (e_call (F := (slp 3 1 b1 c2 [iv ((n : Nat) : Int)]) :: F) (args := [pv q0, iv ((n : Nat) : Int)]) Try.call33 rfl (there_w W0 q0 ts2 ((n : Nat) : Int) true (decide_eq_true (by omega)))) (fun _ _ => ?_)
  refine Wl.imp (L' := (storeW q0 ts2) :: (slp 3 1 b1 c2 [iv ((n : Nat) : Int)]) :: F) (fun _ h => h) ?_
  refine Wl.q (v := Value.bool false) (q_not rfl rfl) ?_
  refine Wl.done ?_
  refine Wx.go ?_
  refine Wc.no rfl ?_
  refine Wc.skip ?_
  refine Wx.blockEnd ?_
  refine Wx.go ?_
  refine Wc.region ?_
  refine Wl.q (v := iv 1) (q_add (c := 1) rfl rfl (by decide)) ?_
  refine Wl.q (v := iv 1) (q_move rfl) ?_
  refine Wl.done ?_
  refine Wx.again ?_
  refine Wn.round ?_
  refine Wc.seq ?_
  refine Wc.region ?_
  refine Wl.q (v := Value.bool false) (q_lss (r := false) rfl rfl (decide_eq_false (by decide))) ?_
  refine Wl.done ?_
  refine Wx.go ?_
  refine Wc.seq ?_
  refine Wc.no rfl ?_
  refine Wc.exit ?_
  refine Wx.thenExit ?_
  refine Wx.thenExit ?_
  refine Wx.out ?_
  refine Wx.go ?_
  refine Wc.seq ?_
  refine Wc.seq ?_
  refine Wc.region ?_
  refine Wl.q (v := Value.slice (some ⟨b1, 0, none⟩) 1 c2) (q_move rfl) ?_
  refine Wl.q (v := iv 1) (q_len_slice Try.underlying22 rfl) ?_
  refine Wl.q (v := Value.bool false) (q_eql (r := false) rfl rfl (decide_eq_false (by decide))) ?_
  refine Wl.done ?_
  refine Wx.go ?_
  refine Wc.no rfl ?_
  refine Wc.skip ?_
  refine Wx.go ?_
  refine Wc.seq ?_
  refine Wc.region ?_
  refine Wl.q (v := Value.slice (some ⟨b1, 0, none⟩) 1 c2) (q_move rfl) ?_
  refine Wl.q (v := Value.slice (some ⟨b1, 0, none⟩) 1 c2) (q_move rfl) ?_
  refine Wl.q (v := iv 1) (q_len_slice Try.underlying22 rfl) ?_
  refine Wl.q (v := iv 0) (q_sub (c := 0) rfl rfl (by decide)) ?_
  refine Wl.q (v := pv b1) (q_idx (m := 0) se_22 rfl rfl (by omega) (by omega) rfl) ?_
  refine Wl.q (v := iv ((n : Nat) : Int)) (q_load sc_3 rfl (.row (i := 1) rfl rfl)) ?_
  refine Wl.q (v := iv ((n : Nat) : Int)) (q_assign rfl) ?_
  refine Wl.done ?_
  refine Wx.go ?_
  refine Wc.seq ?_
  refine Wc.seq ?_
  refine Wc.region ?_
  refine Wl.q (v := Value.slice (some ⟨b1, 0, none⟩) 1 c2) (q_move rfl) ?_
  refine Wl.q (v := iv 1) (q_len_slice Try.underlying22 rfl) ?_
  refine Wl.q (v := iv (-1)) (q_sub (c := (-1)) rfl rfl (by decide)) ?_
  refine Wl.q (v := iv (-1)) (q_assign rfl) ?_
  refine Wl.done ?_
  refine Wx.go ?_
  refine Wc.block ?_
  refine Wc.rounds 64 ?_
  refine Wn.round ?_
  refine Wc.seq ?_
  refine Wc.seq ?_
  refine Wc.region ?_
  refine Wl.q (v := iv (-1)) (q_move rfl) ?_
  refine Wl.q (v := Value.bool false) (q_geq (r := false) rfl rfl (decide_eq_false (by decide))) ?_
  refine Wl.done ?_
  refine Wx.go ?_
  refine Wc.no rfl ?_
  refine Wc.exit ?_
  refine Wx.thenExit ?_
  refine Wx.thenExit ?_
  refine Wx.out ?_
  refine Wx.go ?_
  refine Wc.seq ?_
  refine Wc.region ?_
  refine Wl.q (v := iv ((n : Nat) : Int)) (q_move rfl) ?_
  refine Wl.q (v := iv ((n : Nat) : Int)) (q_assign rfl) ?_
  refine Wl.q (v := iv 0) (q_assign rfl) ?_
  refine Wl.done ?_
  refine Wx.go ?_
  refine Wc.ret ?_
  refine Wx.fin2 rfl (.inl rfl) (fun w hs => ?_)
  have hs : st W0 w ((storeW q0 ts2) :: (slp 3 1 b1 c2 [iv ((n : Nat) : Int)]) :: F) := hs
  have hs : st W0 w ((sl 3 1 (Value.slice (some ⟨b1, 0, none⟩) 1 c2) 1 [iv ((n : Nat) : Int)]) :: (storeW q0 ts2) :: F) := st_sl_mk rfl hc4 (st_pull [1] hs)
  have hs : st W0 w ((storeW q0 ts2) :: (sl 3 1 (Value.slice (some ⟨b1, 0, none⟩) 1 c2) 1 [iv ((n : Nat) : Int)]) :: F) := st_pull [1, 0] hs
  exact ⟨(), trivial, rfl, hs⟩

set_option maxRecDepth 8000 in
set_option maxHeartbeats 4000000 in
theorem da1_Data (W0 : World) (ts ts2 : List TermR) (x : Int) (n : Nat) (ht : okT ⟨2, x, 0, 0⟩) (h : mk ts ⟨2, x, 0, 0⟩ = (ts2, n, 0)) (hn : 1 ≤ n ∧ n ≤ ts2.length) (s : Nat) (vb : Nat)  :
    Con Try.prog W0 30 #[pv s, Value.slice (some ⟨vb, 0, none⟩) 1 1] [storeW s ts, pt vb 2 [iv x]] (X := Unit) (fun _ => True) (fun _ => Value.tuple #[iv ((n : Nat) : Int), iv 0]) (fun _ => [storeW s ts2, pt vb 2 [iv x]]) := by
  refine Con.of (args := [pv s, Value.slice (some ⟨vb, 0, none⟩) 1 1]) Try.func30 rfl Try.ntmps30 rfl (fun F => ?_)
  show Wc _ W0 _ _ _ _ _ ((storeW s ts) :: (pt vb 2 [iv x]) :: F)
  refine Wc.seq ?_
  refine Wc.region ?_
  refine Wl.q (v := iv 0) (q_assign rfl) ?_
  refine Wl.q (v := iv 0) (q_assign rfl) ?_
  refine Wl.done ?_
  refine Wx.go ?_
  refine Wc.seq ?_
  refine Wc.seq ?_
  refine Wc.region ?_
  refine Wl.q (v := pv s) (q_move rfl) ?_
  refine Wl.e (e_call (F := (pt vb 2 [iv x]) :: F) (args := [pv s]) Try.call25 rfl (made_w W0 s ts)) (fun _ _ => ?_)
  refine Wl.imp (L' := (storeW s ts) :: (pt vb 2 [iv x]) :: F) (fun _ h => h) ?_
  refine Wl.q (v := Value.bool false) (q_not rfl rfl) ?_
  refine Wl.done ?_
  refine Wx.go ?_
  refine Wc.no rfl ?_
  refine Wc.skip ?_
  refine Wx.go ?_
  refine Wc.seq ?_
  refine Wc.region ?_
  refine Wl.q (v := Value.slice none 0 0) (q_assign rfl) ?_
  refine Wl.done ?_
  refine Wx.go ?_
  refine Wc.seq ?_
  refine Wc.seq ?_
  refine Wc.region ?_
  refine Wl.q (v := Value.slice (some ⟨vb, 0, none⟩) 1 1) (q_move rfl) ?_
  refine Wl.q (v := iv 1) (q_len_slice Try.underlying77 rfl) ?_
  refine Wl.q (v := iv 0) (q_move rfl) ?_
  refine Wl.done ?_
  refine Wx.go ?_
  refine Wc.block ?_
  refine Wc.rounds 64 ?_
  refine Wn.round ?_
  refine Wc.seq ?_
  refine Wc.region ?_
  refine Wl.q (v := Value.bool true) (q_lss (r := true) rfl rfl (decide_eq_true (by decide))) ?_
  refine Wl.done ?_
  refine Wx.go ?_
  refine Wc.seq ?_
  refine Wc.yes rfl ?_
  refine Wc.skip ?_
  refine Wx.go ?_
  refine Wc.seq ?_
  refine Wc.block ?_
  refine Wc.seq ?_
  refine Wc.region ?_
  refine Wl.q (v := pv vb) (q_idx (m := 0) se_77 rfl rfl (by omega) (by omega) rfl) ?_
  refine Wl.q (v := iv x) (q_load sc_2 rfl (.cel (i := 1) rfl rfl)) ?_
  refine Wl.q (v := iv x) (q_assign rfl) ?_
  refine Wl.done ?_
  refine Wx.go ?_
  refine Wc.seq ?_
  refine Wc.region ?_
  refine Wl.q (v := pv s) (q_move rfl) ?_
  refine Wl.q (v := iv x) (q_move rfl) ?_
  refine Wl.q (v := Value.agg #[Value.int .u8 2, iv x, iv 0, iv 0]) (q_build (pl := [(0, 1), (1, 1), (2, 1), (3, 1)]) Try.underlying31 zo_31 (by kernel_rfl) (by kernel_rfl)) ?_
  refine Wl.e (e_call (F := (pt vb 2 [iv x]) :: F) (args := [pv s, Value.agg #[Value.int .u8 2, iv x, iv 0, iv 0]]) Try.call15 rfl (make_w W0 s ts ts2 (⟨2, x, 0, 0⟩ : TermR) n _ 0 ht h rfl)) (fun _ _ => ?_)
  refine Wl.imp (L' := (storeW s ts2) :: (pt vb 2 [iv x]) :: F) (fun _ h => h) ?_
  refine Wl.q (v := Value.tuple #[iv ((n : Nat) : Int), iv 0]) (q_move rfl) ?_
  refine Wl.q (v := iv ((n : Nat) : Int)) (q_extract (i := 0) rfl rfl) ?_
  refine Wl.q (v := iv 0) (q_extract (i := 1) rfl rfl) ?_
  refine Wl.q (v := iv ((n : Nat) : Int)) (q_assign rfl) ?_
  refine Wl.q (v := iv 0) (q_assign rfl) ?_
  refine Wl.done ?_
  refine Wx.go ?_
  refine Wc.seq ?_
  refine Wc.seq ?_
  refine Wc.region ?_
  refine Wl.q (v := iv 0) (q_move rfl) ?_
  refine Wl.q (v := Value.bool false) (q_neq (r := true) rfl rfl (decide_eq_true (by decide))) ?_
  refine Wl.done ?_
  refine Wx.go ?_
  refine Wc.no rfl ?_
  refine Wc.skip ?_
  refine Wx.go ?_
  refine Wc.region ?_
  refine Wl.q (v := Value.slice none 0 0) (q_move rfl) ?_
  refine Wl.q (v := iv ((n : Nat) : Int)) (q_move rfl) ?_
  refine Wl.e (e_buildSlice (cs := [iv ((n : Nat) : Int)]) se_22 zo_3 (by decide) (by decide) (by kernel_rfl)) (fun b1 _ => ?_)
  refine Wl.imp (L' := (sl 3 1 (Value.slice none 0 0) 0 []) :: (pt b1 3 [iv ((n : Nat) : Int)]) :: (storeW s ts2) :: (pt vb 2 [iv x]) :: F) (fun w hs => st_sl_nil hs) ?_
  refine Wl.e (e_append (i := 0) (k := 1) (m := 1) (off := 0) (news := [iv ((n : Nat) : Int)]) Try.underlying22 sz_3 by_3 zo_3 rfl rfl rfl rfl rfl (Has.of_pt (i := 1) rfl rfl) rfl (by decide) (by simp only [maxLen]; omega) (by omega)) (fun v2 _ => ?_)
  refine Wl.imp (L' := (sl 3 1 v2 1 [iv ((n : Nat) : Int)]) :: (pt b1 3 [iv ((n : Nat) : Int)]) :: (storeW s ts2) :: (pt vb 2 [iv x]) :: F) (fun _ h => h) ?_
  refine Wl.q (v := v2) (q_assign rfl) ?_
  refine Wl.done ?_
  refine Wx.blockEnd ?_
  refine Wx.go ?_
  refine Wc.region ?_
  refine Wl.q (v := iv 1) (q_add (c := 1) rfl rfl (by decide)) ?_
  refine Wl.q (v := iv 1) (q_move rfl) ?_
  refine Wl.done ?_
  refine Wx.again ?_
  refine Wn.round ?_
  refine Wc.imp (L' := (sl 3 1 v2 1 [iv ((n : Nat) : Int)]) :: (storeW s ts2) :: (pt vb 2 [iv x]) :: F) (fun w hs => (st_drop (st_pull [1] hs))) ?_
  refine Wc.seq ?_
  refine Wc.region ?_
  refine Wl.q (v := Value.bool false) (q_lss (r := false) rfl rfl (decide_eq_false (by decide))) ?_
  refine Wl.done ?_
  refine Wx.go ?_
  refine Wc.seq ?_
  refine Wc.no rfl ?_
  refine Wc.exit ?_
  refine Wx.thenExit ?_
  refine Wx.thenExit ?_
  refine Wx.out ?_
  refine Wx.go ?_
  refine Wc.seq ?_
  refine Wc.region ?_
  refine Wl.q (v := pv s) (q_move rfl) ?_
  refine Wl.q (v := v2) (q_move rfl) ?_
  refine Wl.imp (L' := (storeW s ts2) :: (sl 3 1 v2 1 [iv ((n : Nat) : Int)]) :: (pt vb 2 [iv x]) :: F) (fun _ h => st_pull [1, 0] h) ?_
  refine Wl.e (e_call (F := (pt vb 2 [iv x]) :: F) (args := [pv s, v2]) Try.call28 rfl (da2_List W0 ts ts2 x n ht h hn s v2)) (fun _ _ => ?_)
  refine Wl.imp (L' := (storeW s ts2) :: (sl 3 1 v2 1 [iv ((n : Nat) : Int)]) :: (pt vb 2 [iv x]) :: F) (fun _ h => h) ?_
  refine Wl.q (v := iv ((n : Nat) : Int)) (q_extract (i := 0) rfl rfl) ?_
  refine Wl.q (v := iv 0) (q_extract (i := 1) rfl rfl) ?_
  refine Wl.q (v := iv ((n : Nat) : Int)) (q_assign rfl) ?_
  refine Wl.q (v := iv 0) (q_assign rfl) ?_
  refine Wl.done ?_
  refine Wx.go ?_
  refine Wc.ret ?_
  refine Wx.fin2 rfl (.inl rfl) (fun w hs => ?_)
  have hs : st W0 w ((storeW s ts2) :: (pt vb 2 [iv x]) :: F) := (st_drop (st_pull [1] hs))
  exact ⟨(), trivial, rfl, hs⟩

set_option maxRecDepth 8000 in
theorem list_o (W0 : World) (s lb lc : Nat) (ts : List TermR) (hw : Wf ts) (li : List Nat) (hlm : li.length ≤ 2000) (hts : ts.length ≤ 1000000) (hne : 0 < li.length) (hall : ∀ x ∈ li, 1 ≤ x ∧ x ≤ ts.length) (hcl : li.length ≤ lc) :
    Con Try.prog W0 28 #[Value.pointer (some ⟨s, 0, none⟩), Value.slice (some ⟨lb, 0, none⟩) li.length lc] [storeW s ts, slp 3 1 lb lc (li.map natV)] (X := List TermR × Nat) (fun z => LsJ ts z li (li.length - 1)) (fun z => .tuple #[.int .i64 ((z.2 : Nat) : Int), .int .i64 0]) (fun z => [storeW s z.1, sl 3 1 (Value.slice (some ⟨lb, 0, none⟩) li.length lc) li.length (li.map natV)]) := by
  refine Con.of (args := [Value.pointer (some ⟨s, 0, none⟩), Value.slice (some ⟨lb, 0, none⟩) li.length lc]) Try.func28 rfl Try.ntmps28 rfl (fun F => ?_)
  show Wc _ W0 _ _ _ _ _ ((storeW s ts) :: (slp 3 1 lb lc (li.map natV)) :: F)
  refine Wc.seq ?_
  refine Wc.region ?_
  refine Wl.q (v := Value.int .i64 0) (q_assign rfl) ?_
  refine Wl.q (v := Value.int .i64 0) (q_assign rfl) ?_
  refine Wl.done ?_
  refine Wx.go ?_
  refine Wc.seq ?_
  refine Wc.seq ?_
  refine Wc.region ?_
  refine Wl.q (v := Value.pointer (some ⟨s, 0, none⟩)) (q_move rfl) ?_
  refine Wl.e (e_call (F := (slp 3 1 lb lc (li.map natV)) :: F) (args := [Value.pointer (some ⟨s, 0, none⟩)]) Try.call25 rfl (made_w W0 s ts)) (fun _ _ => ?_)
  refine Wl.imp (L' := (storeW s ts) :: (slp 3 1 lb lc (li.map natV)) :: F) (fun _ h => h) ?_
  refine Wl.q (v := Value.bool false) (q_not rfl rfl) ?_
  refine Wl.done ?_
  refine Wx.go ?_
  refine Wc.no rfl ?_
  refine Wc.skip ?_
  refine Wx.go ?_
  refine Wc.seq ?_
  refine Wc.seq ?_
  refine Wc.region ?_
  refine Wl.q (v := Value.slice (some ⟨lb, 0, none⟩) li.length lc) (q_move rfl) ?_
  refine Wl.q (v := Value.int .i64 ((li.length : Nat) : Int)) (q_len_slice Try.underlying22 rfl) ?_
  refine Wl.q (v := Value.int .i64 0) (q_move rfl) ?_
  refine Wl.done ?_
  refine Wx.go ?_
  refine Wc.block ?_
  refine Wc.loop (X := Nat) (fun i E => E 17 = Value.int .i64 ((i : Nat) : Int) ∧ E 0 = Value.pointer (some ⟨s, 0, none⟩) ∧ E 1 = Value.slice (some ⟨lb, 0, none⟩) li.length lc ∧ E 15 = Value.slice (some ⟨lb, 0, none⟩) li.length lc ∧ E 16 = Value.int .i64 ((li.length : Nat) : Int) ∧ i ≤ li.length) (fun i => (storeW s ts) :: (slp 3 1 lb lc (li.map natV)) :: F) (fun i => li.length - i) 0 ?_ ?_ ?_
  · exact ⟨rfl, rfl, rfl, rfl, rfl, (by omega)⟩
  · exact fun w hs => hs
  · rintro i E2 ⟨hE17_0, hE0_0, hE1_0, hE15_0, hE16_0, hi⟩
    refine Wc.seq ?_
    refine Wc.region ?_
    by_cases hlt : ((i : Nat) : Int) < ((li.length : Nat) : Int)
    ·
      obtain ⟨o, hget⟩ : ∃ o, li[i]? = some o := ⟨li[i]'(by omega), List.getElem?_eq_getElem (by omega)⟩
      have hr := hall o (List.mem_of_getElem? hget)
      refine Wl.q (v := Value.bool true) (q_lss (r := true) hE17_0 hE16_0 (decide_eq_true hlt)) ?_
      refine Wl.done ?_
      refine Wx.go ?_
      refine Wc.seq ?_
      refine Wc.yes rfl ?_
      refine Wc.skip ?_
      refine Wx.go ?_
      refine Wc.seq ?_
      refine Wc.block ?_
      refine Wc.seq ?_
      refine Wc.region ?_
      refine Wl.q (v := Value.pointer (some ⟨lb, i, none⟩)) (q_idx (m := i) se_22 hE15_0 hE17_0 (by omega) (by omega) (by simp)) ?_
      refine Wl.q (v := Value.int .i64 ((o : Nat) : Int)) (q_load sc_3 rfl (.row (i := 1) rfl ((congrArg (fun q : Nat => (li.map natV)[q]?) (show i = i from by omega)).trans (map_at hget)))) ?_
      refine Wl.q (v := Value.int .i64 ((o : Nat) : Int)) (q_assign rfl) ?_
      refine Wl.done ?_
      refine Wx.go ?_
      refine Wc.seq ?_
      refine Wc.region ?_
      refine Wl.q (v := Value.pointer (some ⟨s, 0, none⟩)) (q_move hE0_0) ?_
      refine Wl.q (v := Value.int .i64 ((o : Nat) : Int)) (q_move rfl) ?_
      refine Wl.e (e_call (F := (slp 3 1 lb lc (li.map natV)) :: F) (args := [Value.pointer (some ⟨s, 0, none⟩), Value.int .i64 ((o : Nat) : Int)]) Try.call33 rfl (there_w W0 s ts ((o : Nat) : Int) true (decide_eq_true (by omega)))) (fun _ _ => ?_)
      refine Wl.imp (L' := (storeW s ts) :: (slp 3 1 lb lc (li.map natV)) :: F) (fun _ h => h) ?_
      refine Wl.q (v := Value.bool false) (q_not rfl rfl) ?_
      refine Wl.done ?_
      refine Wx.go ?_
      refine Wc.no rfl ?_
      refine Wc.skip ?_
      refine Wx.blockEnd ?_
      refine Wx.go ?_
      refine Wc.region ?_
      refine Wl.q (v := Value.int .i64 ((i + 1 : Nat) : Int)) (q_add (c := ((i + 1 : Nat) : Int)) hE17_0 rfl (by rw [wrap_i64] <;> omega)) ?_
      refine Wl.q (v := Value.int .i64 ((i + 1 : Nat) : Int)) (q_move rfl) ?_
      refine Wl.done ?_
      refine Wx.at (i + 1) ⟨(by omega), rfl, hE0_0, hE1_0, hE15_0, hE16_0, (by omega)⟩ (fun w hs => hs)
    ·
      refine Wl.q (v := Value.bool false) (q_lss (r := false) hE17_0 hE16_0 (decide_eq_false hlt)) ?_
      refine Wl.done ?_
      refine Wx.go ?_
      refine Wc.seq ?_
      refine Wc.no rfl ?_
      refine Wc.exit ?_
      refine Wx.thenExit ?_
      refine Wx.thenExit ?_
      refine Wx.out ?_
      refine Wx.go ?_
      refine Wc.seq ?_
      refine Wc.seq ?_
      refine Wc.region ?_
      refine Wl.q (v := Value.slice (some ⟨lb, 0, none⟩) li.length lc) (q_move hE1_0) ?_
      refine Wl.q (v := Value.int .i64 ((li.length : Nat) : Int)) (q_len_slice Try.underlying22 rfl) ?_
      refine Wl.q (v := Value.bool false) (q_eql (r := false) rfl rfl (decide_eq_false (by omega))) ?_
      refine Wl.done ?_
      refine Wx.go ?_
      refine Wc.no rfl ?_
      refine Wc.skip ?_
      refine Wx.go ?_
      refine Wc.seq ?_
      refine Wc.region ?_
      obtain ⟨last, hlast⟩ : ∃ o, li[li.length - 1]? = some o := ⟨li[li.length - 1]'(by omega), List.getElem?_eq_getElem (by omega)⟩
      have hdrop : li.drop (li.length - 1) = [last] := by rw [List.drop_eq_getElem_cons (by omega), (List.getElem?_eq_some_iff.1 hlast).2, List.drop_eq_nil_of_le (by omega)]
      refine Wl.q (v := Value.slice (some ⟨lb, 0, none⟩) li.length lc) (q_move hE1_0) ?_
      refine Wl.q (v := Value.slice (some ⟨lb, 0, none⟩) li.length lc) (q_move hE1_0) ?_
      refine Wl.q (v := Value.int .i64 ((li.length : Nat) : Int)) (q_len_slice Try.underlying22 rfl) ?_
      refine Wl.q (v := Value.int .i64 (((li.length : Nat) : Int) - 1)) (q_sub (c := (((li.length : Nat) : Int) - 1)) rfl rfl (wrap_i64 (by omega) (by omega))) ?_
      refine Wl.q (v := Value.pointer (some ⟨lb, ((((li.length : Nat) : Int) - 1)).toNat, none⟩)) (q_idx (m := ((((li.length : Nat) : Int) - 1)).toNat) se_22 rfl rfl (by omega) (by omega) (by simp)) ?_
      refine Wl.q (v := Value.int .i64 ((last : Nat) : Int)) (q_load sc_3 rfl (.row (i := 1) rfl ((congrArg (fun q : Nat => (li.map natV)[q]?) (show ((((li.length : Nat) : Int) - 1)).toNat = li.length - 1 from by omega)).trans (map_at hlast)))) ?_
      refine Wl.q (v := Value.int .i64 ((last : Nat) : Int)) (q_assign rfl) ?_
      refine Wl.done ?_
      refine Wx.go ?_
      refine Wc.seq ?_
      refine Wc.seq ?_
      refine Wc.region ?_
      refine Wl.q (v := Value.slice (some ⟨lb, 0, none⟩) li.length lc) (q_move hE1_0) ?_
      refine Wl.q (v := Value.int .i64 ((li.length : Nat) : Int)) (q_len_slice Try.underlying22 rfl) ?_
      refine Wl.q (v := Value.int .i64 (((li.length : Nat) : Int) - 2)) (q_sub (c := (((li.length : Nat) : Int) - 2)) rfl rfl (wrap_i64 (by omega) (by omega))) ?_
      refine Wl.q (v := Value.int .i64 (((li.length : Nat) : Int) - 2)) (q_assign rfl) ?_
      refine Wl.done ?_
      refine Wx.go ?_
      refine Wc.block ?_
      have hkz : ((li.length : Nat) : Int) - 2 = (((li.length - 1 : Nat) : Int) - 1) := by omega
      refine Wc.loop (X := Nat × (List TermR × Nat)) (fun (k, z) E => E 9 = Value.int .i64 (((k : Nat) : Int) - 1) ∧ E 8 = Value.int .i64 ((z.2 : Nat) : Int) ∧ E 0 = Value.pointer (some ⟨s, 0, none⟩) ∧ E 1 = Value.slice (some ⟨lb, 0, none⟩) li.length lc ∧ k ≤ li.length - 1 ∧ LsJ ts z (li.drop k) (li.length - 1 - k)) (fun (k, z) => (storeW s z.1) :: (slp 3 1 lb lc (li.map natV)) :: F) (fun (k, z) => k) (li.length - 1, (ts, last)) ?_ ?_ ?_
      · exact ⟨(congrArg (Value.int .i64) hkz), rfl, hE0_0, hE1_0, (by omega), (by rw [hdrop, show li.length - 1 - (li.length - 1) = 0 by omega]; exact LsJ.start hw (hall last (List.mem_of_getElem? hlast)))⟩
      · exact fun w hs => hs
      · rintro ⟨k, z⟩ E4 ⟨hE9_2, hE8_2, hE0_2, hE1_2, hk, hZ⟩
        dsimp only at *
        refine Wc.seq ?_
        refine Wc.seq ?_
        refine Wc.region ?_
        refine Wl.q (v := Value.int .i64 (((k : Nat) : Int) - 1)) (q_move hE9_2) ?_
        by_cases hkk : (((k : Nat) : Int) - 1) ≥ 0
        ·
          obtain ⟨k', hk'⟩ : ∃ k', k = k' + 1 := ⟨k - 1, by omega⟩
          obtain ⟨o, hget⟩ : ∃ o, li[k']? = some o := ⟨li[k']'(by omega), List.getElem?_eq_getElem (by omega)⟩
          have hr := hall o (List.mem_of_getElem? hget)
          have hst := hZ.step (by rw [hk']; exact fun e => by have := congrArg List.length e; rw [List.length_drop] at this; simp only [List.length_nil] at this; omega) hr (by omega)
          have hdk : li.drop k' = o :: li.drop k := by rw [List.drop_eq_getElem_cons (by omega), (List.getElem?_eq_some_iff.1 hget).2, hk']
          have hzl := hZ.len
          have hze := hZ.rng
          refine Wl.q (v := Value.bool true) (q_geq (r := true) rfl rfl (decide_eq_true hkk)) ?_
          refine Wl.done ?_
          refine Wx.go ?_
          refine Wc.yes rfl ?_
          refine Wc.skip ?_
          refine Wx.go ?_
          refine Wc.seq ?_
          refine Wc.block ?_
          refine Wc.seq ?_
          refine Wc.region ?_
          refine Wl.q (v := Value.pointer (some ⟨s, 0, none⟩)) (q_move hE0_2) ?_
          refine Wl.q (v := Value.slice (some ⟨lb, 0, none⟩) li.length lc) (q_move hE1_2) ?_
          refine Wl.q (v := Value.int .i64 (((k : Nat) : Int) - 1)) (q_move hE9_2) ?_
          refine Wl.q (v := Value.pointer (some ⟨lb, ((((k : Nat) : Int) - 1)).toNat, none⟩)) (q_idx (m := ((((k : Nat) : Int) - 1)).toNat) se_22 rfl rfl (by omega) (by omega) (by simp)) ?_
          refine Wl.q (v := Value.int .i64 ((o : Nat) : Int)) (q_load sc_3 rfl (.row (i := 1) rfl ((congrArg (fun q : Nat => (li.map natV)[q]?) (show ((((k : Nat) : Int) - 1)).toNat = k' from by omega)).trans (map_at hget)))) ?_
          refine Wl.q (v := Value.int .i64 ((z.2 : Nat) : Int)) (q_move hE8_2) ?_
          refine Wl.q (v := Value.agg #[Value.int .u8 3, Value.int .i64 0, Value.int .i64 ((o : Nat) : Int), Value.int .i64 ((z.2 : Nat) : Int)]) (q_build (pl := [(0, 1), (1, 1), (2, 1), (3, 1)]) Try.underlying31 zo_31 (by kernel_rfl) (by kernel_rfl)) ?_
          refine Wl.e (e_call (F := (slp 3 1 lb lc (li.map natV)) :: F) (args := [Value.pointer (some ⟨s, 0, none⟩), Value.agg #[Value.int .u8 3, Value.int .i64 0, Value.int .i64 ((o : Nat) : Int), Value.int .i64 ((z.2 : Nat) : Int)]]) Try.call15 rfl (make_w W0 s z.1 ((mk z.1 ⟨3, 0, ((o : Nat) : Int), ((z.2 : Nat) : Int)⟩).1) (⟨3, 0, ((o : Nat) : Int), ((z.2 : Nat) : Int)⟩ : TermR) ((mk z.1 ⟨3, 0, ((o : Nat) : Int), ((z.2 : Nat) : Int)⟩).2.1) _ 0 hst.1 hst.2.1 rfl)) (fun _ _ => ?_)
          refine Wl.imp (L' := (storeW s ((mk z.1 ⟨3, 0, ((o : Nat) : Int), ((z.2 : Nat) : Int)⟩).1)) :: (slp 3 1 lb lc (li.map natV)) :: F) (fun _ h => h) ?_
          refine Wl.q (v := Value.tuple #[Value.int .i64 (((mk z.1 ⟨3, 0, ((o : Nat) : Int), ((z.2 : Nat) : Int)⟩).2.1 : Nat) : Int), Value.int .i64 0]) (q_move rfl) ?_
          refine Wl.q (v := Value.int .i64 (((mk z.1 ⟨3, 0, ((o : Nat) : Int), ((z.2 : Nat) : Int)⟩).2.1 : Nat) : Int)) (q_extract (i := 0) rfl rfl) ?_
          refine Wl.q (v := Value.int .i64 0) (q_extract (i := 1) rfl rfl) ?_
          refine Wl.q (v := Value.int .i64 (((mk z.1 ⟨3, 0, ((o : Nat) : Int), ((z.2 : Nat) : Int)⟩).2.1 : Nat) : Int)) (q_assign rfl) ?_
          refine Wl.q (v := Value.int .i64 0) (q_assign rfl) ?_
          refine Wl.done ?_
          refine Wx.go ?_
          refine Wc.seq ?_
          refine Wc.seq ?_
          refine Wc.region ?_
          refine Wl.q (v := Value.int .i64 0) (q_move rfl) ?_
          refine Wl.q (v := Value.bool false) (q_neq (r := true) rfl rfl (decide_eq_true (by decide))) ?_
          refine Wl.done ?_
          refine Wx.go ?_
          refine Wc.no rfl ?_
          refine Wc.skip ?_
          refine Wx.go ?_
          refine Wc.region ?_
          refine Wl.q (v := Value.int .i64 (((mk z.1 ⟨3, 0, ((o : Nat) : Int), ((z.2 : Nat) : Int)⟩).2.1 : Nat) : Int)) (q_move rfl) ?_
          refine Wl.q (v := Value.int .i64 (((mk z.1 ⟨3, 0, ((o : Nat) : Int), ((z.2 : Nat) : Int)⟩).2.1 : Nat) : Int)) (q_assign rfl) ?_
          refine Wl.done ?_
          refine Wx.blockEnd ?_
          refine Wx.go ?_
          refine Wc.region ?_
          refine Wl.q (v := Value.int .i64 (((k : Nat) : Int) - 1)) (q_move hE9_2) ?_
          refine Wl.q (v := Value.int .i64 (((k' : Nat) : Int) - 1)) (q_sub (c := (((k' : Nat) : Int) - 1)) rfl rfl (by rw [wrap_i64 (by omega) (by omega)]; omega)) ?_
          refine Wl.q (v := Value.int .i64 (((k' : Nat) : Int) - 1)) (q_assign rfl) ?_
          refine Wl.done ?_
          refine Wx.at (k', ((mk z.1 ⟨3, 0, ((o : Nat) : Int), ((z.2 : Nat) : Int)⟩).1, (mk z.1 ⟨3, 0, ((o : Nat) : Int), ((z.2 : Nat) : Int)⟩).2.1)) ⟨(by simp only; omega), rfl, rfl, hE0_2, hE1_2, (by simp only; omega), (by rw [hdk, show li.length - 1 - k' = li.length - 1 - k + 1 by omega]; exact hst.2.2)⟩ (fun w hs => hs)
        ·
          have hk0 : k = 0 := by omega
          refine Wl.q (v := Value.bool false) (q_geq (r := false) rfl rfl (decide_eq_false hkk)) ?_
          refine Wl.done ?_
          refine Wx.go ?_
          refine Wc.no rfl ?_
          refine Wc.exit ?_
          refine Wx.thenExit ?_
          refine Wx.thenExit ?_
          refine Wx.out ?_
          refine Wx.go ?_
          refine Wc.seq ?_
          refine Wc.region ?_
          refine Wl.q (v := Value.int .i64 ((z.2 : Nat) : Int)) (q_move hE8_2) ?_
          refine Wl.q (v := Value.int .i64 ((z.2 : Nat) : Int)) (q_assign rfl) ?_
          refine Wl.q (v := Value.int .i64 0) (q_assign rfl) ?_
          refine Wl.done ?_
          refine Wx.go ?_
          refine Wc.ret ?_
          refine Wx.fin2 rfl (.inl rfl) (fun w hs => ?_)
          exact ⟨z, (by rw [hk0] at hZ; exact hZ), rfl, (fun hs => st_swap (st_sl_mk (e := 3) (by simp) hcl hs)) (st_pull [1, 0] (hs))⟩
theorem list_w (W0 : World) (s : Nat) (ts : List TermR) (hw : Wf ts) (v : Value) (li : List Nat) (hlm : li.length ≤ 2000) (hts : ts.length ≤ 1000000) (hne : 0 < li.length) (hall : ∀ x ∈ li, 1 ≤ x ∧ x ≤ ts.length) : Con Try.prog W0 28 #[.pointer (some ⟨s, 0, none⟩), v] [storeW s ts, sl 3 1 v li.length (li.map natV)] (X := List TermR × Nat) (fun z => LsJ ts z li (li.length - 1)) (fun z => .tuple #[.int .i64 ((z.2 : Nat) : Int), .int .i64 0]) (fun z => [storeW s z.1, sl 3 1 v li.length (li.map natV)]) := fun w F hs => by
  rcases st_sl_cases (st_swap hs) with ⟨_, e, _⟩ | ⟨lb, lc, rfl, hcl, _, hs'⟩
  · omega
  · exact list_o W0 s lb lc ts hw li hlm hts hne hall hcl w F (st_swap hs')

theorem there0 (W0 : World) (s : Nat) (ts : List TermR) :
    Con Try.prog W0 17 #[Value.pointer (some ⟨s, 0, none⟩), Value.slice none 0 0] [storeW s ts] (X := Unit) (fun _ => True) (fun _ => .int .i64 0) (fun _ => [storeW s ts]) := by
  refine Con.of (args := [Value.pointer (some ⟨s, 0, none⟩), Value.slice none 0 0]) Try.func17 rfl Try.ntmps17 rfl (fun F => ?_)
  show Wc _ W0 _ _ _ _ _ ((storeW s ts) :: F)
  refine Wc.seq ?_
  refine Wc.region ?_
  refine Wl.q (v := Value.int .i64 0) (q_assign rfl) ?_
  refine Wl.done ?_
  refine Wx.go ?_
  refine Wc.seq ?_
  refine Wc.seq ?_
  refine Wc.region ?_
  refine Wl.q (v := Value.pointer (some ⟨s, 0, none⟩)) (q_move rfl) ?_
  refine Wl.e (e_call (F := F) (args := [Value.pointer (some ⟨s, 0, none⟩), Value.slice none 0 0]) Try.call28 rfl (list0_w W0 s ts)) (fun _ _ => ?_)
  refine Wl.imp (L' := (storeW s ts) :: F) (fun _ h => h) ?_
  refine Wl.q (v := Value.tuple #[Value.int .i64 0, Value.int .i64 0]) (q_move rfl) ?_
  refine Wl.q (v := Value.int .i64 0) (q_extract (i := 0) rfl rfl) ?_
  refine Wl.q (v := Value.int .i64 0) (q_extract (i := 1) rfl rfl) ?_
  refine Wl.q (v := Value.int .i64 0) (q_assign rfl) ?_
  refine Wl.q (v := Value.int .i64 0) (q_assign rfl) ?_
  refine Wl.done ?_
  refine Wx.go ?_
  refine Wc.seq ?_
  refine Wc.region ?_
  refine Wl.q (v := Value.int .i64 0) (q_move rfl) ?_
  refine Wl.q (v := Value.bool false) (q_eql (r := false) rfl rfl (decide_eq_false (by decide))) ?_
  refine Wl.done ?_
  refine Wx.go ?_
  refine Wc.no rfl ?_
  refine Wc.skip ?_
  refine Wx.go ?_
  refine Wc.seq ?_
  refine Wc.seq ?_
  refine Wc.region ?_
  refine Wl.q (v := Value.slice none 0 0) (q_move rfl) ?_
  refine Wl.q (v := Value.int .i64 0) (q_len_slice Try.underlying22 rfl) ?_
  refine Wl.q (v := Value.int .i64 0) (q_move rfl) ?_
  refine Wl.done ?_
  refine Wx.go ?_
  refine Wc.block ?_
  refine Wc.rounds 1 ?_
  refine Wn.round ?_
  refine Wc.seq ?_
  refine Wc.region ?_
  refine Wl.q (v := Value.bool false) (q_lss (r := false) rfl rfl (decide_eq_false (by decide))) ?_
  refine Wl.done ?_
  refine Wx.go ?_
  refine Wc.seq ?_
  refine Wc.no rfl ?_
  refine Wc.exit ?_
  refine Wx.thenExit ?_
  refine Wx.thenExit ?_
  refine Wx.out ?_
  refine Wx.go ?_
  refine Wc.seq ?_
  refine Wc.region ?_
  refine Wl.q (v := Value.int .i64 0) (q_assign rfl) ?_
  refine Wl.done ?_
  refine Wx.go ?_
  refine Wc.ret ?_
  refine Wx.fin1 rfl (.inl rfl) (fun w hs => ?_)
  exact ⟨(), trivial, rfl, hs⟩

theorem there1 (W0 : World) (s vb : Nat) (ts : List TermR) (x0 : Int) (t0 : TermR) (g0 : 1 ≤ x0) (e0 : ts[(x0 - 1).toNat]? = some t0) :
    Con Try.prog W0 17 #[Value.pointer (some ⟨s, 0, none⟩), Value.slice (some ⟨vb, 0, none⟩) 1 1] [storeW s ts, pt vb 3 [Value.int .i64 x0]] (X := Unit) (fun _ => True) (fun _ => .int .i64 0) (fun _ => [storeW s ts, pt vb 3 [Value.int .i64 x0]]) := by
  refine Con.of (args := [Value.pointer (some ⟨s, 0, none⟩), Value.slice (some ⟨vb, 0, none⟩) 1 1]) Try.func17 rfl Try.ntmps17 rfl (fun F => ?_)
  show Wc _ W0 _ _ _ _ _ ((storeW s ts) :: (pt vb 3 [Value.int .i64 x0]) :: F)
  refine Wc.seq ?_
  refine Wc.region ?_
  refine Wl.q (v := Value.int .i64 0) (q_assign rfl) ?_
  refine Wl.done ?_
  refine Wx.go ?_
  refine Wc.seq ?_
  refine Wc.seq ?_
  refine Wc.region ?_
  refine Wl.q (v := Value.pointer (some ⟨s, 0, none⟩)) (q_move rfl) ?_
  refine Wl.e (e_call (F := (pt vb 3 [Value.int .i64 x0]) :: F) (args := [Value.pointer (some ⟨s, 0, none⟩), Value.slice none 0 0]) Try.call28 rfl (list0_w W0 s ts)) (fun _ _ => ?_)
  refine Wl.imp (L' := (storeW s ts) :: (pt vb 3 [Value.int .i64 x0]) :: F) (fun _ h => h) ?_
  refine Wl.q (v := Value.tuple #[Value.int .i64 0, Value.int .i64 0]) (q_move rfl) ?_
  refine Wl.q (v := Value.int .i64 0) (q_extract (i := 0) rfl rfl) ?_
  refine Wl.q (v := Value.int .i64 0) (q_extract (i := 1) rfl rfl) ?_
  refine Wl.q (v := Value.int .i64 0) (q_assign rfl) ?_
  refine Wl.q (v := Value.int .i64 0) (q_assign rfl) ?_
  refine Wl.done ?_
  refine Wx.go ?_
  refine Wc.seq ?_
  refine Wc.region ?_
  refine Wl.q (v := Value.int .i64 0) (q_move rfl) ?_
  refine Wl.q (v := Value.bool false) (q_eql (r := false) rfl rfl (decide_eq_false (by decide))) ?_
  refine Wl.done ?_
  refine Wx.go ?_
  refine Wc.no rfl ?_
  refine Wc.skip ?_
  refine Wx.go ?_
  refine Wc.seq ?_
  refine Wc.seq ?_
  refine Wc.region ?_
  refine Wl.q (v := Value.slice (some ⟨vb, 0, none⟩) 1 1) (q_move rfl) ?_
  refine Wl.q (v := Value.int .i64 1) (q_len_slice Try.underlying22 rfl) ?_
  refine Wl.q (v := Value.int .i64 0) (q_move rfl) ?_
  refine Wl.done ?_
  refine Wx.go ?_
  refine Wc.block ?_
  refine Wc.rounds 2 ?_
  refine Wn.round ?_
  refine Wc.seq ?_
  refine Wc.region ?_
  refine Wl.q (v := Value.bool true) (q_lss (r := true) rfl rfl (decide_eq_true (by decide))) ?_
  refine Wl.done ?_
  refine Wx.go ?_
  refine Wc.seq ?_
  refine Wc.yes rfl ?_
  refine Wc.skip ?_
  refine Wx.go ?_
  refine Wc.seq ?_
  refine Wc.block ?_
  refine Wc.seq ?_
  refine Wc.region ?_
  refine Wl.q (v := Value.pointer (some ⟨vb, 0, none⟩)) (q_idx (m := 0) se_22 rfl rfl (by omega) (by omega) rfl) ?_
  refine Wl.q (v := Value.int .i64 x0) (q_load sc_3 rfl (.cel (i := 1) rfl rfl)) ?_
  refine Wl.q (v := Value.int .i64 x0) (q_assign rfl) ?_
  refine Wl.done ?_
  refine Wx.go ?_
  refine Wc.seq ?_
  refine Wc.region ?_
  refine Wl.q (v := Value.pointer (some ⟨s, 0, none⟩)) (q_move rfl) ?_
  refine Wl.q (v := Value.int .i64 x0) (q_move rfl) ?_
  refine Wl.e (e_call (F := (pt vb 3 [Value.int .i64 x0]) :: F) (args := [Value.pointer (some ⟨s, 0, none⟩), Value.int .i64 x0]) Try.call29 rfl (get_w W0 s ts x0 t0 g0 e0)) (fun _ _ => ?_)
  refine Wl.imp (L' := (storeW s ts) :: (pt vb 3 [Value.int .i64 x0]) :: F) (fun _ h => h) ?_
  refine Wl.q (v := Value.tuple #[Value.agg #[Value.int .u8 ((t0.kind : Nat) : Int), Value.int .i64 t0.n, Value.int .i64 t0.a, Value.int .i64 t0.b], Value.bool true]) (q_move rfl) ?_
  refine Wl.q (v := Value.agg #[Value.int .u8 ((t0.kind : Nat) : Int), Value.int .i64 t0.n, Value.int .i64 t0.a, Value.int .i64 t0.b]) (q_extract (i := 0) rfl rfl) ?_
  refine Wl.q (v := Value.bool true) (q_extract (i := 1) rfl rfl) ?_
  refine Wl.e (e_alloc (vs := [Value.int .u8 0, Value.int .i64 0, Value.int .i64 0, Value.int .i64 0]) zo_31 rfl) (fun b1 _ => ?_)
  refine Wl.imp (L' := (pt b1 31 [Value.int .u8 0, Value.int .i64 0, Value.int .i64 0, Value.int .i64 0]) :: (storeW s ts) :: (pt vb 3 [Value.int .i64 x0]) :: F) (fun _ h => h) ?_
  refine Wl.e (e_storeAgg (i := 0) (vs := [Value.int .u8 ((t0.kind : Nat) : Int), Value.int .i64 t0.n, Value.int .i64 t0.a, Value.int .i64 t0.b]) (c' := [Value.int .u8 ((t0.kind : Nat) : Int), Value.int .i64 t0.n, Value.int .i64 t0.a, Value.int .i64 t0.b]) sz_31 rfl rfl rfl rfl (by simp) rfl) (fun _ _ => ?_)
  refine Wl.imp (L' := (pt b1 31 [Value.int .u8 ((t0.kind : Nat) : Int), Value.int .i64 t0.n, Value.int .i64 t0.a, Value.int .i64 t0.b]) :: (storeW s ts) :: (pt vb 3 [Value.int .i64 x0]) :: F) (fun _ h => h) ?_
  refine Wl.q (v := Value.bool true) (q_assign rfl) ?_
  refine Wl.done ?_
  refine Wx.go ?_
  refine Wc.seq ?_
  refine Wc.region ?_
  refine Wl.q (v := Value.bool true) (q_move rfl) ?_
  refine Wl.q (v := Value.bool false) (q_not rfl rfl) ?_
  refine Wl.done ?_
  refine Wx.go ?_
  refine Wc.no rfl ?_
  refine Wc.skip ?_
  refine Wx.blockEnd ?_
  refine Wx.go ?_
  refine Wc.region ?_
  refine Wl.q (v := Value.int .i64 1) (q_add (c := 1) rfl rfl (by decide)) ?_
  refine Wl.q (v := Value.int .i64 1) (q_move rfl) ?_
  refine Wl.done ?_
  refine Wx.again ?_
  refine Wn.round ?_
  refine Wc.seq ?_
  refine Wc.region ?_
  refine Wl.q (v := Value.bool false) (q_lss (r := false) rfl rfl (decide_eq_false (by decide))) ?_
  refine Wl.done ?_
  refine Wx.go ?_
  refine Wc.seq ?_
  refine Wc.no rfl ?_
  refine Wc.exit ?_
  refine Wx.thenExit ?_
  refine Wx.thenExit ?_
  refine Wx.out ?_
  refine Wx.go ?_
  refine Wc.seq ?_
  refine Wc.region ?_
  refine Wl.q (v := Value.int .i64 0) (q_assign rfl) ?_
  refine Wl.done ?_
  refine Wx.go ?_
  refine Wc.ret ?_
  refine Wx.fin1 rfl (.inl rfl) (fun w hs => ?_)
  exact ⟨(), trivial, rfl, (st_drop (st_pull [0] hs))⟩

theorem there2 (W0 : World) (s vb : Nat) (ts : List TermR) (x0 : Int) (t0 : TermR) (g0 : 1 ≤ x0) (e0 : ts[(x0 - 1).toNat]? = some t0) (x1 : Int) (t1 : TermR) (g1 : 1 ≤ x1) (e1 : ts[(x1 - 1).toNat]? = some t1) :
    Con Try.prog W0 17 #[Value.pointer (some ⟨s, 0, none⟩), Value.slice (some ⟨vb, 0, none⟩) 2 2] [storeW s ts, pt vb 3 [Value.int .i64 x0, Value.int .i64 x1]] (X := Unit) (fun _ => True) (fun _ => .int .i64 0) (fun _ => [storeW s ts, pt vb 3 [Value.int .i64 x0, Value.int .i64 x1]]) := by
  refine Con.of (args := [Value.pointer (some ⟨s, 0, none⟩), Value.slice (some ⟨vb, 0, none⟩) 2 2]) Try.func17 rfl Try.ntmps17 rfl (fun F => ?_)
  show Wc _ W0 _ _ _ _ _ ((storeW s ts) :: (pt vb 3 [Value.int .i64 x0, Value.int .i64 x1]) :: F)
  refine Wc.seq ?_
  refine Wc.region ?_
  refine Wl.q (v := Value.int .i64 0) (q_assign rfl) ?_
  refine Wl.done ?_
  refine Wx.go ?_
  refine Wc.seq ?_
  refine Wc.seq ?_
  refine Wc.region ?_
  refine Wl.q (v := Value.pointer (some ⟨s, 0, none⟩)) (q_move rfl) ?_
  refine Wl.e (e_call (F := (pt vb 3 [Value.int .i64 x0, Value.int .i64 x1]) :: F) (args := [Value.pointer (some ⟨s, 0, none⟩), Value.slice none 0 0]) Try.call28 rfl (list0_w W0 s ts)) (fun _ _ => ?_)
  refine Wl.imp (L' := (storeW s ts) :: (pt vb 3 [Value.int .i64 x0, Value.int .i64 x1]) :: F) (fun _ h => h) ?_
  refine Wl.q (v := Value.tuple #[Value.int .i64 0, Value.int .i64 0]) (q_move rfl) ?_
  refine Wl.q (v := Value.int .i64 0) (q_extract (i := 0) rfl rfl) ?_
  refine Wl.q (v := Value.int .i64 0) (q_extract (i := 1) rfl rfl) ?_
  refine Wl.q (v := Value.int .i64 0) (q_assign rfl) ?_
  refine Wl.q (v := Value.int .i64 0) (q_assign rfl) ?_
  refine Wl.done ?_
  refine Wx.go ?_
  refine Wc.seq ?_
  refine Wc.region ?_
  refine Wl.q (v := Value.int .i64 0) (q_move rfl) ?_
  refine Wl.q (v := Value.bool false) (q_eql (r := false) rfl rfl (decide_eq_false (by decide))) ?_
  refine Wl.done ?_
  refine Wx.go ?_
  refine Wc.no rfl ?_
  refine Wc.skip ?_
  refine Wx.go ?_
  refine Wc.seq ?_
  refine Wc.seq ?_
  refine Wc.region ?_
  refine Wl.q (v := Value.slice (some ⟨vb, 0, none⟩) 2 2) (q_move rfl) ?_
  refine Wl.q (v := Value.int .i64 2) (q_len_slice Try.underlying22 rfl) ?_
  refine Wl.q (v := Value.int .i64 0) (q_move rfl) ?_
  refine Wl.done ?_
  refine Wx.go ?_
  refine Wc.block ?_
  refine Wc.rounds 3 ?_
  refine Wn.round ?_
  refine Wc.seq ?_
  refine Wc.region ?_
  refine Wl.q (v := Value.bool true) (q_lss (r := true) rfl rfl (decide_eq_true (by decide))) ?_
  refine Wl.done ?_
  refine Wx.go ?_
  refine Wc.seq ?_
  refine Wc.yes rfl ?_
  refine Wc.skip ?_
  refine Wx.go ?_
  refine Wc.seq ?_
  refine Wc.block ?_
  refine Wc.seq ?_
  refine Wc.region ?_
  refine Wl.q (v := Value.pointer (some ⟨vb, 0, none⟩)) (q_idx (m := 0) se_22 rfl rfl (by omega) (by omega) rfl) ?_
  refine Wl.q (v := Value.int .i64 x0) (q_load sc_3 rfl (.cel (i := 1) rfl rfl)) ?_
  refine Wl.q (v := Value.int .i64 x0) (q_assign rfl) ?_
  refine Wl.done ?_
  refine Wx.go ?_
  refine Wc.seq ?_
  refine Wc.region ?_
  refine Wl.q (v := Value.pointer (some ⟨s, 0, none⟩)) (q_move rfl) ?_
  refine Wl.q (v := Value.int .i64 x0) (q_move rfl) ?_
  refine Wl.e (e_call (F := (pt vb 3 [Value.int .i64 x0, Value.int .i64 x1]) :: F) (args := [Value.pointer (some ⟨s, 0, none⟩), Value.int .i64 x0]) Try.call29 rfl (get_w W0 s ts x0 t0 g0 e0)) (fun _ _ => ?_)
  refine Wl.imp (L' := (storeW s ts) :: (pt vb 3 [Value.int .i64 x0, Value.int .i64 x1]) :: F) (fun _ h => h) ?_
  refine Wl.q (v := Value.tuple #[Value.agg #[Value.int .u8 ((t0.kind : Nat) : Int), Value.int .i64 t0.n, Value.int .i64 t0.a, Value.int .i64 t0.b], Value.bool true]) (q_move rfl) ?_
  refine Wl.q (v := Value.agg #[Value.int .u8 ((t0.kind : Nat) : Int), Value.int .i64 t0.n, Value.int .i64 t0.a, Value.int .i64 t0.b]) (q_extract (i := 0) rfl rfl) ?_
  refine Wl.q (v := Value.bool true) (q_extract (i := 1) rfl rfl) ?_
  refine Wl.e (e_alloc (vs := [Value.int .u8 0, Value.int .i64 0, Value.int .i64 0, Value.int .i64 0]) zo_31 rfl) (fun b1 _ => ?_)
  refine Wl.imp (L' := (pt b1 31 [Value.int .u8 0, Value.int .i64 0, Value.int .i64 0, Value.int .i64 0]) :: (storeW s ts) :: (pt vb 3 [Value.int .i64 x0, Value.int .i64 x1]) :: F) (fun _ h => h) ?_
  refine Wl.e (e_storeAgg (i := 0) (vs := [Value.int .u8 ((t0.kind : Nat) : Int), Value.int .i64 t0.n, Value.int .i64 t0.a, Value.int .i64 t0.b]) (c' := [Value.int .u8 ((t0.kind : Nat) : Int), Value.int .i64 t0.n, Value.int .i64 t0.a, Value.int .i64 t0.b]) sz_31 rfl rfl rfl rfl (by simp) rfl) (fun _ _ => ?_)
  refine Wl.imp (L' := (pt b1 31 [Value.int .u8 ((t0.kind : Nat) : Int), Value.int .i64 t0.n, Value.int .i64 t0.a, Value.int .i64 t0.b]) :: (storeW s ts) :: (pt vb 3 [Value.int .i64 x0, Value.int .i64 x1]) :: F) (fun _ h => h) ?_
  refine Wl.q (v := Value.bool true) (q_assign rfl) ?_
  refine Wl.done ?_
  refine Wx.go ?_
  refine Wc.seq ?_
  refine Wc.region ?_
  refine Wl.q (v := Value.bool true) (q_move rfl) ?_
  refine Wl.q (v := Value.bool false) (q_not rfl rfl) ?_
  refine Wl.done ?_
  refine Wx.go ?_
  refine Wc.no rfl ?_
  refine Wc.skip ?_
  refine Wx.blockEnd ?_
  refine Wx.go ?_
  refine Wc.region ?_
  refine Wl.q (v := Value.int .i64 1) (q_add (c := 1) rfl rfl (by decide)) ?_
  refine Wl.q (v := Value.int .i64 1) (q_move rfl) ?_
  refine Wl.done ?_
  refine Wx.again ?_
  refine Wn.round ?_
  refine Wc.seq ?_
  refine Wc.region ?_
  refine Wl.q (v := Value.bool true) (q_lss (r := true) rfl rfl (decide_eq_true (by decide))) ?_
  refine Wl.done ?_
  refine Wx.go ?_
  refine Wc.seq ?_
  refine Wc.yes rfl ?_
  refine Wc.skip ?_
  refine Wx.go ?_
  refine Wc.seq ?_
  refine Wc.block ?_
  refine Wc.seq ?_
  refine Wc.region ?_
  refine Wl.q (v := Value.pointer (some ⟨vb, 1, none⟩)) (q_idx (m := 1) se_22 rfl rfl (by omega) (by omega) rfl) ?_
  refine Wl.q (v := Value.int .i64 x1) (q_load sc_3 rfl (.cel (i := 2) rfl rfl)) ?_
  refine Wl.q (v := Value.int .i64 x1) (q_assign rfl) ?_
  refine Wl.done ?_
  refine Wx.go ?_
  refine Wc.seq ?_
  refine Wc.region ?_
  refine Wl.q (v := Value.pointer (some ⟨s, 0, none⟩)) (q_move rfl) ?_
  refine Wl.q (v := Value.int .i64 x1) (q_move rfl) ?_
  refine Wl.imp (L' := (storeW s ts) :: (pt b1 31 [Value.int .u8 ((t0.kind : Nat) : Int), Value.int .i64 t0.n, Value.int .i64 t0.a, Value.int .i64 t0.b]) :: (pt vb 3 [Value.int .i64 x0, Value.int .i64 x1]) :: F) (fun _ h => st_pull [1] h) ?_
  refine Wl.e (e_call (F := (pt b1 31 [Value.int .u8 ((t0.kind : Nat) : Int), Value.int .i64 t0.n, Value.int .i64 t0.a, Value.int .i64 t0.b]) :: (pt vb 3 [Value.int .i64 x0, Value.int .i64 x1]) :: F) (args := [Value.pointer (some ⟨s, 0, none⟩), Value.int .i64 x1]) Try.call29 rfl (get_w W0 s ts x1 t1 g1 e1)) (fun _ _ => ?_)
  refine Wl.imp (L' := (storeW s ts) :: (pt b1 31 [Value.int .u8 ((t0.kind : Nat) : Int), Value.int .i64 t0.n, Value.int .i64 t0.a, Value.int .i64 t0.b]) :: (pt vb 3 [Value.int .i64 x0, Value.int .i64 x1]) :: F) (fun _ h => h) ?_
  refine Wl.q (v := Value.tuple #[Value.agg #[Value.int .u8 ((t1.kind : Nat) : Int), Value.int .i64 t1.n, Value.int .i64 t1.a, Value.int .i64 t1.b], Value.bool true]) (q_move rfl) ?_
  refine Wl.q (v := Value.agg #[Value.int .u8 ((t1.kind : Nat) : Int), Value.int .i64 t1.n, Value.int .i64 t1.a, Value.int .i64 t1.b]) (q_extract (i := 0) rfl rfl) ?_
  refine Wl.q (v := Value.bool true) (q_extract (i := 1) rfl rfl) ?_
  refine Wl.e (e_alloc (vs := [Value.int .u8 0, Value.int .i64 0, Value.int .i64 0, Value.int .i64 0]) zo_31 rfl) (fun b2 _ => ?_)
  refine Wl.imp (L' := (pt b2 31 [Value.int .u8 0, Value.int .i64 0, Value.int .i64 0, Value.int .i64 0]) :: (storeW s ts) :: (pt b1 31 [Value.int .u8 ((t0.kind : Nat) : Int), Value.int .i64 t0.n, Value.int .i64 t0.a, Value.int .i64 t0.b]) :: (pt vb 3 [Value.int .i64 x0, Value.int .i64 x1]) :: F) (fun _ h => h) ?_
  refine Wl.e (e_storeAgg (i := 0) (vs := [Value.int .u8 ((t1.kind : Nat) : Int), Value.int .i64 t1.n, Value.int .i64 t1.a, Value.int .i64 t1.b]) (c' := [Value.int .u8 ((t1.kind : Nat) : Int), Value.int .i64 t1.n, Value.int .i64 t1.a, Value.int .i64 t1.b]) sz_31 rfl rfl rfl rfl (by simp) rfl) (fun _ _ => ?_)
  refine Wl.imp (L' := (pt b2 31 [Value.int .u8 ((t1.kind : Nat) : Int), Value.int .i64 t1.n, Value.int .i64 t1.a, Value.int .i64 t1.b]) :: (storeW s ts) :: (pt b1 31 [Value.int .u8 ((t0.kind : Nat) : Int), Value.int .i64 t0.n, Value.int .i64 t0.a, Value.int .i64 t0.b]) :: (pt vb 3 [Value.int .i64 x0, Value.int .i64 x1]) :: F) (fun _ h => h) ?_
  refine Wl.q (v := Value.bool true) (q_assign rfl) ?_
  refine Wl.done ?_
  refine Wx.go ?_
  refine Wc.seq ?_
  refine Wc.region ?_
  refine Wl.q (v := Value.bool true) (q_move rfl) ?_
  refine Wl.q (v := Value.bool false) (q_not rfl rfl) ?_
  refine Wl.done ?_
  refine Wx.go ?_
  refine Wc.no rfl ?_
  refine Wc.skip ?_
  refine Wx.blockEnd ?_
  refine Wx.go ?_
  refine Wc.region ?_
  refine Wl.q (v := Value.int .i64 2) (q_add (c := 2) rfl rfl (by decide)) ?_
  refine Wl.q (v := Value.int .i64 2) (q_move rfl) ?_
  refine Wl.done ?_
  refine Wx.again ?_
  refine Wn.round ?_
  refine Wc.seq ?_
  refine Wc.region ?_
  refine Wl.q (v := Value.bool false) (q_lss (r := false) rfl rfl (decide_eq_false (by decide))) ?_
  refine Wl.done ?_
  refine Wx.go ?_
  refine Wc.seq ?_
  refine Wc.no rfl ?_
  refine Wc.exit ?_
  refine Wx.thenExit ?_
  refine Wx.thenExit ?_
  refine Wx.out ?_
  refine Wx.go ?_
  refine Wc.seq ?_
  refine Wc.region ?_
  refine Wl.q (v := Value.int .i64 0) (q_assign rfl) ?_
  refine Wl.done ?_
  refine Wx.go ?_
  refine Wc.ret ?_
  refine Wx.fin1 rfl (.inl rfl) (fun w hs => ?_)
  exact ⟨(), trivial, rfl, (st_drop (st_drop (st_pull [0, 1] hs)))⟩

set_option maxRecDepth 8000 in
theorem data_ro (W0 : World) (x s : Nat) (ts : List TermR) (hw : Wf ts) (ns : List Nat) (v : Value) (hns : ns.length ≤ 500) (l : List Int) (hl5 : l.length ≤ 500) (hts : ts.length ≤ 900000) (hlo : ∀ x ∈ l, (-9223372036854775808 ≤ x ∧ x ≤ 9223372036854775807)) (vl : Value) (hl : Rd W0 vl l.length (l.flatMap int1))  :
    Con Try.prog W0 18 #[Value.pointer (some ⟨x, 0, none⟩), vl] [pt x 56 [Value.pointer (some ⟨s, 0, none⟩), v, Value.int .i64 0], sl 3 1 v ns.length (ns.map natV), storeW s ts] (X := List TermR × List Nat × Value) (fun y => DtJ ts l y.1 y.2.1) (fun _ => .tuple #[]) (fun y => [pt x 56 [Value.pointer (some ⟨s, 0, none⟩), y.2.2, Value.int .i64 0], sl 3 1 y.2.2 ((ns ++ y.2.1).length) ((ns ++ y.2.1).map natV), storeW s y.1]) := by
  refine Con.of (args := [Value.pointer (some ⟨x, 0, none⟩), vl]) Try.func18 rfl Try.ntmps18 rfl (fun F => ?_)
  show Wc _ W0 _ _ _ _ _ ((pt x 56 [Value.pointer (some ⟨s, 0, none⟩), v, Value.int .i64 0]) :: (sl 3 1 v ns.length (ns.map natV)) :: (storeW s ts) :: F)
  refine Wc.seq ?_
  refine Wc.region ?_
  refine Wl.q (v := vl) (q_move rfl) ?_
  refine Wl.q (v := Value.int .i64 ((l.length : Nat) : Int)) (q_len_is Try.underlying22 rfl hl.shape) ?_
  refine Wl.q (v := Value.int .i64 0) (q_move rfl) ?_
  refine Wl.done ?_
  refine Wx.go ?_
  refine Wc.block ?_
  refine Wc.loop (X := Nat × List TermR × List Nat × Value) (fun (i, z, ms, w0) E => E 10 = Value.int .i64 ((i : Nat) : Int) ∧ E 0 = Value.pointer (some ⟨x, 0, none⟩) ∧ E 8 = vl ∧ E 9 = Value.int .i64 ((l.length : Nat) : Int) ∧ i ≤ l.length ∧ DtJ ts (l.take i) z ms) (fun (i, z, ms, w0) => (pt x 56 [Value.pointer (some ⟨s, 0, none⟩), w0, Value.int .i64 0]) :: (sl 3 1 w0 ((ns ++ ms).length) ((ns ++ ms).map natV)) :: (storeW s z) :: F) (fun (i, z, ms, w0) => l.length - i) (0, ts, [], v) ?_ ?_ ?_
  · exact ⟨rfl, rfl, rfl, rfl, (by omega), (DtJ.start hw)⟩
  · exact fun w hs => by dsimp only; rw [List.append_nil]; exact hs
  · rintro ⟨i, z, ms, w0⟩ E2 ⟨hE10_0, hE0_0, hE8_0, hE9_0, hi, hD⟩
    dsimp only at *
    refine Wc.seq ?_
    refine Wc.region ?_
    by_cases hlt : ((i : Nat) : Int) < ((l.length : Nat) : Int)
    ·
      obtain ⟨o, hget⟩ : ∃ o, l[i]? = some o := ⟨l[i]'(by omega), List.getElem?_eq_getElem (by omega)⟩
      have hr := hlo o (List.mem_of_getElem? hget)
      have hst := hD.step hr (by rw [List.length_take]; omega)
      have htk : l.take (i + 1) = l.take i ++ [o] := by rw [List.take_succ_eq_append_getElem (by omega), (List.getElem?_eq_some_iff.1 hget).2]
      have hml := hD.dat.len
      rw [List.length_take] at hml
      have hnl : (ns ++ ms).length ≤ 1000 := by rw [List.length_append]; omega
      refine Wl.q (v := Value.bool true) (q_lss (r := true) hE10_0 hE9_0 (decide_eq_true hlt)) ?_
      refine Wl.done ?_
      refine Wx.go ?_
      refine Wc.seq ?_
      refine Wc.yes rfl ?_
      refine Wc.skip ?_
      refine Wx.go ?_
      refine Wc.seq ?_
      refine Wc.block ?_
      refine Wc.seq ?_
      refine Wc.region ?_
      refine Wl.q (v := Value.pointer (some ⟨(rb vl), ro vl + i, none⟩)) (q_idx_is (m := ro vl + i) se_22 hE8_0 (hl.some_ (by omega)) hE10_0 (by omega) (by omega) (by simp)) ?_
      refine Wl.q (v := Value.int .i64 o) (q_load sc_3 rfl (.old (rd1 hl hget))) ?_
      refine Wl.q (v := Value.int .i64 o) (q_assign rfl) ?_
      refine Wl.done ?_
      refine Wx.go ?_
      refine Wc.seq ?_
      refine Wc.region ?_
      refine Wl.q (v := Value.pointer (some ⟨x, 0, none⟩)) (q_move hE0_0) ?_
      refine Wl.q (v := Value.pointer (some ⟨x, 0, none⟩)) (q_nil_ptr rfl) ?_
      refine Wl.q (v := Value.pointer (some ⟨x, 0, none⟩)) (q_field (m := 0) fo_56_0 rfl rfl) ?_
      refine Wl.q (v := Value.pointer (some ⟨s, 0, none⟩)) (q_load sc_25 rfl (.cel (i := 0) rfl rfl)) ?_
      refine Wl.q (v := Value.int .i64 o) (q_move rfl) ?_
      refine Wl.e (e_buildSlice (cs := [Value.int .i64 o]) se_77 zo_2 (by decide) (by decide) (by kernel_rfl)) (fun b3 _ => ?_)
      refine Wl.imp (L' := (pt b3 2 [Value.int .i64 o]) :: (pt x 56 [Value.pointer (some ⟨s, 0, none⟩), w0, Value.int .i64 0]) :: (sl 3 1 w0 ((ns ++ ms).length) ((ns ++ ms).map natV)) :: (storeW s z) :: F) (fun _ h => h) ?_
      refine Wl.imp (L' := (storeW s z) :: (pt b3 2 [Value.int .i64 o]) :: (pt x 56 [Value.pointer (some ⟨s, 0, none⟩), w0, Value.int .i64 0]) :: (sl 3 1 w0 ((ns ++ ms).length) ((ns ++ ms).map natV)) :: F) (fun _ h => st_pull [3, 0] h) ?_
      refine Wl.e (e_call (F := (pt x 56 [Value.pointer (some ⟨s, 0, none⟩), w0, Value.int .i64 0]) :: (sl 3 1 w0 ((ns ++ ms).length) ((ns ++ ms).map natV)) :: F) (args := [Value.pointer (some ⟨s, 0, none⟩), Value.slice (some ⟨b3, 0, none⟩) 1 1]) Try.call30 rfl (da1_Data W0 z ((mk z ⟨2, o, 0, 0⟩).1) o ((mk z ⟨2, o, 0, 0⟩).2.1) hst.1 hst.2.1 hst.2.2.1 s b3)) (fun _ _ => ?_)
      refine Wl.imp (L' := (storeW s ((mk z ⟨2, o, 0, 0⟩).1)) :: (pt b3 2 [Value.int .i64 o]) :: (pt x 56 [Value.pointer (some ⟨s, 0, none⟩), w0, Value.int .i64 0]) :: (sl 3 1 w0 ((ns ++ ms).length) ((ns ++ ms).map natV)) :: F) (fun _ h => h) ?_
      refine Wl.q (v := Value.tuple #[Value.int .i64 (((mk z ⟨2, o, 0, 0⟩).2.1 : Nat) : Int), Value.int .i64 0]) (q_move rfl) ?_
      refine Wl.q (v := Value.int .i64 (((mk z ⟨2, o, 0, 0⟩).2.1 : Nat) : Int)) (q_extract (i := 0) rfl rfl) ?_
      refine Wl.q (v := Value.int .i64 0) (q_extract (i := 1) rfl rfl) ?_
      refine Wl.q (v := Value.int .i64 (((mk z ⟨2, o, 0, 0⟩).2.1 : Nat) : Int)) (q_assign rfl) ?_
      refine Wl.q (v := Value.int .i64 0) (q_assign rfl) ?_
      refine Wl.done ?_
      refine Wx.go ?_
      refine Wc.seq ?_
      refine Wc.seq ?_
      refine Wc.region ?_
      refine Wl.q (v := Value.pointer (some ⟨x, 0, none⟩)) (q_move hE0_0) ?_
      refine Wl.q (v := Value.pointer (some ⟨x, 0, none⟩)) (q_nil_ptr rfl) ?_
      refine Wl.q (v := Value.pointer (some ⟨x, 2, none⟩)) (q_field (m := 2) fo_56_2 rfl rfl) ?_
      refine Wl.q (v := Value.int .i64 0) (q_load sc_33 rfl (.cel (i := 2) rfl rfl)) ?_
      refine Wl.q (v := Value.bool true) (q_eql (r := true) rfl rfl (decide_eq_true (by decide))) ?_
      refine Wl.done ?_
      refine Wx.go ?_
      refine Wc.yes rfl ?_
      refine Wc.region ?_
      refine Wl.q (v := Value.pointer (some ⟨x, 0, none⟩)) (q_move hE0_0) ?_
      refine Wl.q (v := Value.int .i64 0) (q_move rfl) ?_
      refine Wl.q (v := Value.pointer (some ⟨x, 0, none⟩)) (q_nil_ptr rfl) ?_
      refine Wl.q (v := Value.pointer (some ⟨x, 2, none⟩)) (q_field (m := 2) fo_56_2 rfl rfl) ?_
      refine Wl.e (e_store (i := 2) (v := Value.int .i64 0) sz_33 rfl rfl (fun _ _ => rfl) rfl (by simp)) (fun _ _ => ?_)
      refine Wl.imp (L' := (storeW s ((mk z ⟨2, o, 0, 0⟩).1)) :: (pt b3 2 [Value.int .i64 o]) :: (pt x 56 [Value.pointer (some ⟨s, 0, none⟩), w0, Value.int .i64 0]) :: (sl 3 1 w0 ((ns ++ ms).length) ((ns ++ ms).map natV)) :: F) (fun _ h => h) ?_
      refine Wl.done ?_
      refine Wx.go ?_
      refine Wc.region ?_
      refine Wl.q (v := Value.pointer (some ⟨x, 0, none⟩)) (q_move hE0_0) ?_
      refine Wl.q (v := Value.pointer (some ⟨x, 0, none⟩)) (q_move hE0_0) ?_
      refine Wl.q (v := Value.pointer (some ⟨x, 0, none⟩)) (q_nil_ptr rfl) ?_
      refine Wl.q (v := Value.pointer (some ⟨x, 1, none⟩)) (q_field (m := 1) fo_56_1 rfl rfl) ?_
      refine Wl.q (v := w0) (q_load sc_22 rfl (.cel (i := 2) rfl rfl)) ?_
      refine Wl.q (v := Value.int .i64 (((mk z ⟨2, o, 0, 0⟩).2.1 : Nat) : Int)) (q_move rfl) ?_
      refine Wl.e (e_buildSlice (cs := [Value.int .i64 (((mk z ⟨2, o, 0, 0⟩).2.1 : Nat) : Int)]) se_22 zo_3 (by decide) (by decide) (by kernel_rfl)) (fun b4 _ => ?_)
      refine Wl.imp (L' := (pt b4 3 [Value.int .i64 (((mk z ⟨2, o, 0, 0⟩).2.1 : Nat) : Int)]) :: (storeW s ((mk z ⟨2, o, 0, 0⟩).1)) :: (pt b3 2 [Value.int .i64 o]) :: (pt x 56 [Value.pointer (some ⟨s, 0, none⟩), w0, Value.int .i64 0]) :: (sl 3 1 w0 ((ns ++ ms).length) ((ns ++ ms).map natV)) :: F) (fun _ h => h) ?_
      refine Wl.e (e_append (i := 4) (k := 1) (m := 1) (off := 0) (news := [Value.int .i64 (((mk z ⟨2, o, 0, 0⟩).2.1 : Nat) : Int)]) Try.underlying22 sz_3 by_3 zo_3 rfl rfl rfl rfl rfl (Has.of_pt (i := 0) rfl rfl) rfl (by decide) (by simp only [maxLen]; omega) (by omega)) (fun v5 _ => ?_)
      refine Wl.imp (L' := (pt b4 3 [Value.int .i64 (((mk z ⟨2, o, 0, 0⟩).2.1 : Nat) : Int)]) :: (storeW s ((mk z ⟨2, o, 0, 0⟩).1)) :: (pt b3 2 [Value.int .i64 o]) :: (pt x 56 [Value.pointer (some ⟨s, 0, none⟩), w0, Value.int .i64 0]) :: (sl 3 1 v5 (((ns ++ ms).length) + 1) (((ns ++ ms).map natV) ++ [Value.int .i64 (((mk z ⟨2, o, 0, 0⟩).2.1 : Nat) : Int)])) :: F) (fun _ h => h) ?_
      refine Wl.q (v := Value.pointer (some ⟨x, 0, none⟩)) (q_nil_ptr rfl) ?_
      refine Wl.q (v := Value.pointer (some ⟨x, 1, none⟩)) (q_field (m := 1) fo_56_1 rfl rfl) ?_
      refine Wl.e (e_store (i := 3) (v := v5) sz_22 rfl rfl (fun _ h => sl_one (i := 4) h rfl) rfl (by simp)) (fun _ _ => ?_)
      refine Wl.imp (L' := (pt b4 3 [Value.int .i64 (((mk z ⟨2, o, 0, 0⟩).2.1 : Nat) : Int)]) :: (storeW s ((mk z ⟨2, o, 0, 0⟩).1)) :: (pt b3 2 [Value.int .i64 o]) :: (pt x 56 [Value.pointer (some ⟨s, 0, none⟩), v5, Value.int .i64 0]) :: (sl 3 1 v5 (((ns ++ ms).length) + 1) (((ns ++ ms).map natV) ++ [Value.int .i64 (((mk z ⟨2, o, 0, 0⟩).2.1 : Nat) : Int)])) :: F) (fun _ h => h) ?_
      refine Wl.done ?_
      refine Wx.blockEnd ?_
      refine Wx.go ?_
      refine Wc.region ?_
      refine Wl.q (v := Value.int .i64 ((i + 1 : Nat) : Int)) (q_add (c := ((i + 1 : Nat) : Int)) hE10_0 rfl (by rw [wrap_i64] <;> omega)) ?_
      refine Wl.q (v := Value.int .i64 ((i + 1 : Nat) : Int)) (q_move rfl) ?_
      refine Wl.done ?_
      refine Wx.at (i + 1, (mk z ⟨2, o, 0, 0⟩).1, ms ++ [(mk z ⟨2, o, 0, 0⟩).2.1], v5) ⟨(by simp only; omega), rfl, hE0_0, hE8_0, hE9_0, (by simp only; omega), (by rw [htk]; exact hst.2.2.2)⟩ (fun w hs => by rw [← List.append_assoc, List.map_append, List.length_append]; exact (st_pull [1, 1, 0] (st_drop (st_drop (st_pull [0, 1] hs)))))
    ·
      have hie : i = l.length := by omega
      refine Wl.q (v := Value.bool false) (q_lss (r := false) hE10_0 hE9_0 (decide_eq_false hlt)) ?_
      refine Wl.done ?_
      refine Wx.go ?_
      refine Wc.seq ?_
      refine Wc.no rfl ?_
      refine Wc.exit ?_
      refine Wx.thenExit ?_
      refine Wx.thenExit ?_
      refine Wx.out ?_
      refine Wx.fin0 rfl (.inr rfl) (fun w hs => ?_)
      exact ⟨(z, ms, w0), (by rw [hie, List.take_length] at hD; exact hD), rfl, hs⟩

set_option maxRecDepth 8000 in
theorem data_pt (W0 : World) (x s : Nat) (ts : List TermR) (hw : Wf ts) (ns : List Nat) (v : Value) (hns : ns.length ≤ 500) (l : List Int) (hl5 : l.length ≤ 500) (hts : ts.length ≤ 900000) (hlo : ∀ x ∈ l, (-9223372036854775808 ≤ x ∧ x ≤ 9223372036854775807)) (vb vc : Nat)  :
    Con Try.prog W0 18 #[Value.pointer (some ⟨x, 0, none⟩), Value.slice (some ⟨vb, 0, none⟩) l.length vc] [pt x 56 [Value.pointer (some ⟨s, 0, none⟩), v, Value.int .i64 0], sl 3 1 v ns.length (ns.map natV), storeW s ts, pt vb 3 (l.map intV)] (X := List TermR × List Nat × Value) (fun y => DtJ ts l y.1 y.2.1) (fun _ => .tuple #[]) (fun y => [pt x 56 [Value.pointer (some ⟨s, 0, none⟩), y.2.2, Value.int .i64 0], sl 3 1 y.2.2 ((ns ++ y.2.1).length) ((ns ++ y.2.1).map natV), storeW s y.1, pt vb 3 (l.map intV)]) := by
  refine Con.of (args := [Value.pointer (some ⟨x, 0, none⟩), Value.slice (some ⟨vb, 0, none⟩) l.length vc]) Try.func18 rfl Try.ntmps18 rfl (fun F => ?_)
  show Wc _ W0 _ _ _ _ _ ((pt x 56 [Value.pointer (some ⟨s, 0, none⟩), v, Value.int .i64 0]) :: (sl 3 1 v ns.length (ns.map natV)) :: (storeW s ts) :: (pt vb 3 (l.map intV)) :: F)
  refine Wc.seq ?_
  refine Wc.region ?_
  refine Wl.q (v := Value.slice (some ⟨vb, 0, none⟩) l.length vc) (q_move rfl) ?_
  refine Wl.q (v := Value.int .i64 ((l.length : Nat) : Int)) (q_len_slice Try.underlying22 rfl) ?_
  refine Wl.q (v := Value.int .i64 0) (q_move rfl) ?_
  refine Wl.done ?_
  refine Wx.go ?_
  refine Wc.block ?_
  refine Wc.loop (X := Nat × List TermR × List Nat × Value) (fun (i, z, ms, w0) E => E 10 = Value.int .i64 ((i : Nat) : Int) ∧ E 0 = Value.pointer (some ⟨x, 0, none⟩) ∧ E 8 = Value.slice (some ⟨vb, 0, none⟩) l.length vc ∧ E 9 = Value.int .i64 ((l.length : Nat) : Int) ∧ i ≤ l.length ∧ DtJ ts (l.take i) z ms) (fun (i, z, ms, w0) => (pt x 56 [Value.pointer (some ⟨s, 0, none⟩), w0, Value.int .i64 0]) :: (sl 3 1 w0 ((ns ++ ms).length) ((ns ++ ms).map natV)) :: (storeW s z) :: (pt vb 3 (l.map intV)) :: F) (fun (i, z, ms, w0) => l.length - i) (0, ts, [], v) ?_ ?_ ?_
  · exact ⟨rfl, rfl, rfl, rfl, (by omega), (DtJ.start hw)⟩
  · exact fun w hs => by dsimp only; rw [List.append_nil]; exact hs
  · rintro ⟨i, z, ms, w0⟩ E2 ⟨hE10_0, hE0_0, hE8_0, hE9_0, hi, hD⟩
    dsimp only at *
    refine Wc.seq ?_
    refine Wc.region ?_
    by_cases hlt : ((i : Nat) : Int) < ((l.length : Nat) : Int)
    ·
      obtain ⟨o, hget⟩ : ∃ o, l[i]? = some o := ⟨l[i]'(by omega), List.getElem?_eq_getElem (by omega)⟩
      have hr := hlo o (List.mem_of_getElem? hget)
      have hst := hD.step hr (by rw [List.length_take]; omega)
      have htk : l.take (i + 1) = l.take i ++ [o] := by rw [List.take_succ_eq_append_getElem (by omega), (List.getElem?_eq_some_iff.1 hget).2]
      have hml := hD.dat.len
      rw [List.length_take] at hml
      have hnl : (ns ++ ms).length ≤ 1000 := by rw [List.length_append]; omega
      refine Wl.q (v := Value.bool true) (q_lss (r := true) hE10_0 hE9_0 (decide_eq_true hlt)) ?_
      refine Wl.done ?_
      refine Wx.go ?_
      refine Wc.seq ?_
      refine Wc.yes rfl ?_
      refine Wc.skip ?_
      refine Wx.go ?_
      refine Wc.seq ?_
      refine Wc.block ?_
      refine Wc.seq ?_
      refine Wc.region ?_
      refine Wl.q (v := Value.pointer (some ⟨vb, i, none⟩)) (q_idx (m := i) se_22 hE8_0 hE10_0 (by omega) (by omega) (by simp)) ?_
      refine Wl.q (v := Value.int .i64 o) (q_load sc_3 rfl (.cel (i := 3) rfl (map_at hget))) ?_
      refine Wl.q (v := Value.int .i64 o) (q_assign rfl) ?_
      refine Wl.done ?_
      refine Wx.go ?_
      refine Wc.seq ?_
      refine Wc.region ?_
      refine Wl.q (v := Value.pointer (some ⟨x, 0, none⟩)) (q_move hE0_0) ?_
      refine Wl.q (v := Value.pointer (some ⟨x, 0, none⟩)) (q_nil_ptr rfl) ?_
      refine Wl.q (v := Value.pointer (some ⟨x, 0, none⟩)) (q_field (m := 0) fo_56_0 rfl rfl) ?_
      refine Wl.q (v := Value.pointer (some ⟨s, 0, none⟩)) (q_load sc_25 rfl (.cel (i := 0) rfl rfl)) ?_
      refine Wl.q (v := Value.int .i64 o) (q_move rfl) ?_
      refine Wl.e (e_buildSlice (cs := [Value.int .i64 o]) se_77 zo_2 (by decide) (by decide) (by kernel_rfl)) (fun b3 _ => ?_)
      refine Wl.imp (L' := (pt b3 2 [Value.int .i64 o]) :: (pt x 56 [Value.pointer (some ⟨s, 0, none⟩), w0, Value.int .i64 0]) :: (sl 3 1 w0 ((ns ++ ms).length) ((ns ++ ms).map natV)) :: (storeW s z) :: (pt vb 3 (l.map intV)) :: F) (fun _ h => h) ?_
      refine Wl.imp (L' := (storeW s z) :: (pt b3 2 [Value.int .i64 o]) :: (pt x 56 [Value.pointer (some ⟨s, 0, none⟩), w0, Value.int .i64 0]) :: (sl 3 1 w0 ((ns ++ ms).length) ((ns ++ ms).map natV)) :: (pt vb 3 (l.map intV)) :: F) (fun _ h => st_pull [3, 0] h) ?_
      refine Wl.e (e_call (F := (pt x 56 [Value.pointer (some ⟨s, 0, none⟩), w0, Value.int .i64 0]) :: (sl 3 1 w0 ((ns ++ ms).length) ((ns ++ ms).map natV)) :: (pt vb 3 (l.map intV)) :: F) (args := [Value.pointer (some ⟨s, 0, none⟩), Value.slice (some ⟨b3, 0, none⟩) 1 1]) Try.call30 rfl (da1_Data W0 z ((mk z ⟨2, o, 0, 0⟩).1) o ((mk z ⟨2, o, 0, 0⟩).2.1) hst.1 hst.2.1 hst.2.2.1 s b3)) (fun _ _ => ?_)
      refine Wl.imp (L' := (storeW s ((mk z ⟨2, o, 0, 0⟩).1)) :: (pt b3 2 [Value.int .i64 o]) :: (pt x 56 [Value.pointer (some ⟨s, 0, none⟩), w0, Value.int .i64 0]) :: (sl 3 1 w0 ((ns ++ ms).length) ((ns ++ ms).map natV)) :: (pt vb 3 (l.map intV)) :: F) (fun _ h => h) ?_
      refine Wl.q (v := Value.tuple #[Value.int .i64 (((mk z ⟨2, o, 0, 0⟩).2.1 : Nat) : Int), Value.int .i64 0]) (q_move rfl) ?_
      refine Wl.q (v := Value.int .i64 (((mk z ⟨2, o, 0, 0⟩).2.1 : Nat) : Int)) (q_extract (i := 0) rfl rfl) ?_
      refine Wl.q (v := Value.int .i64 0) (q_extract (i := 1) rfl rfl) ?_
      refine Wl.q (v := Value.int .i64 (((mk z ⟨2, o, 0, 0⟩).2.1 : Nat) : Int)) (q_assign rfl) ?_
      refine Wl.q (v := Value.int .i64 0) (q_assign rfl) ?_
      refine Wl.done ?_
      refine Wx.go ?_
      refine Wc.seq ?_
      refine Wc.seq ?_
      refine Wc.region ?_
      refine Wl.q (v := Value.pointer (some ⟨x, 0, none⟩)) (q_move hE0_0) ?_
      refine Wl.q (v := Value.pointer (some ⟨x, 0, none⟩)) (q_nil_ptr rfl) ?_
      refine Wl.q (v := Value.pointer (some ⟨x, 2, none⟩)) (q_field (m := 2) fo_56_2 rfl rfl) ?_
      refine Wl.q (v := Value.int .i64 0) (q_load sc_33 rfl (.cel (i := 2) rfl rfl)) ?_
      refine Wl.q (v := Value.bool true) (q_eql (r := true) rfl rfl (decide_eq_true (by decide))) ?_
      refine Wl.done ?_
      refine Wx.go ?_
      refine Wc.yes rfl ?_
      refine Wc.region ?_
      refine Wl.q (v := Value.pointer (some ⟨x, 0, none⟩)) (q_move hE0_0) ?_
      refine Wl.q (v := Value.int .i64 0) (q_move rfl) ?_
      refine Wl.q (v := Value.pointer (some ⟨x, 0, none⟩)) (q_nil_ptr rfl) ?_
      refine Wl.q (v := Value.pointer (some ⟨x, 2, none⟩)) (q_field (m := 2) fo_56_2 rfl rfl) ?_
      refine Wl.e (e_store (i := 2) (v := Value.int .i64 0) sz_33 rfl rfl (fun _ _ => rfl) rfl (by simp)) (fun _ _ => ?_)
      refine Wl.imp (L' := (storeW s ((mk z ⟨2, o, 0, 0⟩).1)) :: (pt b3 2 [Value.int .i64 o]) :: (pt x 56 [Value.pointer (some ⟨s, 0, none⟩), w0, Value.int .i64 0]) :: (sl 3 1 w0 ((ns ++ ms).length) ((ns ++ ms).map natV)) :: (pt vb 3 (l.map intV)) :: F) (fun _ h => h) ?_
      refine Wl.done ?_
      refine Wx.go ?_
      refine Wc.region ?_
      refine Wl.q (v := Value.pointer (some ⟨x, 0, none⟩)) (q_move hE0_0) ?_
      refine Wl.q (v := Value.pointer (some ⟨x, 0, none⟩)) (q_move hE0_0) ?_
      refine Wl.q (v := Value.pointer (some ⟨x, 0, none⟩)) (q_nil_ptr rfl) ?_
      refine Wl.q (v := Value.pointer (some ⟨x, 1, none⟩)) (q_field (m := 1) fo_56_1 rfl rfl) ?_
      refine Wl.q (v := w0) (q_load sc_22 rfl (.cel (i := 2) rfl rfl)) ?_
      refine Wl.q (v := Value.int .i64 (((mk z ⟨2, o, 0, 0⟩).2.1 : Nat) : Int)) (q_move rfl) ?_
      refine Wl.e (e_buildSlice (cs := [Value.int .i64 (((mk z ⟨2, o, 0, 0⟩).2.1 : Nat) : Int)]) se_22 zo_3 (by decide) (by decide) (by kernel_rfl)) (fun b4 _ => ?_)
      refine Wl.imp (L' := (pt b4 3 [Value.int .i64 (((mk z ⟨2, o, 0, 0⟩).2.1 : Nat) : Int)]) :: (storeW s ((mk z ⟨2, o, 0, 0⟩).1)) :: (pt b3 2 [Value.int .i64 o]) :: (pt x 56 [Value.pointer (some ⟨s, 0, none⟩), w0, Value.int .i64 0]) :: (sl 3 1 w0 ((ns ++ ms).length) ((ns ++ ms).map natV)) :: (pt vb 3 (l.map intV)) :: F) (fun _ h => h) ?_
      refine Wl.e (e_append (i := 4) (k := 1) (m := 1) (off := 0) (news := [Value.int .i64 (((mk z ⟨2, o, 0, 0⟩).2.1 : Nat) : Int)]) Try.underlying22 sz_3 by_3 zo_3 rfl rfl rfl rfl rfl (Has.of_pt (i := 0) rfl rfl) rfl (by decide) (by simp only [maxLen]; omega) (by omega)) (fun v5 _ => ?_)
      refine Wl.imp (L' := (pt b4 3 [Value.int .i64 (((mk z ⟨2, o, 0, 0⟩).2.1 : Nat) : Int)]) :: (storeW s ((mk z ⟨2, o, 0, 0⟩).1)) :: (pt b3 2 [Value.int .i64 o]) :: (pt x 56 [Value.pointer (some ⟨s, 0, none⟩), w0, Value.int .i64 0]) :: (sl 3 1 v5 (((ns ++ ms).length) + 1) (((ns ++ ms).map natV) ++ [Value.int .i64 (((mk z ⟨2, o, 0, 0⟩).2.1 : Nat) : Int)])) :: (pt vb 3 (l.map intV)) :: F) (fun _ h => h) ?_
      refine Wl.q (v := Value.pointer (some ⟨x, 0, none⟩)) (q_nil_ptr rfl) ?_
      refine Wl.q (v := Value.pointer (some ⟨x, 1, none⟩)) (q_field (m := 1) fo_56_1 rfl rfl) ?_
      refine Wl.e (e_store (i := 3) (v := v5) sz_22 rfl rfl (fun _ h => sl_one (i := 4) h rfl) rfl (by simp)) (fun _ _ => ?_)
      refine Wl.imp (L' := (pt b4 3 [Value.int .i64 (((mk z ⟨2, o, 0, 0⟩).2.1 : Nat) : Int)]) :: (storeW s ((mk z ⟨2, o, 0, 0⟩).1)) :: (pt b3 2 [Value.int .i64 o]) :: (pt x 56 [Value.pointer (some ⟨s, 0, none⟩), v5, Value.int .i64 0]) :: (sl 3 1 v5 (((ns ++ ms).length) + 1) (((ns ++ ms).map natV) ++ [Value.int .i64 (((mk z ⟨2, o, 0, 0⟩).2.1 : Nat) : Int)])) :: (pt vb 3 (l.map intV)) :: F) (fun _ h => h) ?_
      refine Wl.done ?_
      refine Wx.blockEnd ?_
      refine Wx.go ?_
      refine Wc.region ?_
      refine Wl.q (v := Value.int .i64 ((i + 1 : Nat) : Int)) (q_add (c := ((i + 1 : Nat) : Int)) hE10_0 rfl (by rw [wrap_i64] <;> omega)) ?_
      refine Wl.q (v := Value.int .i64 ((i + 1 : Nat) : Int)) (q_move rfl) ?_
      refine Wl.done ?_
      refine Wx.at (i + 1, (mk z ⟨2, o, 0, 0⟩).1, ms ++ [(mk z ⟨2, o, 0, 0⟩).2.1], v5) ⟨(by simp only; omega), rfl, hE0_0, hE8_0, hE9_0, (by simp only; omega), (by rw [htk]; exact hst.2.2.2)⟩ (fun w hs => by rw [← List.append_assoc, List.map_append, List.length_append]; exact (st_pull [1, 1, 0, 0] (st_drop (st_drop (st_pull [0, 1] hs)))))
    ·
      have hie : i = l.length := by omega
      refine Wl.q (v := Value.bool false) (q_lss (r := false) hE10_0 hE9_0 (decide_eq_false hlt)) ?_
      refine Wl.done ?_
      refine Wx.go ?_
      refine Wc.seq ?_
      refine Wc.no rfl ?_
      refine Wc.exit ?_
      refine Wx.thenExit ?_
      refine Wx.thenExit ?_
      refine Wx.out ?_
      refine Wx.fin0 rfl (.inr rfl) (fun w hs => ?_)
      exact ⟨(z, ms, w0), (by rw [hie, List.take_length] at hD; exact hD), rfl, hs⟩

theorem end_w (W0 : World) (x s : Nat) (ts : List TermR) (hw : Wf ts) (v : Value) (li : List Nat) (hlm : li.length ≤ 2000) (hts : ts.length ≤ 1000000) (hne : 0 < li.length) (hall : ∀ x ∈ li, 1 ≤ x ∧ x ≤ ts.length) :
    Con Try.prog W0 19 #[Value.pointer (some ⟨x, 0, none⟩)] [pt x 56 [Value.pointer (some ⟨s, 0, none⟩), v, Value.int .i64 0], storeW s ts, sl 3 1 v li.length (li.map natV)] (X := List TermR × Nat) (fun z => LsJ ts z li (li.length - 1)) (fun z => .tuple #[.int .i64 ((z.2 : Nat) : Int), .int .i64 0]) (fun z => [pt x 56 [Value.pointer (some ⟨s, 0, none⟩), v, Value.int .i64 0], storeW s z.1, sl 3 1 v li.length (li.map natV)]) := by
  refine Con.of (args := [Value.pointer (some ⟨x, 0, none⟩)]) Try.func19 rfl Try.ntmps19 rfl (fun F => ?_)
  show Wc _ W0 _ _ _ _ _ ((pt x 56 [Value.pointer (some ⟨s, 0, none⟩), v, Value.int .i64 0]) :: (storeW s ts) :: (sl 3 1 v li.length (li.map natV)) :: F)
  refine Wc.seq ?_
  refine Wc.region ?_
  refine Wl.q (v := Value.int .i64 0) (q_assign rfl) ?_
  refine Wl.q (v := Value.int .i64 0) (q_assign rfl) ?_
  refine Wl.done ?_
  refine Wx.go ?_
  refine Wc.seq ?_
  refine Wc.seq ?_
  refine Wc.region ?_
  refine Wl.q (v := Value.pointer (some ⟨x, 0, none⟩)) (q_move rfl) ?_
  refine Wl.q (v := Value.pointer (some ⟨x, 0, none⟩)) (q_nil_ptr rfl) ?_
  refine Wl.q (v := Value.pointer (some ⟨x, 2, none⟩)) (q_field (m := 2) fo_56_2 rfl rfl) ?_
  refine Wl.q (v := Value.int .i64 0) (q_load sc_33 rfl (.cel (i := 0) rfl rfl)) ?_
  refine Wl.q (v := Value.bool false) (q_neq (r := true) rfl rfl (decide_eq_true (by decide))) ?_
  refine Wl.done ?_
  refine Wx.go ?_
  refine Wc.no rfl ?_
  refine Wc.skip ?_
  refine Wx.go ?_
  refine Wc.seq ?_
  refine Wc.drawsS [8] ((pt x 56 [Value.pointer (some ⟨s, 0, none⟩), v, Value.int .i64 0]) :: (storeW s ts) :: (sl 3 1 v li.length (li.map natV)) :: []) (by kernel_rfl) ?_
  refine Wr.pure (v := Value.pointer (some ⟨x, 0, none⟩)) 0 rfl (by kernel_rfl) (.inr (fun _ h => st_take [0, 0, 0] h)) (.inl ⟨rfl, fun _ => q_move rfl⟩) ?_
  refine Wr.pure (v := Value.pointer (some ⟨x, 0, none⟩)) 1 rfl (by kernel_rfl) (.inr (fun _ h => st_take [0, 0, 0] h)) (.inl ⟨rfl, fun _ => q_nil_ptr rfl⟩) ?_
  refine Wr.pure (v := Value.pointer (some ⟨x, 0, none⟩)) 2 rfl (by kernel_rfl) (.inr (fun _ h => st_take [0, 0, 0] h)) (.inl ⟨rfl, fun _ => q_field (m := 0) fo_56_0 rfl rfl⟩) ?_
  refine Wr.take (v := Value.pointer (some ⟨s, 0, none⟩)) 3 rfl (by kernel_rfl) (fun _ h => st_take [0, 0, 0] h) (.inl ⟨rfl, q_load sc_25 rfl (.cel (i := 0) rfl rfl)⟩) ?_
  refine Wr.pure (v := Value.pointer (some ⟨x, 0, none⟩)) 4 rfl (by kernel_rfl) (.inr (fun _ h => st_take [0, 0, 0] h)) (.inl ⟨rfl, fun _ => q_move rfl⟩) ?_
  refine Wr.pure (v := Value.pointer (some ⟨x, 0, none⟩)) 5 rfl (by kernel_rfl) (.inr (fun _ h => st_take [0, 0, 0] h)) (.inl ⟨rfl, fun _ => q_nil_ptr rfl⟩) ?_
  refine Wr.pure (v := Value.pointer (some ⟨x, 1, none⟩)) 6 rfl (by kernel_rfl) (.inr (fun _ h => st_take [0, 0, 0] h)) (.inl ⟨rfl, fun _ => q_field (m := 1) fo_56_1 rfl rfl⟩) ?_
  refine Wr.take (v := v) 7 rfl (by kernel_rfl) (fun _ h => st_take [0, 0, 0] h) (.inl ⟨rfl, q_load sc_22 rfl (.cel (i := 0) rfl rfl)⟩) ?_
  refine Wr.imp (L' := (storeW s ts) :: (sl 3 1 v li.length (li.map natV)) :: (pt x 56 [Value.pointer (some ⟨s, 0, none⟩), v, Value.int .i64 0]) :: F) (fun _ h => st_pull [1, 1] h) ?_
  refine Wr.e 8 (by kernel_rfl) rfl (e_call (F := (pt x 56 [Value.pointer (some ⟨s, 0, none⟩), v, Value.int .i64 0]) :: F) (args := [Value.pointer (some ⟨s, 0, none⟩), v]) Try.call28 rfl (list_w W0 s ts hw v li hlm hts hne hall)) (.inl (by kernel_rfl)) (fun zl hzl => ?_)
  refine Wr.imp (L' := (storeW s zl.1) :: (sl 3 1 v li.length (li.map natV)) :: (pt x 56 [Value.pointer (some ⟨s, 0, none⟩), v, Value.int .i64 0]) :: F) (fun _ h => h) ?_
  refine Wr.rebaseS [] ((storeW s zl.1) :: (sl 3 1 v li.length (li.map natV)) :: (pt x 56 [Value.pointer (some ⟨s, 0, none⟩), v, Value.int .i64 0]) :: []) (by kernel_rfl) ?_
  refine Wr.pure (v := Value.int .i64 ((zl.2 : Nat) : Int)) 9 rfl (by kernel_rfl) (.inr (fun _ h => st_take [0, 0, 0] h)) (.inl ⟨rfl, fun _ => q_extract (i := 0) rfl rfl⟩) ?_
  refine Wr.pure (v := Value.int .i64 0) 10 rfl (by kernel_rfl) (.inr (fun _ h => st_take [0, 0, 0] h)) (.inl ⟨rfl, fun _ => q_extract (i := 1) rfl rfl⟩) ?_
  refine Wr.pure (v := Value.int .i64 ((zl.2 : Nat) : Int)) 11 rfl (by kernel_rfl) (.inr (fun _ h => st_take [0, 0, 0] h)) (.inl ⟨rfl, fun _ => q_assign rfl⟩) ?_
  refine Wr.pure (v := Value.int .i64 0) 12 rfl (by kernel_rfl) (.inr (fun _ h => st_take [0, 0, 0] h)) (.inl ⟨rfl, fun _ => q_assign rfl⟩) ?_
  refine Wr.done (by kernel_rfl) ?_
  refine Wx.go ?_
  refine Wc.ret ?_
  refine Wx.fin2 rfl (.inl rfl) (fun w hs => ?_)
  exact ⟨zl, hzl, rfl, (st_pull [2, 0, 0] (hs))⟩

set_option maxRecDepth 8000 in
theorem digest_w (W0 : World) (s : Nat) (ts : List TermR) (hw : Wf ts) (hts : ts.length ≤ 800000) (vl : Value) (l : List Int) (hl : Rd W0 vl l.length (l.flatMap int1)) (h8 : l.length ≤ 8) (hlo : (∀ x ∈ l, (-9223372036854775808 ≤ x ∧ x ≤ 9223372036854775807))) :
    Con Try.prog W0 5 #[Value.pointer (some ⟨s, 0, none⟩), Value.slice none 0 0, vl] [storeW s ts] (X := List TermR × Nat) (fun z => DgJ ts l z.1 z.2) (fun z => .tuple #[.int .i64 ((z.2 : Nat) : Int), .int .i64 0]) (fun z => [storeW s z.1]) := by
  refine Con.of (args := [Value.pointer (some ⟨s, 0, none⟩), Value.slice none 0 0, vl]) Try.func5 rfl Try.ntmps5 rfl (fun F => ?_)
  show Wc _ W0 _ _ _ _ _ ((storeW s ts) :: F)
  refine Wc.seq ?_
  refine Wc.region ?_
  refine Wl.q (v := Value.int .i64 0) (q_assign rfl) ?_
  refine Wl.q (v := Value.int .i64 0) (q_assign rfl) ?_
  refine Wl.done ?_
  refine Wx.go ?_
  refine Wc.seq ?_
  refine Wc.seq ?_
  refine Wc.region ?_
  refine Wl.q (v := Value.pointer (some ⟨s, 0, none⟩)) (q_move rfl) ?_
  refine Wl.e (e_call (F := F) (args := [Value.pointer (some ⟨s, 0, none⟩), Value.slice none 0 0]) Try.call17 rfl (there0 W0 s ts)) (fun _ _ => ?_)
  refine Wl.imp (L' := (storeW s ts) :: F) (fun _ h => h) ?_
  refine Wl.q (v := Value.int .i64 0) (q_assign rfl) ?_
  refine Wl.done ?_
  refine Wx.go ?_
  refine Wc.seq ?_
  refine Wc.region ?_
  refine Wl.q (v := Value.int .i64 0) (q_move rfl) ?_
  refine Wl.q (v := Value.bool false) (q_neq (r := true) rfl rfl (decide_eq_true (by decide))) ?_
  refine Wl.done ?_
  refine Wx.go ?_
  refine Wc.no rfl ?_
  refine Wc.skip ?_
  refine Wx.go ?_
  refine Wc.seq ?_
  refine Wc.seq ?_
  refine Wc.region ?_
  refine Wl.q (v := Value.slice none 0 0) (q_move rfl) ?_
  refine Wl.q (v := Value.int .i64 0) (q_len_slice Try.underlying50 rfl) ?_
  refine Wl.q (v := Value.bool false) (q_gtr (r := false) rfl rfl (decide_eq_false (by decide))) ?_
  refine Wl.q (v := Value.bool false) (q_move rfl) ?_
  refine Wl.q (v := vl) (q_move rfl) ?_
  refine Wl.q (v := Value.int .i64 ((l.length : Nat) : Int)) (q_len_is Try.underlying22 rfl hl.shape) ?_
  refine Wl.q (v := Value.bool false) (q_gtr (r := false) rfl rfl (decide_eq_false (by omega))) ?_
  refine Wl.q (v := Value.bool false) (q_pick (t := false) rfl rfl) ?_
  refine Wl.done ?_
  refine Wx.go ?_
  refine Wc.no rfl ?_
  refine Wc.skip ?_
  refine Wx.go ?_
  refine Wc.seq ?_
  refine Wc.seq ?_
  refine Wc.region ?_
  refine Wl.q (v := Value.slice none 0 0) (q_move rfl) ?_
  refine Wl.q (v := Value.int .i64 0) (q_len_slice Try.underlying50 rfl) ?_
  refine Wl.q (v := Value.int .i64 0) (q_move rfl) ?_
  refine Wl.done ?_
  refine Wx.go ?_
  refine Wc.block ?_
  refine Wc.rounds 1 ?_
  refine Wn.round ?_
  refine Wc.seq ?_
  refine Wc.region ?_
  refine Wl.q (v := Value.bool false) (q_lss (r := false) rfl rfl (decide_eq_false (by decide))) ?_
  refine Wl.done ?_
  refine Wx.go ?_
  refine Wc.seq ?_
  refine Wc.no rfl ?_
  refine Wc.exit ?_
  refine Wx.thenExit ?_
  refine Wx.thenExit ?_
  refine Wx.out ?_
  refine Wx.go ?_
  refine Wc.seq ?_
  refine Wc.region ?_
  refine Wl.q (v := Value.pointer (some ⟨s, 0, none⟩)) (q_move rfl) ?_
  refine Wl.q (v := Value.agg #[Value.pointer (some ⟨s, 0, none⟩), Value.slice none 0 0, Value.int .i64 0]) (q_build (pl := [(0, 1), (1, 1), (2, 1)]) Try.underlying56 zo_56 (by kernel_rfl) (by kernel_rfl)) ?_
  refine Wl.e (e_box (x := .tmp 46) (vs := [Value.pointer (some ⟨s, 0, none⟩), Value.slice none 0 0, Value.int .i64 0]) rfl) (fun xb _ => ?_)
  refine Wl.imp (L' := (pt xb 56 [Value.pointer (some ⟨s, 0, none⟩), Value.slice none 0 0, Value.int .i64 0]) :: (storeW s ts) :: F) (fun _ h => h) ?_
  refine Wl.q (v := Value.pointer (some ⟨xb, 0, none⟩)) (q_assign rfl) ?_
  refine Wl.done ?_
  refine Wx.go ?_
  refine Wc.seq ?_
  refine Wc.region ?_
  refine Wl.q (v := Value.pointer (some ⟨xb, 0, none⟩)) (q_move rfl) ?_
  refine Wl.q (v := Value.slice none 0 0) (q_move rfl) ?_
  refine Wl.q (v := Value.int .i64 0) (q_len_slice Try.underlying50 rfl) ?_
  refine Wl.e (e_buildSlice (cs := [Value.int .i64 0]) se_22 zo_3 (by decide) (by decide) (by kernel_rfl)) (fun b1 _ => ?_)
  refine Wl.imp (L' := (pt b1 3 [Value.int .i64 0]) :: (pt xb 56 [Value.pointer (some ⟨s, 0, none⟩), Value.slice none 0 0, Value.int .i64 0]) :: (storeW s ts) :: F) (fun _ h => h) ?_
  refine Wl.imp (L' := (sl 3 1 (Value.slice none 0 0) (([] : List Nat).length) (([] : List Nat).map natV)) :: (pt b1 3 [Value.int .i64 0]) :: (pt xb 56 [Value.pointer (some ⟨s, 0, none⟩), Value.slice none 0 0, Value.int .i64 0]) :: (storeW s ts) :: F) (fun w hs => st_sl_nil hs) ?_
  refine Wl.imp (L' := (pt xb 56 [Value.pointer (some ⟨s, 0, none⟩), Value.slice none 0 0, Value.int .i64 0]) :: (sl 3 1 (Value.slice none 0 0) (([] : List Nat).length) (([] : List Nat).map natV)) :: (storeW s ts) :: (pt b1 3 [Value.int .i64 0]) :: F) (fun _ h => st_pull [2, 0, 1, 0] h) ?_
  refine Wl.e (e_call (F := F) (args := [Value.pointer (some ⟨xb, 0, none⟩), Value.slice (some ⟨b1, 0, none⟩) 1 1]) Try.call18 rfl (data_pt W0 xb s ts hw ([] : List Nat) (Value.slice none 0 0) (by decide) [0] (by simp only [List.length_cons, List.length_nil]; omega) (by omega) (fun x hx => by rw [List.mem_singleton] at hx; omega) b1 1)) (fun ⟨z1, m1, w1⟩ D1 => ?_)
  refine Wl.imp (L' := (pt xb 56 [Value.pointer (some ⟨s, 0, none⟩), w1, Value.int .i64 0]) :: (sl 3 1 w1 ((([] : List Nat) ++ m1).length) ((([] : List Nat) ++ m1).map natV)) :: (storeW s z1) :: (pt b1 3 [Value.int .i64 0]) :: F) (fun _ h => h) ?_
  have D1 : DtJ ts [0] z1 m1 := D1
  have D1l := D1.len
  have D1e := D1.ext.len
  have D1n := D1.dat.len
  try simp only [List.length_cons, List.length_nil] at D1l D1n
  refine Wl.done ?_
  refine Wx.go ?_
  refine Wc.seq ?_
  refine Wc.seq ?_
  refine Wc.region ?_
  refine Wl.q (v := Value.slice none 0 0) (q_move rfl) ?_
  refine Wl.q (v := Value.int .i64 0) (q_len_slice Try.underlying50 rfl) ?_
  refine Wl.q (v := Value.int .i64 0) (q_move rfl) ?_
  refine Wl.done ?_
  refine Wx.go ?_
  refine Wc.block ?_
  refine Wc.rounds 1 ?_
  refine Wn.round ?_
  refine Wc.seq ?_
  refine Wc.region ?_
  refine Wl.q (v := Value.bool false) (q_lss (r := false) rfl rfl (decide_eq_false (by decide))) ?_
  refine Wl.done ?_
  refine Wx.go ?_
  refine Wc.seq ?_
  refine Wc.no rfl ?_
  refine Wc.exit ?_
  refine Wx.thenExit ?_
  refine Wx.thenExit ?_
  refine Wx.out ?_
  refine Wx.go ?_
  refine Wc.seq ?_
  refine Wc.region ?_
  refine Wl.q (v := Value.pointer (some ⟨xb, 0, none⟩)) (q_move rfl) ?_
  refine Wl.q (v := vl) (q_move rfl) ?_
  refine Wl.q (v := Value.int .i64 ((l.length : Nat) : Int)) (q_len_is Try.underlying22 rfl hl.shape) ?_
  refine Wl.e (e_buildSlice (cs := [Value.int .i64 ((l.length : Nat) : Int)]) se_22 zo_3 (by decide) (by decide) (by kernel_rfl)) (fun b2 _ => ?_)
  refine Wl.imp (L' := (pt b2 3 [Value.int .i64 ((l.length : Nat) : Int)]) :: (pt xb 56 [Value.pointer (some ⟨s, 0, none⟩), w1, Value.int .i64 0]) :: (sl 3 1 w1 ((([] : List Nat) ++ m1).length) ((([] : List Nat) ++ m1).map natV)) :: (storeW s z1) :: (pt b1 3 [Value.int .i64 0]) :: F) (fun _ h => h) ?_
  refine Wl.imp (L' := (pt xb 56 [Value.pointer (some ⟨s, 0, none⟩), w1, Value.int .i64 0]) :: (sl 3 1 w1 ((([] : List Nat) ++ m1).length) ((([] : List Nat) ++ m1).map natV)) :: (storeW s z1) :: (pt b2 3 [Value.int .i64 ((l.length : Nat) : Int)]) :: (pt b1 3 [Value.int .i64 0]) :: F) (fun _ h => st_pull [1, 1, 1, 0] h) ?_
  refine Wl.e (e_call (F := (pt b1 3 [Value.int .i64 0]) :: F) (args := [Value.pointer (some ⟨xb, 0, none⟩), Value.slice (some ⟨b2, 0, none⟩) 1 1]) Try.call18 rfl (data_pt W0 xb s z1 D1.wf (([] : List Nat) ++ m1) w1 (by simp only [List.nil_append]; omega) [((l.length : Nat) : Int)] (by simp only [List.length_cons, List.length_nil]; omega) (by omega) (fun x hx => by rw [List.mem_singleton] at hx; omega) b2 1)) (fun ⟨z2, m2, w2⟩ D2 => ?_)
  refine Wl.imp (L' := (pt xb 56 [Value.pointer (some ⟨s, 0, none⟩), w2, Value.int .i64 0]) :: (sl 3 1 w2 (((([] : List Nat) ++ m1) ++ m2).length) (((([] : List Nat) ++ m1) ++ m2).map natV)) :: (storeW s z2) :: (pt b2 3 [Value.int .i64 ((l.length : Nat) : Int)]) :: (pt b1 3 [Value.int .i64 0]) :: F) (fun _ h => h) ?_
  have D2 : DtJ z1 [((l.length : Nat) : Int)] z2 m2 := D2
  have D2l := D2.len
  have D2e := D2.ext.len
  have D2n := D2.dat.len
  try simp only [List.length_cons, List.length_nil] at D2l D2n
  refine Wl.done ?_
  refine Wx.go ?_
  refine Wc.seq ?_
  refine Wc.region ?_
  refine Wl.q (v := Value.pointer (some ⟨xb, 0, none⟩)) (q_move rfl) ?_
  refine Wl.q (v := vl) (q_move rfl) ?_
  refine Wl.e (e_call (F := (pt b2 3 [Value.int .i64 ((l.length : Nat) : Int)]) :: (pt b1 3 [Value.int .i64 0]) :: F) (args := [Value.pointer (some ⟨xb, 0, none⟩), vl]) Try.call18 rfl (data_ro W0 xb s z2 D2.wf ((([] : List Nat) ++ m1) ++ m2) w2 (by simp only [List.nil_append, List.length_append]; omega) l (by omega) (by omega) hlo vl hl)) (fun ⟨z3, m3, w3⟩ D3 => ?_)
  refine Wl.imp (L' := (pt xb 56 [Value.pointer (some ⟨s, 0, none⟩), w3, Value.int .i64 0]) :: (sl 3 1 w3 ((((([] : List Nat) ++ m1) ++ m2) ++ m3).length) ((((([] : List Nat) ++ m1) ++ m2) ++ m3).map natV)) :: (storeW s z3) :: (pt b2 3 [Value.int .i64 ((l.length : Nat) : Int)]) :: (pt b1 3 [Value.int .i64 0]) :: F) (fun _ h => h) ?_
  have D3 : DtJ z2 l z3 m3 := D3
  have D3l := D3.len
  have D3e := D3.ext.len
  have D3n := D3.dat.len
  try simp only [List.length_cons, List.length_nil] at D3l D3n
  refine Wl.done ?_
  refine Wx.go ?_
  refine Wc.seq ?_
  refine Wc.region ?_
  refine Wl.q (v := Value.pointer (some ⟨xb, 0, none⟩)) (q_move rfl) ?_
  have G := dg_list D1 D2 D3
  refine Wl.imp (L' := (pt xb 56 [Value.pointer (some ⟨s, 0, none⟩), w3, Value.int .i64 0]) :: (storeW s z3) :: (sl 3 1 w3 ((((([] : List Nat) ++ m1) ++ m2) ++ m3).length) ((((([] : List Nat) ++ m1) ++ m2) ++ m3).map natV)) :: (pt b2 3 [Value.int .i64 ((l.length : Nat) : Int)]) :: (pt b1 3 [Value.int .i64 0]) :: F) (fun _ h => st_pull [0, 1, 0] h) ?_
  refine Wl.e (e_call (F := (pt b2 3 [Value.int .i64 ((l.length : Nat) : Int)]) :: (pt b1 3 [Value.int .i64 0]) :: F) (args := [Value.pointer (some ⟨xb, 0, none⟩)]) Try.call19 rfl (end_w W0 xb s z3 D3.wf w3 (((([] : List Nat) ++ m1) ++ m2) ++ m3) (by rw [G.2]; omega) (by omega) (by rw [G.2]; omega) G.1.rng)) (fun zl L => ?_)
  refine Wl.imp (L' := (pt xb 56 [Value.pointer (some ⟨s, 0, none⟩), w3, Value.int .i64 0]) :: (storeW s zl.1) :: (sl 3 1 w3 ((((([] : List Nat) ++ m1) ++ m2) ++ m3).length) ((((([] : List Nat) ++ m1) ++ m2) ++ m3).map natV)) :: (pt b2 3 [Value.int .i64 ((l.length : Nat) : Int)]) :: (pt b1 3 [Value.int .i64 0]) :: F) (fun _ h => h) ?_
  have M := dg_made (k := _) h8 (by omega) D1 D2 D3 L (by rw [G.2]; omega)
  refine Wl.q (v := Value.tuple #[Value.int .i64 ((zl.2 : Nat) : Int), Value.int .i64 0]) (q_move rfl) ?_
  refine Wl.q (v := Value.int .i64 ((zl.2 : Nat) : Int)) (q_extract (i := 0) rfl rfl) ?_
  refine Wl.q (v := Value.int .i64 0) (q_extract (i := 1) rfl rfl) ?_
  refine Wl.q (v := Value.int .i64 ((zl.2 : Nat) : Int)) (q_assign rfl) ?_
  refine Wl.q (v := Value.int .i64 0) (q_assign rfl) ?_
  refine Wl.done ?_
  refine Wx.go ?_
  refine Wc.seq ?_
  refine Wc.seq ?_
  refine Wc.region ?_
  refine Wl.q (v := Value.int .i64 0) (q_move rfl) ?_
  refine Wl.q (v := Value.bool false) (q_neq (r := true) rfl rfl (decide_eq_true (by decide))) ?_
  refine Wl.done ?_
  refine Wx.go ?_
  refine Wc.no rfl ?_
  refine Wc.skip ?_
  refine Wx.go ?_
  refine Wc.seq ?_
  refine Wc.region ?_
  refine Wl.q (v := Value.pointer (some ⟨s, 0, none⟩)) (q_move rfl) ?_
  refine Wl.q (v := Value.int .i64 ((zl.2 : Nat) : Int)) (q_move rfl) ?_
  refine Wl.q (v := Value.agg #[Value.int .u8 7, Value.int .i64 0, Value.int .i64 ((zl.2 : Nat) : Int), Value.int .i64 0]) (q_build (pl := [(0, 1), (1, 1), (2, 1), (3, 1)]) Try.underlying31 zo_31 (by kernel_rfl) (by kernel_rfl)) ?_
  refine Wl.imp (L' := (storeW s zl.1) :: (pt xb 56 [Value.pointer (some ⟨s, 0, none⟩), w3, Value.int .i64 0]) :: (sl 3 1 w3 ((((([] : List Nat) ++ m1) ++ m2) ++ m3).length) ((((([] : List Nat) ++ m1) ++ m2) ++ m3).map natV)) :: (pt b2 3 [Value.int .i64 ((l.length : Nat) : Int)]) :: (pt b1 3 [Value.int .i64 0]) :: F) (fun _ h => st_pull [1] h) ?_
  refine Wl.e (e_call (F := (pt xb 56 [Value.pointer (some ⟨s, 0, none⟩), w3, Value.int .i64 0]) :: (sl 3 1 w3 ((((([] : List Nat) ++ m1) ++ m2) ++ m3).length) ((((([] : List Nat) ++ m1) ++ m2) ++ m3).map natV)) :: (pt b2 3 [Value.int .i64 ((l.length : Nat) : Int)]) :: (pt b1 3 [Value.int .i64 0]) :: F) (args := [Value.pointer (some ⟨s, 0, none⟩), Value.agg #[Value.int .u8 7, Value.int .i64 0, Value.int .i64 ((zl.2 : Nat) : Int), Value.int .i64 0]]) Try.call15 rfl (make_w W0 s zl.1 ((Dd.mk zl.1 ⟨7, 0, (zl.2 : Int), 0⟩).1) (⟨7, 0, ((zl.2 : Nat) : Int), 0⟩ : TermR) ((Dd.mk zl.1 ⟨7, 0, (zl.2 : Int), 0⟩).2.1) _ 0 M.1 M.2.1 rfl)) (fun _ _ => ?_)
  refine Wl.imp (L' := (storeW s ((Dd.mk zl.1 ⟨7, 0, (zl.2 : Int), 0⟩).1)) :: (pt xb 56 [Value.pointer (some ⟨s, 0, none⟩), w3, Value.int .i64 0]) :: (sl 3 1 w3 ((((([] : List Nat) ++ m1) ++ m2) ++ m3).length) ((((([] : List Nat) ++ m1) ++ m2) ++ m3).map natV)) :: (pt b2 3 [Value.int .i64 ((l.length : Nat) : Int)]) :: (pt b1 3 [Value.int .i64 0]) :: F) (fun _ h => h) ?_
  refine Wl.q (v := Value.int .i64 (((Dd.mk zl.1 ⟨7, 0, (zl.2 : Int), 0⟩).2.1 : Nat) : Int)) (q_extract (i := 0) rfl rfl) ?_
  refine Wl.q (v := Value.int .i64 0) (q_extract (i := 1) rfl rfl) ?_
  refine Wl.q (v := Value.int .i64 (((Dd.mk zl.1 ⟨7, 0, (zl.2 : Int), 0⟩).2.1 : Nat) : Int)) (q_assign rfl) ?_
  refine Wl.q (v := Value.int .i64 0) (q_assign rfl) ?_
  refine Wl.done ?_
  refine Wx.go ?_
  refine Wc.ret ?_
  refine Wx.fin2 rfl (.inl rfl) (fun w hs => ?_)
  exact ⟨((Dd.mk zl.1 ⟨7, 0, (zl.2 : Int), 0⟩).1, (Dd.mk zl.1 ⟨7, 0, (zl.2 : Int), 0⟩).2.1), M.2.2, rfl, (st_drop (st_drop (st_drop (st_drop (st_pull [1, 1, 1, 1] hs)))))⟩

set_option maxRecDepth 8000 in
theorem seed_w (W0 : World) (s : Nat) (ts : List TermR) (hw : Wf ts) (hts : ts.length ≤ 800000) (h1 : 1 ≤ ts.length) (g e d : Int) (hg : (-9223372036854775808 ≤ g ∧ g ≤ 9223372036854775807)) (he : (-9223372036854775808 ≤ e ∧ e ≤ 9223372036854775807)) (hd : (-9223372036854775808 ≤ d ∧ d ≤ 9223372036854775807)) (x : Nat) (hx : 1 ≤ x ∧ x ≤ ts.length) (hpx : PubK ts x) :
    Con Try.prog W0 6 #[Value.pointer (some ⟨s, 0, none⟩), Value.int .i64 1, Value.int .i64 g, Value.int .i64 e, Value.int .i64 d, Value.int .i64 ((x : Nat) : Int)] [storeW s ts] (X := List TermR × Nat) (fun z => SdJ ts g e d x z.1 z.2) (fun z => .tuple #[.int .i64 ((z.2 : Nat) : Int), .int .i64 0]) (fun z => [storeW s z.1]) := by
  refine Con.of (args := [Value.pointer (some ⟨s, 0, none⟩), Value.int .i64 1, Value.int .i64 g, Value.int .i64 e, Value.int .i64 d, Value.int .i64 ((x : Nat) : Int)]) Try.func6 rfl Try.ntmps6 rfl (fun F => ?_)
  show Wc _ W0 _ _ _ _ _ ((storeW s ts) :: F)
  refine Wc.seq ?_
  refine Wc.region ?_
  refine Wl.q (v := Value.int .i64 0) (q_assign rfl) ?_
  refine Wl.q (v := Value.int .i64 0) (q_assign rfl) ?_
  refine Wl.done ?_
  refine Wx.go ?_
  refine Wc.seq ?_
  refine Wc.seq ?_
  refine Wc.region ?_
  refine Wl.q (v := Value.pointer (some ⟨s, 0, none⟩)) (q_move rfl) ?_
  refine Wl.q (v := Value.int .i64 1) (q_move rfl) ?_
  refine Wl.q (v := Value.int .i64 ((x : Nat) : Int)) (q_move rfl) ?_
  refine Wl.e (e_buildSlice (cs := [Value.int .i64 1, Value.int .i64 ((x : Nat) : Int)]) se_22 zo_3 (by decide) (by decide) (by kernel_rfl)) (fun b1 _ => ?_)
  refine Wl.imp (L' := (pt b1 3 [Value.int .i64 1, Value.int .i64 ((x : Nat) : Int)]) :: (storeW s ts) :: F) (fun _ h => h) ?_
  refine Wl.imp (L' := (storeW s ts) :: (pt b1 3 [Value.int .i64 1, Value.int .i64 ((x : Nat) : Int)]) :: F) (fun _ h => st_pull [1, 0] h) ?_
  refine Wl.e (e_call (F := F) (args := [Value.pointer (some ⟨s, 0, none⟩), Value.slice (some ⟨b1, 0, none⟩) 2 2]) Try.call17 rfl (there2 W0 s b1 ts 1 _ ((show (1 : Int) ≤ 1 ∧ 1 ≤ (ts.length : Int) by omega)).1 (List.getElem?_eq_getElem (by have := (show (1 : Int) ≤ 1 ∧ 1 ≤ (ts.length : Int) by omega); omega)) ((x : Nat) : Int) _ ((show (1 : Int) ≤ ((x : Nat) : Int) ∧ ((x : Nat) : Int) ≤ (ts.length : Int) by omega)).1 (List.getElem?_eq_getElem (by have := (show (1 : Int) ≤ ((x : Nat) : Int) ∧ ((x : Nat) : Int) ≤ (ts.length : Int) by omega); omega)))) (fun _ _ => ?_)
  refine Wl.imp (L' := (storeW s ts) :: (pt b1 3 [Value.int .i64 1, Value.int .i64 ((x : Nat) : Int)]) :: F) (fun _ h => h) ?_
  refine Wl.q (v := Value.int .i64 0) (q_assign rfl) ?_
  refine Wl.done ?_
  refine Wx.go ?_
  refine Wc.seq ?_
  refine Wc.region ?_
  refine Wl.q (v := Value.int .i64 0) (q_move rfl) ?_
  refine Wl.q (v := Value.bool false) (q_neq (r := true) rfl rfl (decide_eq_true (by decide))) ?_
  refine Wl.done ?_
  refine Wx.go ?_
  refine Wc.no rfl ?_
  refine Wc.skip ?_
  refine Wx.go ?_
  refine Wc.seq ?_
  refine Wc.region ?_
  refine Wl.q (v := Value.pointer (some ⟨s, 0, none⟩)) (q_move rfl) ?_
  refine Wl.q (v := Value.agg #[Value.pointer (some ⟨s, 0, none⟩), Value.slice none 0 0, Value.int .i64 0]) (q_build (pl := [(0, 1), (1, 1), (2, 1)]) Try.underlying56 zo_56 (by kernel_rfl) (by kernel_rfl)) ?_
  refine Wl.e (e_box (x := .tmp 27) (vs := [Value.pointer (some ⟨s, 0, none⟩), Value.slice none 0 0, Value.int .i64 0]) rfl) (fun xb _ => ?_)
  refine Wl.imp (L' := (pt xb 56 [Value.pointer (some ⟨s, 0, none⟩), Value.slice none 0 0, Value.int .i64 0]) :: (storeW s ts) :: (pt b1 3 [Value.int .i64 1, Value.int .i64 ((x : Nat) : Int)]) :: F) (fun _ h => h) ?_
  refine Wl.q (v := Value.pointer (some ⟨xb, 0, none⟩)) (q_assign rfl) ?_
  refine Wl.done ?_
  refine Wx.go ?_
  refine Wc.seq ?_
  refine Wc.region ?_
  refine Wl.q (v := Value.pointer (some ⟨xb, 0, none⟩)) (q_move rfl) ?_
  refine Wl.q (v := Value.int .i64 g) (q_move rfl) ?_
  refine Wl.q (v := Value.int .i64 e) (q_move rfl) ?_
  refine Wl.q (v := Value.int .i64 d) (q_move rfl) ?_
  refine Wl.e (e_buildSlice (cs := [Value.int .i64 g, Value.int .i64 e, Value.int .i64 d]) se_22 zo_3 (by decide) (by decide) (by kernel_rfl)) (fun b2 _ => ?_)
  refine Wl.imp (L' := (pt b2 3 [Value.int .i64 g, Value.int .i64 e, Value.int .i64 d]) :: (pt xb 56 [Value.pointer (some ⟨s, 0, none⟩), Value.slice none 0 0, Value.int .i64 0]) :: (storeW s ts) :: (pt b1 3 [Value.int .i64 1, Value.int .i64 ((x : Nat) : Int)]) :: F) (fun _ h => h) ?_
  refine Wl.imp (L' := (sl 3 1 (Value.slice none 0 0) (([] : List Nat).length) (([] : List Nat).map natV)) :: (pt b2 3 [Value.int .i64 g, Value.int .i64 e, Value.int .i64 d]) :: (pt xb 56 [Value.pointer (some ⟨s, 0, none⟩), Value.slice none 0 0, Value.int .i64 0]) :: (storeW s ts) :: (pt b1 3 [Value.int .i64 1, Value.int .i64 ((x : Nat) : Int)]) :: F) (fun w hs => st_sl_nil hs) ?_
  refine Wl.imp (L' := (pt xb 56 [Value.pointer (some ⟨s, 0, none⟩), Value.slice none 0 0, Value.int .i64 0]) :: (sl 3 1 (Value.slice none 0 0) (([] : List Nat).length) (([] : List Nat).map natV)) :: (storeW s ts) :: (pt b2 3 [Value.int .i64 g, Value.int .i64 e, Value.int .i64 d]) :: (pt b1 3 [Value.int .i64 1, Value.int .i64 ((x : Nat) : Int)]) :: F) (fun _ h => st_pull [2, 0, 1, 0] h) ?_
  refine Wl.e (e_call (F := (pt b1 3 [Value.int .i64 1, Value.int .i64 ((x : Nat) : Int)]) :: F) (args := [Value.pointer (some ⟨xb, 0, none⟩), Value.slice (some ⟨b2, 0, none⟩) 3 3]) Try.call18 rfl (data_pt W0 xb s ts hw ([] : List Nat) (Value.slice none 0 0) (by decide) [g, e, d] (by simp only [List.length_cons, List.length_nil]; omega) (by omega) (fun x hx => by simp only [List.mem_cons, List.not_mem_nil, or_false] at hx; rcases hx with rfl | rfl | rfl <;> assumption) b2 3)) (fun ⟨z1, m1, w1⟩ D1 => ?_)
  refine Wl.imp (L' := (pt xb 56 [Value.pointer (some ⟨s, 0, none⟩), w1, Value.int .i64 0]) :: (sl 3 1 w1 ((([] : List Nat) ++ m1).length) ((([] : List Nat) ++ m1).map natV)) :: (storeW s z1) :: (pt b2 3 [Value.int .i64 g, Value.int .i64 e, Value.int .i64 d]) :: (pt b1 3 [Value.int .i64 1, Value.int .i64 ((x : Nat) : Int)]) :: F) (fun _ h => h) ?_
  have D1 : DtJ ts [g, e, d] z1 m1 := D1
  have D1l := D1.len
  have D1e := D1.ext.len
  have D1n := D1.dat.len
  try simp only [List.length_cons, List.length_nil] at D1l D1n
  refine Wl.done ?_
  refine Wx.go ?_
  refine Wc.seq ?_
  refine Wc.region ?_
  refine Wl.q (v := Value.pointer (some ⟨xb, 0, none⟩)) (q_move rfl) ?_
  refine Wl.q (v := Value.pointer (some ⟨xb, 0, none⟩)) (q_move rfl) ?_
  refine Wl.q (v := Value.pointer (some ⟨xb, 0, none⟩)) (q_nil_ptr rfl) ?_
  refine Wl.q (v := Value.pointer (some ⟨xb, 1, none⟩)) (q_field (m := 1) fo_56_1 rfl rfl) ?_
  refine Wl.q (v := w1) (q_load sc_22 rfl (.cel (i := 0) rfl rfl)) ?_
  refine Wl.q (v := Value.int .i64 ((x : Nat) : Int)) (q_move rfl) ?_
  refine Wl.e (e_buildSlice (cs := [Value.int .i64 ((x : Nat) : Int)]) se_22 zo_3 (by decide) (by decide) (by kernel_rfl)) (fun b3 _ => ?_)
  refine Wl.imp (L' := (pt b3 3 [Value.int .i64 ((x : Nat) : Int)]) :: (pt xb 56 [Value.pointer (some ⟨s, 0, none⟩), w1, Value.int .i64 0]) :: (sl 3 1 w1 ((([] : List Nat) ++ m1).length) ((([] : List Nat) ++ m1).map natV)) :: (storeW s z1) :: (pt b2 3 [Value.int .i64 g, Value.int .i64 e, Value.int .i64 d]) :: (pt b1 3 [Value.int .i64 1, Value.int .i64 ((x : Nat) : Int)]) :: F) (fun _ h => h) ?_
  refine Wl.e (e_append (i := 2) (k := 1) (m := 1) (off := 0) (news := [Value.int .i64 ((x : Nat) : Int)]) Try.underlying22 sz_3 by_3 zo_3 rfl rfl rfl rfl rfl (Has.of_pt (i := 0) rfl rfl) rfl (by decide) (by simp only [maxLen, List.nil_append]; omega) (by simp only [List.nil_append]; omega)) (fun w2 _ => ?_)
  refine Wl.imp (L' := (pt b3 3 [Value.int .i64 ((x : Nat) : Int)]) :: (pt xb 56 [Value.pointer (some ⟨s, 0, none⟩), w1, Value.int .i64 0]) :: (sl 3 1 w2 (((([] : List Nat) ++ m1).length) + 1) (((([] : List Nat) ++ m1).map natV) ++ [Value.int .i64 ((x : Nat) : Int)])) :: (storeW s z1) :: (pt b2 3 [Value.int .i64 g, Value.int .i64 e, Value.int .i64 d]) :: (pt b1 3 [Value.int .i64 1, Value.int .i64 ((x : Nat) : Int)]) :: F) (fun _ h => h) ?_
  refine Wl.q (v := Value.pointer (some ⟨xb, 0, none⟩)) (q_nil_ptr rfl) ?_
  refine Wl.q (v := Value.pointer (some ⟨xb, 1, none⟩)) (q_field (m := 1) fo_56_1 rfl rfl) ?_
  refine Wl.e (e_store (i := 1) (v := w2) sz_22 rfl rfl (fun _ h => sl_one (i := 2) h rfl) rfl (by simp)) (fun _ _ => ?_)
  refine Wl.imp (L' := (pt b3 3 [Value.int .i64 ((x : Nat) : Int)]) :: (pt xb 56 [Value.pointer (some ⟨s, 0, none⟩), w2, Value.int .i64 0]) :: (sl 3 1 w2 (((([] : List Nat) ++ m1).length) + 1) (((([] : List Nat) ++ m1).map natV) ++ [Value.int .i64 ((x : Nat) : Int)])) :: (storeW s z1) :: (pt b2 3 [Value.int .i64 g, Value.int .i64 e, Value.int .i64 d]) :: (pt b1 3 [Value.int .i64 1, Value.int .i64 ((x : Nat) : Int)]) :: F) (fun _ h => h) ?_
  refine Wl.done ?_
  refine Wx.go ?_
  refine Wc.seq ?_
  refine Wc.region ?_
  refine Wl.q (v := Value.pointer (some ⟨xb, 0, none⟩)) (q_move rfl) ?_
  have G := sd_list D1 hx
  refine Wl.imp (L' := (pt b3 3 [Value.int .i64 ((x : Nat) : Int)]) :: (pt xb 56 [Value.pointer (some ⟨s, 0, none⟩), w2, Value.int .i64 0]) :: (sl 3 1 w2 (((([] : List Nat) ++ m1) ++ [x]).length) (((([] : List Nat) ++ m1) ++ [x]).map natV)) :: (storeW s z1) :: (pt b2 3 [Value.int .i64 g, Value.int .i64 e, Value.int .i64 d]) :: (pt b1 3 [Value.int .i64 1, Value.int .i64 ((x : Nat) : Int)]) :: F) (fun w hs => by rw [List.length_append, List.map_append]; exact hs) ?_
  refine Wl.imp (L' := (pt xb 56 [Value.pointer (some ⟨s, 0, none⟩), w2, Value.int .i64 0]) :: (storeW s z1) :: (sl 3 1 w2 (((([] : List Nat) ++ m1) ++ [x]).length) (((([] : List Nat) ++ m1) ++ [x]).map natV)) :: (pt b3 3 [Value.int .i64 ((x : Nat) : Int)]) :: (pt b2 3 [Value.int .i64 g, Value.int .i64 e, Value.int .i64 d]) :: (pt b1 3 [Value.int .i64 1, Value.int .i64 ((x : Nat) : Int)]) :: F) (fun _ h => st_pull [1, 2, 1] h) ?_
  refine Wl.e (e_call (F := (pt b3 3 [Value.int .i64 ((x : Nat) : Int)]) :: (pt b2 3 [Value.int .i64 g, Value.int .i64 e, Value.int .i64 d]) :: (pt b1 3 [Value.int .i64 1, Value.int .i64 ((x : Nat) : Int)]) :: F) (args := [Value.pointer (some ⟨xb, 0, none⟩)]) Try.call19 rfl (end_w W0 xb s z1 D1.wf w2 ((([] : List Nat) ++ m1) ++ [x]) (by rw [G.2]; omega) (by omega) (by rw [G.2]; omega) G.1)) (fun zl L => ?_)
  refine Wl.imp (L' := (pt xb 56 [Value.pointer (some ⟨s, 0, none⟩), w2, Value.int .i64 0]) :: (storeW s zl.1) :: (sl 3 1 w2 (((([] : List Nat) ++ m1) ++ [x]).length) (((([] : List Nat) ++ m1) ++ [x]).map natV)) :: (pt b3 3 [Value.int .i64 ((x : Nat) : Int)]) :: (pt b2 3 [Value.int .i64 g, Value.int .i64 e, Value.int .i64 d]) :: (pt b1 3 [Value.int .i64 1, Value.int .i64 ((x : Nat) : Int)]) :: F) (fun _ h => h) ?_
  have M := sd_made (k := _) (by omega) D1 h1 hpx L (by rw [G.2]; decide)
  refine Wl.q (v := Value.tuple #[Value.int .i64 ((zl.2 : Nat) : Int), Value.int .i64 0]) (q_move rfl) ?_
  refine Wl.q (v := Value.int .i64 ((zl.2 : Nat) : Int)) (q_extract (i := 0) rfl rfl) ?_
  refine Wl.q (v := Value.int .i64 0) (q_extract (i := 1) rfl rfl) ?_
  refine Wl.q (v := Value.int .i64 ((zl.2 : Nat) : Int)) (q_assign rfl) ?_
  refine Wl.q (v := Value.int .i64 0) (q_assign rfl) ?_
  refine Wl.done ?_
  refine Wx.go ?_
  refine Wc.seq ?_
  refine Wc.seq ?_
  refine Wc.region ?_
  refine Wl.q (v := Value.int .i64 0) (q_move rfl) ?_
  refine Wl.q (v := Value.bool false) (q_neq (r := true) rfl rfl (decide_eq_true (by decide))) ?_
  refine Wl.done ?_
  refine Wx.go ?_
  refine Wc.no rfl ?_
  refine Wc.skip ?_
  refine Wx.go ?_
  refine Wc.seq ?_
  refine Wc.region ?_
  refine Wl.q (v := Value.pointer (some ⟨s, 0, none⟩)) (q_move rfl) ?_
  refine Wl.q (v := Value.int .i64 1) (q_move rfl) ?_
  refine Wl.q (v := Value.int .i64 ((zl.2 : Nat) : Int)) (q_move rfl) ?_
  refine Wl.q (v := Value.agg #[Value.int .u8 4, Value.int .i64 12, Value.int .i64 1, Value.int .i64 ((zl.2 : Nat) : Int)]) (q_build (pl := [(0, 1), (1, 1), (2, 1), (3, 1)]) Try.underlying31 zo_31 (by kernel_rfl) (by kernel_rfl)) ?_
  refine Wl.imp (L' := (storeW s zl.1) :: (pt xb 56 [Value.pointer (some ⟨s, 0, none⟩), w2, Value.int .i64 0]) :: (sl 3 1 w2 (((([] : List Nat) ++ m1) ++ [x]).length) (((([] : List Nat) ++ m1) ++ [x]).map natV)) :: (pt b3 3 [Value.int .i64 ((x : Nat) : Int)]) :: (pt b2 3 [Value.int .i64 g, Value.int .i64 e, Value.int .i64 d]) :: (pt b1 3 [Value.int .i64 1, Value.int .i64 ((x : Nat) : Int)]) :: F) (fun _ h => st_pull [1] h) ?_
  refine Wl.e (e_call (F := (pt xb 56 [Value.pointer (some ⟨s, 0, none⟩), w2, Value.int .i64 0]) :: (sl 3 1 w2 (((([] : List Nat) ++ m1) ++ [x]).length) (((([] : List Nat) ++ m1) ++ [x]).map natV)) :: (pt b3 3 [Value.int .i64 ((x : Nat) : Int)]) :: (pt b2 3 [Value.int .i64 g, Value.int .i64 e, Value.int .i64 d]) :: (pt b1 3 [Value.int .i64 1, Value.int .i64 ((x : Nat) : Int)]) :: F) (args := [Value.pointer (some ⟨s, 0, none⟩), Value.agg #[Value.int .u8 4, Value.int .i64 12, Value.int .i64 1, Value.int .i64 ((zl.2 : Nat) : Int)]]) Try.call15 rfl (make_w W0 s zl.1 ((Dd.mk zl.1 ⟨4, 12, 1, (zl.2 : Int)⟩).1) (⟨4, 12, 1, ((zl.2 : Nat) : Int)⟩ : TermR) ((Dd.mk zl.1 ⟨4, 12, 1, (zl.2 : Int)⟩).2.1) _ 0 M.1 M.2.1 rfl)) (fun _ _ => ?_)
  refine Wl.imp (L' := (storeW s ((Dd.mk zl.1 ⟨4, 12, 1, (zl.2 : Int)⟩).1)) :: (pt xb 56 [Value.pointer (some ⟨s, 0, none⟩), w2, Value.int .i64 0]) :: (sl 3 1 w2 (((([] : List Nat) ++ m1) ++ [x]).length) (((([] : List Nat) ++ m1) ++ [x]).map natV)) :: (pt b3 3 [Value.int .i64 ((x : Nat) : Int)]) :: (pt b2 3 [Value.int .i64 g, Value.int .i64 e, Value.int .i64 d]) :: (pt b1 3 [Value.int .i64 1, Value.int .i64 ((x : Nat) : Int)]) :: F) (fun _ h => h) ?_
  refine Wl.q (v := Value.int .i64 (((Dd.mk zl.1 ⟨4, 12, 1, (zl.2 : Int)⟩).2.1 : Nat) : Int)) (q_extract (i := 0) rfl rfl) ?_
  refine Wl.q (v := Value.int .i64 0) (q_extract (i := 1) rfl rfl) ?_
  refine Wl.q (v := Value.int .i64 (((Dd.mk zl.1 ⟨4, 12, 1, (zl.2 : Int)⟩).2.1 : Nat) : Int)) (q_assign rfl) ?_
  refine Wl.q (v := Value.int .i64 0) (q_assign rfl) ?_
  refine Wl.done ?_
  refine Wx.go ?_
  refine Wc.ret ?_
  refine Wx.fin2 rfl (.inl rfl) (fun w hs => ?_)
  exact ⟨((Dd.mk zl.1 ⟨4, 12, 1, (zl.2 : Int)⟩).1, (Dd.mk zl.1 ⟨4, 12, 1, (zl.2 : Int)⟩).2.1), M.2.2, rfl, (st_drop (st_drop (st_drop (st_drop (st_drop (st_pull [1, 1, 1, 1, 1] hs))))))⟩

theorem card_w (W0 : World) (s : Nat) (ts z1 z2 z3 : List TermR) (key pub own : Nat) (h1 : 1 ≤ ts.length) (hts : ts.length ≤ 900000) (C : CdJ ts z1 z2 z3 key pub own) :
    Con Try.prog W0 7 #[Value.pointer (some ⟨s, 0, none⟩), Value.int .i64 1] [storeW s ts] (X := Unit) (fun _ => True) (fun _ => .tuple #[.int .i64 ((key : Nat) : Int), .int .i64 ((pub : Nat) : Int), .int .i64 0]) (fun _ => [storeW s z2]) := by
  refine Con.of (args := [Value.pointer (some ⟨s, 0, none⟩), Value.int .i64 1]) Try.func7 rfl Try.ntmps7 rfl (fun F => ?_)
  show Wc _ W0 _ _ _ _ _ ((storeW s ts) :: F)
  refine Wc.seq ?_
  refine Wc.region ?_
  refine Wl.q (v := Value.int .i64 0) (q_assign rfl) ?_
  refine Wl.q (v := Value.int .i64 0) (q_assign rfl) ?_
  refine Wl.q (v := Value.int .i64 0) (q_assign rfl) ?_
  refine Wl.done ?_
  refine Wx.go ?_
  refine Wc.seq ?_
  refine Wc.seq ?_
  refine Wc.region ?_
  refine Wl.q (v := Value.pointer (some ⟨s, 0, none⟩)) (q_move rfl) ?_
  refine Wl.q (v := Value.int .i64 1) (q_move rfl) ?_
  refine Wl.e (e_buildSlice (cs := [Value.int .i64 1]) se_22 zo_3 (by decide) (by decide) (by kernel_rfl)) (fun b1 _ => ?_)
  refine Wl.imp (L' := (pt b1 3 [Value.int .i64 1]) :: (storeW s ts) :: F) (fun _ h => h) ?_
  refine Wl.imp (L' := (storeW s ts) :: (pt b1 3 [Value.int .i64 1]) :: F) (fun _ h => st_pull [1, 0] h) ?_
  refine Wl.e (e_call (F := F) (args := [Value.pointer (some ⟨s, 0, none⟩), Value.slice (some ⟨b1, 0, none⟩) 1 1]) Try.call17 rfl (there1 W0 s b1 ts 1 _ ((show (1 : Int) ≤ 1 ∧ (1 : Int) ≤ (ts.length : Int) by omega)).1 (List.getElem?_eq_getElem (by have := (show (1 : Int) ≤ 1 ∧ (1 : Int) ≤ (ts.length : Int) by omega); omega)))) (fun _ _ => ?_)
  refine Wl.imp (L' := (storeW s ts) :: (pt b1 3 [Value.int .i64 1]) :: F) (fun _ h => h) ?_
  refine Wl.q (v := Value.int .i64 0) (q_assign rfl) ?_
  refine Wl.done ?_
  refine Wx.go ?_
  refine Wc.seq ?_
  refine Wc.region ?_
  refine Wl.q (v := Value.int .i64 0) (q_move rfl) ?_
  refine Wl.q (v := Value.bool false) (q_neq (r := true) rfl rfl (decide_eq_true (by decide))) ?_
  refine Wl.done ?_
  refine Wx.go ?_
  refine Wc.no rfl ?_
  refine Wc.skip ?_
  refine Wx.go ?_
  refine Wc.seq ?_
  refine Wc.seq ?_
  refine Wc.region ?_
  refine Wl.q (v := Value.pointer (some ⟨s, 0, none⟩)) (q_move rfl) ?_
  refine Wl.q (v := Value.int .i64 1) (q_move rfl) ?_
  refine Wl.q (v := Value.agg #[Value.int .u8 4, Value.int .i64 13, Value.int .i64 1, Value.int .i64 0]) (q_build (pl := [(0, 1), (1, 1), (2, 1), (3, 1)]) Try.underlying31 zo_31 (by kernel_rfl) (by kernel_rfl)) ?_
  refine Wl.e (e_call (F := (pt b1 3 [Value.int .i64 1]) :: F) (args := [Value.pointer (some ⟨s, 0, none⟩), Value.agg #[Value.int .u8 4, Value.int .i64 13, Value.int .i64 1, Value.int .i64 0]]) Try.call15 rfl (make_w W0 s ts z1 (⟨4, 13, 1, 0⟩ : TermR) key _ 0 C.k1 C.e1 rfl)) (fun _ _ => ?_)
  refine Wl.imp (L' := (storeW s z1) :: (pt b1 3 [Value.int .i64 1]) :: F) (fun _ h => h) ?_
  refine Wl.q (v := Value.tuple #[Value.int .i64 ((key : Nat) : Int), Value.int .i64 0]) (q_move rfl) ?_
  refine Wl.q (v := Value.int .i64 ((key : Nat) : Int)) (q_extract (i := 0) rfl rfl) ?_
  refine Wl.q (v := Value.int .i64 0) (q_extract (i := 1) rfl rfl) ?_
  refine Wl.q (v := Value.int .i64 ((key : Nat) : Int)) (q_assign rfl) ?_
  refine Wl.q (v := Value.int .i64 0) (q_assign rfl) ?_
  refine Wl.done ?_
  refine Wx.go ?_
  refine Wc.seq ?_
  refine Wc.region ?_
  refine Wl.q (v := Value.int .i64 0) (q_move rfl) ?_
  refine Wl.q (v := Value.bool true) (q_eql (r := true) rfl rfl (decide_eq_true (by decide))) ?_
  refine Wl.done ?_
  refine Wx.go ?_
  refine Wc.yes rfl ?_
  refine Wc.region ?_
  refine Wl.q (v := Value.pointer (some ⟨s, 0, none⟩)) (q_move rfl) ?_
  refine Wl.q (v := Value.int .i64 ((key : Nat) : Int)) (q_move rfl) ?_
  refine Wl.q (v := Value.agg #[Value.int .u8 5, Value.int .i64 0, Value.int .i64 ((key : Nat) : Int), Value.int .i64 0]) (q_build (pl := [(0, 1), (1, 1), (2, 1), (3, 1)]) Try.underlying31 zo_31 (by kernel_rfl) (by kernel_rfl)) ?_
  refine Wl.e (e_call (F := (pt b1 3 [Value.int .i64 1]) :: F) (args := [Value.pointer (some ⟨s, 0, none⟩), Value.agg #[Value.int .u8 5, Value.int .i64 0, Value.int .i64 ((key : Nat) : Int), Value.int .i64 0]]) Try.call15 rfl (make_w W0 s z1 z2 (⟨5, 0, ((key : Nat) : Int), 0⟩ : TermR) pub _ 0 C.k2 C.e2 rfl)) (fun _ _ => ?_)
  refine Wl.imp (L' := (storeW s z2) :: (pt b1 3 [Value.int .i64 1]) :: F) (fun _ h => h) ?_
  refine Wl.q (v := Value.tuple #[Value.int .i64 ((pub : Nat) : Int), Value.int .i64 0]) (q_move rfl) ?_
  refine Wl.q (v := Value.int .i64 ((pub : Nat) : Int)) (q_extract (i := 0) rfl rfl) ?_
  refine Wl.q (v := Value.int .i64 0) (q_extract (i := 1) rfl rfl) ?_
  refine Wl.q (v := Value.int .i64 ((pub : Nat) : Int)) (q_assign rfl) ?_
  refine Wl.q (v := Value.int .i64 0) (q_assign rfl) ?_
  refine Wl.done ?_
  refine Wx.go ?_
  refine Wc.seq ?_
  refine Wc.seq ?_
  refine Wc.region ?_
  refine Wl.q (v := Value.int .i64 0) (q_move rfl) ?_
  refine Wl.q (v := Value.bool false) (q_neq (r := true) rfl rfl (decide_eq_true (by decide))) ?_
  refine Wl.done ?_
  refine Wx.go ?_
  refine Wc.no rfl ?_
  refine Wc.skip ?_
  refine Wx.go ?_
  refine Wc.seq ?_
  refine Wc.region ?_
  refine Wl.q (v := Value.int .i64 ((key : Nat) : Int)) (q_move rfl) ?_
  refine Wl.q (v := Value.int .i64 ((pub : Nat) : Int)) (q_move rfl) ?_
  refine Wl.q (v := Value.int .i64 ((key : Nat) : Int)) (q_assign rfl) ?_
  refine Wl.q (v := Value.int .i64 ((pub : Nat) : Int)) (q_assign rfl) ?_
  refine Wl.q (v := Value.int .i64 0) (q_assign rfl) ?_
  refine Wl.done ?_
  refine Wx.go ?_
  refine Wc.ret ?_
  refine Wx.fin3 rfl (.inl rfl) (fun w hs => ?_)
  exact ⟨(), trivial, rfl, (st_drop (st_pull [1] hs))⟩

theorem own_w (W0 : World) (s : Nat) (ts z1 z2 z3 : List TermR) (key pub own : Nat) (h1 : 1 ≤ ts.length) (hts : ts.length ≤ 900000) (C : CdJ ts z1 z2 z3 key pub own) :
    Con Try.prog W0 8 #[Value.pointer (some ⟨s, 0, none⟩), Value.int .i64 1] [storeW s z2] (X := Unit) (fun _ => True) (fun _ => .tuple #[.int .i64 ((own : Nat) : Int), .int .i64 0]) (fun _ => [storeW s z3]) := by
  refine Con.of (args := [Value.pointer (some ⟨s, 0, none⟩), Value.int .i64 1]) Try.func8 rfl Try.ntmps8 rfl (fun F => ?_)
  show Wc _ W0 _ _ _ _ _ ((storeW s z2) :: F)
  refine Wc.seq ?_
  refine Wc.region ?_
  refine Wl.q (v := Value.int .i64 0) (q_assign rfl) ?_
  refine Wl.q (v := Value.int .i64 0) (q_assign rfl) ?_
  refine Wl.done ?_
  refine Wx.go ?_
  refine Wc.seq ?_
  refine Wc.seq ?_
  refine Wc.region ?_
  refine Wl.q (v := Value.pointer (some ⟨s, 0, none⟩)) (q_move rfl) ?_
  refine Wl.q (v := Value.int .i64 1) (q_move rfl) ?_
  refine Wl.e (e_buildSlice (cs := [Value.int .i64 1]) se_22 zo_3 (by decide) (by decide) (by kernel_rfl)) (fun b1 _ => ?_)
  refine Wl.imp (L' := (pt b1 3 [Value.int .i64 1]) :: (storeW s z2) :: F) (fun _ h => h) ?_
  refine Wl.imp (L' := (storeW s z2) :: (pt b1 3 [Value.int .i64 1]) :: F) (fun _ h => st_pull [1, 0] h) ?_
  refine Wl.e (e_call (F := F) (args := [Value.pointer (some ⟨s, 0, none⟩), Value.slice (some ⟨b1, 0, none⟩) 1 1]) Try.call17 rfl (there1 W0 s b1 z2 1 _ ((show (1 : Int) ≤ 1 ∧ (1 : Int) ≤ (z2.length : Int) by have := C.le; omega)).1 (List.getElem?_eq_getElem (by have := (show (1 : Int) ≤ 1 ∧ (1 : Int) ≤ (z2.length : Int) by have := C.le; omega); omega)))) (fun _ _ => ?_)
  refine Wl.imp (L' := (storeW s z2) :: (pt b1 3 [Value.int .i64 1]) :: F) (fun _ h => h) ?_
  refine Wl.q (v := Value.int .i64 0) (q_assign rfl) ?_
  refine Wl.done ?_
  refine Wx.go ?_
  refine Wc.seq ?_
  refine Wc.region ?_
  refine Wl.q (v := Value.int .i64 0) (q_move rfl) ?_
  refine Wl.q (v := Value.bool false) (q_neq (r := true) rfl rfl (decide_eq_true (by decide))) ?_
  refine Wl.done ?_
  refine Wx.go ?_
  refine Wc.no rfl ?_
  refine Wc.skip ?_
  refine Wx.go ?_
  refine Wc.seq ?_
  refine Wc.region ?_
  refine Wl.q (v := Value.pointer (some ⟨s, 0, none⟩)) (q_move rfl) ?_
  refine Wl.q (v := Value.int .i64 1) (q_move rfl) ?_
  refine Wl.q (v := Value.agg #[Value.int .u8 4, Value.int .i64 14, Value.int .i64 1, Value.int .i64 0]) (q_build (pl := [(0, 1), (1, 1), (2, 1), (3, 1)]) Try.underlying31 zo_31 (by kernel_rfl) (by kernel_rfl)) ?_
  refine Wl.e (e_call (F := (pt b1 3 [Value.int .i64 1]) :: F) (args := [Value.pointer (some ⟨s, 0, none⟩), Value.agg #[Value.int .u8 4, Value.int .i64 14, Value.int .i64 1, Value.int .i64 0]]) Try.call15 rfl (make_w W0 s z2 z3 (⟨4, 14, 1, 0⟩ : TermR) own _ 0 C.k3 C.e3 rfl)) (fun _ _ => ?_)
  refine Wl.imp (L' := (storeW s z3) :: (pt b1 3 [Value.int .i64 1]) :: F) (fun _ h => h) ?_
  refine Wl.q (v := Value.int .i64 ((own : Nat) : Int)) (q_extract (i := 0) rfl rfl) ?_
  refine Wl.q (v := Value.int .i64 0) (q_extract (i := 1) rfl rfl) ?_
  refine Wl.q (v := Value.int .i64 ((own : Nat) : Int)) (q_assign rfl) ?_
  refine Wl.q (v := Value.int .i64 0) (q_assign rfl) ?_
  refine Wl.done ?_
  refine Wx.go ?_
  refine Wc.ret ?_
  refine Wx.fin2 rfl (.inl rfl) (fun w hs => ?_)
  exact ⟨(), trivial, rfl, (st_drop (st_pull [1] hs))⟩

end Go.Proofs.Ytkdjagmgmodfnaa
