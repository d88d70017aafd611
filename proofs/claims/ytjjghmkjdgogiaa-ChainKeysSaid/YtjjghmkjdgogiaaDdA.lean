/- What follows: contracts of the calls. -/
import Derived.Test.YtjjghmkjdgogiaaDdW
import Derived.Test.YtjjghmkjdgogiaaDdN
import Derived.Test.YtjjghmkjdgogiaaAcQ
namespace Go.Proofs.Ytjjghmkjdgogiaa
open Go Go.SL Go.Dd Go.RowKit
set_option linter.unusedVariables false
set_option maxRecDepth 8000
theorem se_89 : sliceElem Try.prog 89 = some (2, 1) := by kernel_rfl
theorem list0_w (W0 : World) (s : Nat) (ts : List TermR) : Con Try.prog W0 21 #[.pointer (some ⟨s, 0, none⟩), .slice none 0 0] [storeW s ts] (X := Unit) (fun _ => True) (fun _ => .tuple #[.int .i64 0, .int .i64 0]) (fun _ => [storeW s ts]) := Con.storeW fun hw hl =>
  (list0_c W0 s ts).mono fun _ _ => ⟨(), trivial, rfl, fun _ _ hs => storeW_mk hw hl hs⟩

set_option maxRecDepth 8000 in
set_option maxHeartbeats 4000000 in
theorem da2_List (W0 : World) (ts ts2 : List TermR) (x : Int) (n : Nat) (ht : okT ⟨2, x, 0, 0⟩) (h : mk ts ⟨2, x, 0, 0⟩ = (ts2, n, 0)) (hn : 1 ≤ n ∧ n ≤ ts2.length) (q0 : Nat) (u1 : Value)  :
    Con Try.prog W0 21 #[pv q0, u1] [storeW q0 ts2, sl 3 1 u1 1 [iv ((n : Nat) : Int)]] (X := Unit) (fun _ => True) (fun _ => Value.tuple #[iv ((n : Nat) : Int), iv 0]) (fun _ => [storeW q0 ts2, sl 3 1 u1 1 [iv ((n : Nat) : Int)]]) := by
  refine Con.of (args := [pv q0, u1]) Try.func21 rfl Try.ntmps21 rfl (fun F => ?_)
  show Wc _ W0 _ _ _ _ _ ((storeW q0 ts2) :: (sl 3 1 u1 1 [iv ((n : Nat) : Int)]) :: F)
  refine Wc.seq ?_
  refine Wc.region ?_
  refine Wl.q (v := iv 0) (q_assign rfl) ?_
  refine Wl.q (v := iv 0) (q_assign rfl) ?_
  refine Wl.done ?_
  refine Wx.go ?_
  refine Wc.seq ?_
  refine Wc.seq ?_
  refine Wc.region ?_
  refine Wl.q (v := pv q0) (q_move rfl) ?_
  refine Wl.e (e_call (F := (sl 3 1 u1 1 [iv ((n : Nat) : Int)]) :: F) (args := [pv q0]) Try.call36 rfl (made_w W0 q0 ts2)) (fun _ _ => ?_)
  refine Wl.imp (L' := (storeW q0 ts2) :: (sl 3 1 u1 1 [iv ((n : Nat) : Int)]) :: F) (fun _ h => h) ?_
  refine Wl.q (v := Value.bool false) (q_not rfl rfl) ?_
  refine Wl.done ?_
  refine Wx.go ?_
  refine Wc.no rfl ?_
  refine Wc.skip ?_
  refine Wx.go ?_
  refine Wc.seq ?_
  refine Wc.seq ?_
  refine Wc.region ?_
  refine Wl.q (v := u1) (q_move rfl) ?_
  refine Wl.q (v := iv 1) (q_len_sl (i := 1) Try.underlying41 rfl rfl) ?_
  refine Wl.q (v := iv 0) (q_move rfl) ?_
  refine Wl.done ?_
  refine Wx.go ?_
  refine Wc.block ?_
  refine Wc.rounds 64 ?_
  refine Wn.round ?_
  refine Wc.seq ?_
  refine Wc.region ?_
  refine Wl.q (v := Value.bool true) (q_lss (r := true) rfl rfl (decide_eq_true (by decide))) ?_
  refine Wl.done ?_
  refine Wx.go ?_
  refine Wc.seq ?_
  refine Wc.yes rfl ?_
  refine Wc.skip ?_
  refine Wx.go ?_
  refine Wc.seq ?_
  refine Wc.block ?_
  refine Wc.seq ?_
  refine Wc.region ?_
  refine Wl.sl (i := 1) (m := 1) rfl (by decide) (fun b1 c2 hv3 hc4 => ?_)
  subst hv3
  refine Wl.imp (L' := (storeW q0 ts2) :: (slp 3 1 b1 c2 [iv ((n : Nat) : Int)]) :: F) (fun _ h => h) ?_
  refine Wl.q (v := pv b1) (q_idx (m := 0) se_41 rfl rfl (by omega) (by omega) rfl) ?_
  refine Wl.q (v := iv ((n : Nat) : Int)) (q_load sc_3 rfl (.row (i := 1) rfl rfl)) ?_
  refine Wl.q (v := iv ((n : Nat) : Int)) (q_assign rfl) ?_
  refine Wl.done ?_
  refine Wx.go ?_
  refine Wc.seq ?_
  refine Wc.region ?_
  refine Wl.q (v := pv q0) (q_move rfl) ?_
  refine Wl.q (v := iv ((n : Nat) : Int)) (q_move rfl) ?_
  refine Wl.e (e_call (F := (slp 3 1 b1 c2 [iv ((n : Nat) : Int)]) :: F) (args := [pv q0, iv ((n : Nat) : Int)]) Try.call39 rfl (there_w W0 q0 ts2 ((n : Nat) : Int) true (decide_eq_true (by omega)))) (fun _ _ => ?_)
  refine Wl.imp (L' := (storeW q0 ts2) :: (slp 3 1 b1 c2 [iv ((n : Nat) : Int)]) :: F) (fun _ h => h) ?_
  refine Wl.q (v := Value.bool false) (q_not rfl rfl) ?_
  refine Wl.done ?_
  refine Wx.go ?_
  refine Wc.no rfl ?_
  refine Wc.skip ?_
  refine Wx.blockEnd ?_
  refine Wx.go ?_
  refine Wc.region ?_
  refine Wl.q (v := iv 1) (q_add (c := 1) rfl rfl (by decide)) ?_
  refine Wl.q (v := iv 1) (q_move rfl) ?_
  refine Wl.done ?_
  refine Wx.again ?_
  refine Wn.round ?_
  refine Wc.seq ?_
  refine Wc.region ?_
  refine Wl.q (v := Value.bool false) (q_lss (r := false) rfl rfl (decide_eq_false (by decide))) ?_
  refine Wl.done ?_
  refine Wx.go ?_
  refine Wc.seq ?_
  refine Wc.no rfl ?_
  refine Wc.exit ?_
  refine Wx.thenExit ?_
  refine Wx.thenExit ?_
  refine Wx.out ?_
  refine Wx.go ?_
  refine Wc.seq ?_
  refine Wc.seq ?_
  refine Wc.region ?_
  refine Wl.q (v := Value.slice (some ⟨b1, 0, none⟩) 1 c2) (q_move rfl) ?_
  refine Wl.q (v := iv 1) (q_len_slice Try.underlying41 rfl) ?_
  refine Wl.q (v := Value.bool false) (q_eql (r := false) rfl rfl (decide_eq_false (by decide))) ?_
  refine Wl.done ?_
  refine Wx.go ?_
  refine Wc.no rfl ?_
  refine Wc.skip ?_
  refine Wx.go ?_
  refine Wc.seq ?_
  refine Wc.region ?_
  refine Wl.q (v := Value.slice (some ⟨b1, 0, none⟩) 1 c2) (q_move rfl) ?_
  refine Wl.q (v := Value.slice (some ⟨b1, 0, none⟩) 1 c2) (q_move rfl) ?_
  refine Wl.q (v := iv 1) (q_len_slice Try.underlying41 rfl) ?_
  refine Wl.q (v := iv 0) (q_sub (c := 0) rfl rfl (by decide)) ?_
  refine Wl.q (v := pv b1) (q_idx (m := 0) se_41 rfl rfl (by omega) (by omega) rfl) ?_
  refine Wl.q (v := iv ((n : Nat) : Int)) (q_load sc_3 rfl (.row (i := 1) rfl rfl)) ?_
  refine Wl.q (v := iv ((n : Nat) : Int)) (q_assign rfl) ?_
  refine Wl.done ?_
  refine Wx.go ?_
  refine Wc.seq ?_
  refine Wc.seq ?_
  refine Wc.region ?_
  refine Wl.q (v := Value.slice (some ⟨b1, 0, none⟩) 1 c2) (q_move rfl) ?_
  refine Wl.q (v := iv 1) (q_len_slice Try.underlying41 rfl) ?_
  refine Wl.q (v := iv (-1)) (q_sub (c := (-1)) rfl rfl (by decide)) ?_
  refine Wl.q (v := iv (-1)) (q_assign rfl) ?_
  refine Wl.done ?_
  refine Wx.go ?_
  refine Wc.block ?_
  refine Wc.rounds 64 ?_
  refine Wn.round ?_
  refine Wc.seq ?_
  refine Wc.seq ?_
  refine Wc.region ?_
  refine Wl.q (v := iv (-1)) (q_move rfl) ?_
  refine Wl.q (v := Value.bool false) (q_geq (r := false) rfl rfl (decide_eq_false (by decide))) ?_
  refine Wl.done ?_
  refine Wx.go ?_
  refine Wc.no rfl ?_
  refine Wc.exit ?_
  refine Wx.thenExit ?_
  refine Wx.thenExit ?_
  refine Wx.out ?_
  refine Wx.go ?_
  refine Wc.seq ?_
  refine Wc.region ?_
  refine Wl.q (v := iv ((n : Nat) : Int)) (q_move rfl) ?_
  refine Wl.q (v := iv ((n : Nat) : Int)) (q_assign rfl) ?_
  refine Wl.q (v := iv 0) (q_assign rfl) ?_
  refine Wl.done ?_
  refine Wx.go ?_
  refine Wc.ret ?_
  refine Wx.fin2 rfl (.inl rfl) (fun w hs => ?_)
  have hs : st W0 w ((storeW q0 ts2) :: (slp 3 1 b1 c2 [iv ((n : Nat) : Int)]) :: F) := hs
  have hs : st W0 w ((sl 3 1 (Value.slice (some ⟨b1, 0, none⟩) 1 c2) 1 [iv ((n : Nat) : Int)]) :: (storeW q0 ts2) :: F) := st_sl_mk rfl hc4 (st_pull [1] hs)
  have hs : st W0 w ((storeW q0 ts2) :: (sl 3 1 (Value.slice (some ⟨b1, 0, none⟩) 1 c2) 1 [iv ((n : Nat) : Int)]) :: F) := st_pull [1, 0] hs
  exact ⟨(), trivial, rfl, hs⟩

set_option maxRecDepth 8000 in
set_option maxHeartbeats 4000000 in
theorem da1_Data (W0 : World) (ts ts2 : List TermR) (x : Int) (n : Nat) (ht : okT ⟨2, x, 0, 0⟩) (h : mk ts ⟨2, x, 0, 0⟩ = (ts2, n, 0)) (hn : 1 ≤ n ∧ n ≤ ts2.length) (s : Nat) (vb : Nat)  :
    Con Try.prog W0 40 #[pv s, Value.slice (some ⟨vb, 0, none⟩) 1 1] [storeW s ts, pt vb 2 [iv x]] (X := Unit) (fun _ => True) (fun _ => Value.tuple #[iv ((n : Nat) : Int), iv 0]) (fun _ => [storeW s ts2, pt vb 2 [iv x]]) := by
  refine Con.of (args := [pv s, Value.slice (some ⟨vb, 0, none⟩) 1 1]) Try.func40 rfl Try.ntmps40 rfl (fun F => ?_)
  show Wc _ W0 _ _ _ _ _ ((storeW s ts) :: (pt vb 2 [iv x]) :: F)
  refine Wc.seq ?_
  refine Wc.region ?_
  refine Wl.q (v := iv 0) (q_assign rfl) ?_
  refine Wl.q (v := iv 0) (q_assign rfl) ?_
  refine Wl.done ?_
  refine Wx.go ?_
  refine Wc.seq ?_
  refine Wc.seq ?_
  refine Wc.region ?_
  refine Wl.q (v := pv s) (q_move rfl) ?_
  refine Wl.e (e_call (F := (pt vb 2 [iv x]) :: F) (args := [pv s]) Try.call36 rfl (made_w W0 s ts)) (fun _ _ => ?_)
  refine Wl.imp (L' := (storeW s ts) :: (pt vb 2 [iv x]) :: F) (fun _ h => h) ?_
  refine Wl.q (v := Value.bool false) (q_not rfl rfl) ?_
  refine Wl.done ?_
  refine Wx.go ?_
  refine Wc.no rfl ?_
  refine Wc.skip ?_
  refine Wx.go ?_
  refine Wc.seq ?_
  refine Wc.region ?_
  refine Wl.q (v := Value.slice none 0 0) (q_assign rfl) ?_
  refine Wl.done ?_
  refine Wx.go ?_
  refine Wc.seq ?_
  refine Wc.seq ?_
  refine Wc.region ?_
  refine Wl.q (v := Value.slice (some ⟨vb, 0, none⟩) 1 1) (q_move rfl) ?_
  refine Wl.q (v := iv 1) (q_len_slice Try.underlying89 rfl) ?_
  refine Wl.q (v := iv 0) (q_move rfl) ?_
  refine Wl.done ?_
  refine Wx.go ?_
  refine Wc.block ?_
  refine Wc.rounds 64 ?_
  refine Wn.round ?_
  refine Wc.seq ?_
  refine Wc.region ?_
  refine Wl.q (v := Value.bool true) (q_lss (r := true) rfl rfl (decide_eq_true (by decide))) ?_
  refine Wl.done ?_
  refine Wx.go ?_
  refine Wc.seq ?_
  refine Wc.yes rfl ?_
  refine Wc.skip ?_
  refine Wx.go ?_
  refine Wc.seq ?_
  refine Wc.block ?_
  refine Wc.seq ?_
  refine Wc.region ?_
  refine Wl.q (v := pv vb) (q_idx (m := 0) se_89 rfl rfl (by omega) (by omega) rfl) ?_
  refine Wl.q (v := iv x) (q_load sc_2 rfl (.cel (i := 1) rfl rfl)) ?_
  refine Wl.q (v := iv x) (q_assign rfl) ?_
  refine Wl.done ?_
  refine Wx.go ?_
  refine Wc.seq ?_
  refine Wc.region ?_
  refine Wl.q (v := pv s) (q_move rfl) ?_
  refine Wl.q (v := iv x) (q_move rfl) ?_
  refine Wl.q (v := Value.agg #[Value.int .u8 2, iv x, iv 0, iv 0]) (q_build (pl := [(0, 1), (1, 1), (2, 1), (3, 1)]) Try.underlying28 zo_28 (by kernel_rfl) (by kernel_rfl)) ?_
  refine Wl.e (e_call (F := (pt vb 2 [iv x]) :: F) (args := [pv s, Value.agg #[Value.int .u8 2, iv x, iv 0, iv 0]]) Try.call19 rfl (make_w W0 s ts ts2 (⟨2, x, 0, 0⟩ : TermR) n _ 0 ht h rfl)) (fun _ _ => ?_)
  refine Wl.imp (L' := (storeW s ts2) :: (pt vb 2 [iv x]) :: F) (fun _ h => h) ?_
  refine Wl.q (v := Value.tuple #[iv ((n : Nat) : Int), iv 0]) (q_move rfl) ?_
  refine Wl.q (v := iv ((n : Nat) : Int)) (q_extract (i := 0) rfl rfl) ?_
  refine Wl.q (v := iv 0) (q_extract (i := 1) rfl rfl) ?_
  refine Wl.q (v := iv ((n : Nat) : Int)) (q_assign rfl) ?_
  refine Wl.q (v := iv 0) (q_assign rfl) ?_
  refine Wl.done ?_
  refine Wx.go ?_
  refine Wc.seq ?_
  refine Wc.seq ?_
  refine Wc.region ?_
  refine Wl.q (v := iv 0) (q_move rfl) ?_
  refine Wl.q (v := Value.bool false) (q_neq (r := true) rfl rfl (decide_eq_true (by decide))) ?_
  refine Wl.done ?_
  refine Wx.go ?_
  refine Wc.no rfl ?_
  refine Wc.skip ?_
  refine Wx.go ?_
  refine Wc.region ?_
  refine Wl.q (v := Value.slice none 0 0) (q_move rfl) ?_
  refine Wl.q (v := iv ((n : Nat) : Int)) (q_move rfl) ?_
  refine Wl.e (e_buildSlice (cs := [iv ((n : Nat) : Int)]) se_41 zo_3 (by decide) (by decide) (by kernel_rfl)) (fun b1 _ => ?_)
  refine Wl.imp (L' := (sl 3 1 (Value.slice none 0 0) 0 []) :: (pt b1 3 [iv ((n : Nat) : Int)]) :: (storeW s ts2) :: (pt vb 2 [iv x]) :: F) (fun w hs => st_sl_nil hs) ?_
  refine Wl.e (e_append (i := 0) (k := 1) (m := 1) (off := 0) (news := [iv ((n : Nat) : Int)]) Try.underlying41 sz_3 by_3 zo_3 rfl rfl rfl rfl rfl (Has.of_pt (i := 1) rfl rfl) rfl (by decide) (by simp only [maxLen]; omega) (by omega)) (fun v2 _ => ?_)
  refine Wl.imp (L' := (sl 3 1 v2 1 [iv ((n : Nat) : Int)]) :: (pt b1 3 [iv ((n : Nat) : Int)]) :: (storeW s ts2) :: (pt vb 2 [iv x]) :: F) (fun _ h => h) ?_
  refine Wl.q (v := v2) (q_assign rfl) ?_
  refine Wl.done ?_
  refine Wx.blockEnd ?_
  refine Wx.go ?_
  refine Wc.region ?_
  refine Wl.q (v := iv 1) (q_add (c := 1) rfl rfl (by decide)) ?_
  refine Wl.q (v := iv 1) (q_move rfl) ?_
  refine Wl.done ?_
  refine Wx.again ?_
  refine Wn.round ?_
  refine Wc.imp (L' := (sl 3 1 v2 1 [iv ((n : Nat) : Int)]) :: (storeW s ts2) :: (pt vb 2 [iv x]) :: F) (fun w hs => (st_drop (st_pull [1] hs))) ?_
  refine Wc.seq ?_
  refine Wc.region ?_
  refine Wl.q (v := Value.bool false) (q_lss (r := false) rfl rfl (decide_eq_false (by decide))) ?_
  refine Wl.done ?_
  refine Wx.go ?_
  refine Wc.seq ?_
  refine Wc.no rfl ?_
  refine Wc.exit ?_
  refine Wx.thenExit ?_
  refine Wx.thenExit ?_
  refine Wx.out ?_
  refine Wx.go ?_
  refine Wc.seq ?_
  refine Wc.region ?_
  refine Wl.q (v := pv s) (q_move rfl) ?_
  refine Wl.q (v := v2) (q_move rfl) ?_
  refine Wl.imp (L' := (storeW s ts2) :: (sl 3 1 v2 1 [iv ((n : Nat) : Int)]) :: (pt vb 2 [iv x]) :: F) (fun _ h => st_pull [1, 0] h) ?_
  refine Wl.e (e_call (F := (pt vb 2 [iv x]) :: F) (args := [pv s, v2]) Try.call21 rfl (da2_List W0 ts ts2 x n ht h hn s v2)) (fun _ _ => ?_)
  refine Wl.imp (L' := (storeW s ts2) :: (sl 3 1 v2 1 [iv ((n : Nat) : Int)]) :: (pt vb 2 [iv x]) :: F) (fun _ h => h) ?_
  refine Wl.q (v := iv ((n : Nat) : Int)) (q_extract (i := 0) rfl rfl) ?_
  refine Wl.q (v := iv 0) (q_extract (i := 1) rfl rfl) ?_
  refine Wl.q (v := iv ((n : Nat) : Int)) (q_assign rfl) ?_
  refine Wl.q (v := iv 0) (q_assign rfl) ?_
  refine Wl.done ?_
  refine Wx.go ?_
  refine Wc.ret ?_
  refine Wx.fin2 rfl (.inl rfl) (fun w hs => ?_)
  have hs : st W0 w ((storeW s ts2) :: (pt vb 2 [iv x]) :: F) := (st_drop (st_pull [1] hs))
  exact ⟨(), trivial, rfl, hs⟩

set_option maxRecDepth 8000 in
theorem list_o (W0 : World) (s lb lc : Nat) (ts : List TermR) (hw : Wf ts) (li : List Nat) (hlm : li.length ≤ 2000) (hts : ts.length ≤ 1000000) (hne : 0 < li.length) (hall : ∀ x ∈ li, 1 ≤ x ∧ x ≤ ts.length) (hcl : li.length ≤ lc) :
    Con Try.prog W0 21 #[Value.pointer (some ⟨s, 0, none⟩), Value.slice (some ⟨lb, 0, none⟩) li.length lc] [storeW s ts, slp 3 1 lb lc (li.map natV)] (X := List TermR × Nat) (fun z => LsJ ts z li (li.length - 1)) (fun z => .tuple #[.int .i64 ((z.2 : Nat) : Int), .int .i64 0]) (fun z => [storeW s z.1, sl 3 1 (Value.slice (some ⟨lb, 0, none⟩) li.length lc) li.length (li.map natV)]) := by
  refine Con.of (args := [Value.pointer (some ⟨s, 0, none⟩), Value.slice (some ⟨lb, 0, none⟩) li.length lc]) Try.func21 rfl Try.ntmps21 rfl (fun F => ?_)
  show Wc _ W0 _ _ _ _ _ ((storeW s ts) :: (slp 3 1 lb lc (li.map natV)) :: F)
  refine Wc.seq ?_
  refine Wc.region ?_
  refine Wl.q (v := Value.int .i64 0) (q_assign rfl) ?_
  refine Wl.q (v := Value.int .i64 0) (q_assign rfl) ?_
  refine Wl.done ?_
  refine Wx.go ?_
  refine Wc.seq ?_
  refine Wc.seq ?_
  refine Wc.region ?_
  refine Wl.q (v := Value.pointer (some ⟨s, 0, none⟩)) (q_move rfl) ?_
  refine Wl.e (e_call (F := (slp 3 1 lb lc (li.map natV)) :: F) (args := [Value.pointer (some ⟨s, 0, none⟩)]) Try.call36 rfl (made_w W0 s ts)) (fun _ _ => ?_)
  refine Wl.imp (L' := (storeW s ts) :: (slp 3 1 lb lc (li.map natV)) :: F) (fun _ h => h) ?_
  refine Wl.q (v := Value.bool false) (q_not rfl rfl) ?_
  refine Wl.done ?_
  refine Wx.go ?_
  refine Wc.no rfl ?_
  refine Wc.skip ?_
  refine Wx.go ?_
  refine Wc.seq ?_
  refine Wc.seq ?_
  refine Wc.region ?_
  refine Wl.q (v := Value.slice (some ⟨lb, 0, none⟩) li.length lc) (q_move rfl) ?_
  refine Wl.q (v := Value.int .i64 ((li.length : Nat) : Int)) (q_len_slice Try.underlying41 rfl) ?_
  refine Wl.q (v := Value.int .i64 0) (q_move rfl) ?_
  refine Wl.done ?_
  refine Wx.go ?_
  refine Wc.block ?_
  refine Wc.loop (X := Nat) (fun i E => E 17 = Value.int .i64 ((i : Nat) : Int) ∧ E 0 = Value.pointer (some ⟨s, 0, none⟩) ∧ E 1 = Value.slice (some ⟨lb, 0, none⟩) li.length lc ∧ E 15 = Value.slice (some ⟨lb, 0, none⟩) li.length lc ∧ E 16 = Value.int .i64 ((li.length : Nat) : Int) ∧ i ≤ li.length) (fun i => (storeW s ts) :: (slp 3 1 lb lc (li.map natV)) :: F) (fun i => li.length - i) 0 ?_ ?_ ?_
  · exact ⟨rfl, rfl, rfl, rfl, rfl, (by omega)⟩
  · exact fun w hs => hs
  · rintro i E2 ⟨hE17_0, hE0_0, hE1_0, hE15_0, hE16_0, hi⟩
    refine Wc.seq ?_
    refine Wc.region ?_
    by_cases hlt : ((i : Nat) : Int) < ((li.length : Nat) : Int)
    ·
      obtain ⟨o, hget⟩ : ∃ o, li[i]? = some o := ⟨li[i]'(by omega), List.getElem?_eq_getElem (by omega)⟩
      have hr := hall o (List.mem_of_getElem? hget)
      refine Wl.q (v := Value.bool true) (q_lss (r := true) hE17_0 hE16_0 (decide_eq_true hlt)) ?_
      refine Wl.done ?_
      refine Wx.go ?_
      refine Wc.seq ?_
      refine Wc.yes rfl ?_
      refine Wc.skip ?_
      refine Wx.go ?_
      refine Wc.seq ?_
      refine Wc.block ?_
      refine Wc.seq ?_
      refine Wc.region ?_
      refine Wl.q (v := Value.pointer (some ⟨lb, i, none⟩)) (q_idx (m := i) se_41 hE15_0 hE17_0 (by omega) (by omega) (by simp)) ?_
      refine Wl.q (v := Value.int .i64 ((o : Nat) : Int)) (q_load sc_3 rfl (.row (i := 1) rfl ((congrArg (fun q : Nat => (li.map natV)[q]?) (show i = i from by omega)).trans (map_at hget)))) ?_
      refine Wl.q (v := Value.int .i64 ((o : Nat) : Int)) (q_assign rfl) ?_
      refine Wl.done ?_
      refine Wx.go ?_
      refine Wc.seq ?_
      refine Wc.region ?_
      refine Wl.q (v := Value.pointer (some ⟨s, 0, none⟩)) (q_move hE0_0) ?_
      refine Wl.q (v := Value.int .i64 ((o : Nat) : Int)) (q_move rfl) ?_
      refine Wl.e (e_call (F := (slp 3 1 lb lc (li.map natV)) :: F) (args := [Value.pointer (some ⟨s, 0, none⟩), Value.int .i64 ((o : Nat) : Int)]) Try.call39 rfl (there_w W0 s ts ((o : Nat) : Int) true (decide_eq_true (by omega)))) (fun _ _ => ?_)
      refine Wl.imp (L' := (storeW s ts) :: (slp 3 1 lb lc (li.map natV)) :: F) (fun _ h => h) ?_
      refine Wl.q (v := Value.bool false) (q_not rfl rfl) ?_
      refine Wl.done ?_
      refine Wx.go ?_
      refine Wc.no rfl ?_
      refine Wc.skip ?_
      refine Wx.blockEnd ?_
      refine Wx.go ?_
      refine Wc.region ?_
      refine Wl.q (v := Value.int .i64 ((i + 1 : Nat) : Int)) (q_add (c := ((i + 1 : Nat) : Int)) hE17_0 rfl (by rw [wrap_i64] <;> omega)) ?_
      refine Wl.q (v := Value.int .i64 ((i + 1 : Nat) : Int)) (q_move rfl) ?_
      refine Wl.done ?_
      refine Wx.at (i + 1) ⟨(by omega), rfl, hE0_0, hE1_0, hE15_0, hE16_0, (by omega)⟩ (fun w hs => hs)
    ·
      refine Wl.q (v := Value.bool false) (q_lss (r := false) hE17_0 hE16_0 (decide_eq_false hlt)) ?_
      refine Wl.done ?_
      refine Wx.go ?_
      refine Wc.seq ?_
      refine Wc.no rfl ?_
      refine Wc.exit ?_
      refine Wx.thenExit ?_
      refine Wx.thenExit ?_
      refine Wx.out ?_
      refine Wx.go ?_
      refine Wc.seq ?_
      refine Wc.seq ?_
      refine Wc.region ?_
      refine Wl.q (v := Value.slice (some ⟨lb, 0, none⟩) li.length lc) (q_move hE1_0) ?_
      refine Wl.q (v := Value.int .i64 ((li.length : Nat) : Int)) (q_len_slice Try.underlying41 rfl) ?_
      refine Wl.q (v := Value.bool false) (q_eql (r := false) rfl rfl (decide_eq_false (by omega))) ?_
      refine Wl.done ?_
      refine Wx.go ?_
      refine Wc.no rfl ?_
      refine Wc.skip ?_
      refine Wx.go ?_
      refine Wc.seq ?_
      refine Wc.region ?_
      obtain ⟨last, hlast⟩ : ∃ o, li[li.length - 1]? = some o := ⟨li[li.length - 1]'(by omega), List.getElem?_eq_getElem (by omega)⟩
      have hdrop : li.drop (li.length - 1) = [last] := by rw [List.drop_eq_getElem_cons (by omega), (List.getElem?_eq_some_iff.1 hlast).2, List.drop_eq_nil_of_le (by omega)]
      refine Wl.q (v := Value.slice (some ⟨lb, 0, none⟩) li.length lc) (q_move hE1_0) ?_
      refine Wl.q (v := Value.slice (some ⟨lb, 0, none⟩) li.length lc) (q_move hE1_0) ?_
      refine Wl.q (v := Value.int .i64 ((li.length : Nat) : Int)) (q_len_slice Try.underlying41 rfl) ?_
      refine Wl.q (v := Value.int .i64 (((li.length : Nat) : Int) - 1)) (q_sub (c := (((li.length : Nat) : Int) - 1)) rfl rfl (wrap_i64 (by omega) (by omega))) ?_
      refine Wl.q (v := Value.pointer (some ⟨lb, ((((li.length : Nat) : Int) - 1)).toNat, none⟩)) (q_idx (m := ((((li.length : Nat) : Int) - 1)).toNat) se_41 rfl rfl (by omega) (by omega) (by simp)) ?_
      refine Wl.q (v := Value.int .i64 ((last : Nat) : Int)) (q_load sc_3 rfl (.row (i := 1) rfl ((congrArg (fun q : Nat => (li.map natV)[q]?) (show ((((li.length : Nat) : Int) - 1)).toNat = li.length - 1 from by omega)).trans (map_at hlast)))) ?_
      refine Wl.q (v := Value.int .i64 ((last : Nat) : Int)) (q_assign rfl) ?_
      refine Wl.done ?_
      refine Wx.go ?_
      refine Wc.seq ?_
      refine Wc.seq ?_
      refine Wc.region ?_
      refine Wl.q (v := Value.slice (some ⟨lb, 0, none⟩) li.length lc) (q_move hE1_0) ?_
      refine Wl.q (v := Value.int .i64 ((li.length : Nat) : Int)) (q_len_slice Try.underlying41 rfl) ?_
      refine Wl.q (v := Value.int .i64 (((li.length : Nat) : Int) - 2)) (q_sub (c := (((li.length : Nat) : Int) - 2)) rfl rfl (wrap_i64 (by omega) (by omega))) ?_
      refine Wl.q (v := Value.int .i64 (((li.length : Nat) : Int) - 2)) (q_assign rfl) ?_
      refine Wl.done ?_
      refine Wx.go ?_
      refine Wc.block ?_
      have hkz : ((li.length : Nat) : Int) - 2 = (((li.length - 1 : Nat) : Int) - 1) := by omega
      refine Wc.loop (X := Nat × (List TermR × Nat)) (fun (k, z) E => E 9 = Value.int .i64 (((k : Nat) : Int) - 1) ∧ E 8 = Value.int .i64 ((z.2 : Nat) : Int) ∧ E 0 = Value.pointer (some ⟨s, 0, none⟩) ∧ E 1 = Value.slice (some ⟨lb, 0, none⟩) li.length lc ∧ k ≤ li.length - 1 ∧ LsJ ts z (li.drop k) (li.length - 1 - k)) (fun (k, z) => (storeW s z.1) :: (slp 3 1 lb lc (li.map natV)) :: F) (fun (k, z) => k) (li.length - 1, (ts, last)) ?_ ?_ ?_
      · exact ⟨(congrArg (Value.int .i64) hkz), rfl, hE0_0, hE1_0, (by omega), (by rw [hdrop, show li.length - 1 - (li.length - 1) = 0 by omega]; exact LsJ.start hw (hall last (List.mem_of_getElem? hlast)))⟩
      · exact fun w hs => hs
      · rintro ⟨k, z⟩ E4 ⟨hE9_2, hE8_2, hE0_2, hE1_2, hk, hZ⟩
        dsimp only at *
        refine Wc.seq ?_
        refine Wc.seq ?_
        refine Wc.region ?_
        refine Wl.q (v := Value.int .i64 (((k : Nat) : Int) - 1)) (q_move hE9_2) ?_
        by_cases hkk : (((k : Nat) : Int) - 1) ≥ 0
        ·
          obtain ⟨k', hk'⟩ : ∃ k', k = k' + 1 := ⟨k - 1, by omega⟩
          obtain ⟨o, hget⟩ : ∃ o, li[k']? = some o := ⟨li[k']'(by omega), List.getElem?_eq_getElem (by omega)⟩
          have hr := hall o (List.mem_of_getElem? hget)
          have hst := hZ.step (by rw [hk']; exact fun e => by have := congrArg List.length e; rw [List.length_drop] at this; simp only [List.length_nil] at this; omega) hr (by omega)
          have hdk : li.drop k' = o :: li.drop k := by rw [List.drop_eq_getElem_cons (by omega), (List.getElem?_eq_some_iff.1 hget).2, hk']
          have hzl := hZ.len
          have hze := hZ.rng
          refine Wl.q (v := Value.bool true) (q_geq (r := true) rfl rfl (decide_eq_true hkk)) ?_
          refine Wl.done ?_
          refine Wx.go ?_
          refine Wc.yes rfl ?_
          refine Wc.skip ?_
          refine Wx.go ?_
          refine Wc.seq ?_
          refine Wc.block ?_
          refine Wc.seq ?_
          refine Wc.region ?_
          refine Wl.q (v := Value.pointer (some ⟨s, 0, none⟩)) (q_move hE0_2) ?_
          refine Wl.q (v := Value.slice (some ⟨lb, 0, none⟩) li.length lc) (q_move hE1_2) ?_
          refine Wl.q (v := Value.int .i64 (((k : Nat) : Int) - 1)) (q_move hE9_2) ?_
          refine Wl.q (v := Value.pointer (some ⟨lb, ((((k : Nat) : Int) - 1)).toNat, none⟩)) (q_idx (m := ((((k : Nat) : Int) - 1)).toNat) se_41 rfl rfl (by omega) (by omega) (by simp)) ?_
          refine Wl.q (v := Value.int .i64 ((o : Nat) : Int)) (q_load sc_3 rfl (.row (i := 1) rfl ((congrArg (fun q : Nat => (li.map natV)[q]?) (show ((((k : Nat) : Int) - 1)).toNat = k' from by omega)).trans (map_at hget)))) ?_
          refine Wl.q (v := Value.int .i64 ((z.2 : Nat) : Int)) (q_move hE8_2) ?_
          refine Wl.q (v := Value.agg #[Value.int .u8 3, Value.int .i64 0, Value.int .i64 ((o : Nat) : Int), Value.int .i64 ((z.2 : Nat) : Int)]) (q_build (pl := [(0, 1), (1, 1), (2, 1), (3, 1)]) Try.underlying28 zo_28 (by kernel_rfl) (by kernel_rfl)) ?_
          refine Wl.e (e_call (F := (slp 3 1 lb lc (li.map natV)) :: F) (args := [Value.pointer (some ⟨s, 0, none⟩), Value.agg #[Value.int .u8 3, Value.int .i64 0, Value.int .i64 ((o : Nat) : Int), Value.int .i64 ((z.2 : Nat) : Int)]]) Try.call19 rfl (make_w W0 s z.1 ((mk z.1 ⟨3, 0, ((o : Nat) : Int), ((z.2 : Nat) : Int)⟩).1) (⟨3, 0, ((o : Nat) : Int), ((z.2 : Nat) : Int)⟩ : TermR) ((mk z.1 ⟨3, 0, ((o : Nat) : Int), ((z.2 : Nat) : Int)⟩).2.1) _ 0 hst.1 hst.2.1 rfl)) (fun _ _ => ?_)
          refine Wl.imp (L' := (storeW s ((mk z.1 ⟨3, 0, ((o : Nat) : Int), ((z.2 : Nat) : Int)⟩).1)) :: (slp 3 1 lb lc (li.map natV)) :: F) (fun _ h => h) ?_
          refine Wl.q (v := Value.tuple #[Value.int .i64 (((mk z.1 ⟨3, 0, ((o : Nat) : Int), ((z.2 : Nat) : Int)⟩).2.1 : Nat) : Int), Value.int .i64 0]) (q_move rfl) ?_
          refine Wl.q (v := Value.int .i64 (((mk z.1 ⟨3, 0, ((o : Nat) : Int), ((z.2 : Nat) : Int)⟩).2.1 : Nat) : Int)) (q_extract (i := 0) rfl rfl) ?_
          refine Wl.q (v := Value.int .i64 0) (q_extract (i := 1) rfl rfl) ?_
          refine Wl.q (v := Value.int .i64 (((mk z.1 ⟨3, 0, ((o : Nat) : Int), ((z.2 : Nat) : Int)⟩).2.1 : Nat) : Int)) (q_assign rfl) ?_
          refine Wl.q (v := Value.int .i64 0) (q_assign rfl) ?_
          refine Wl.done ?_
          refine Wx.go ?_
          refine Wc.seq ?_
          refine Wc.seq ?_
          refine Wc.region ?_
          refine Wl.q (v := Value.int .i64 0) (q_move rfl) ?_
          refine Wl.q (v := Value.bool false) (q_neq (r := true) rfl rfl (decide_eq_true (by decide))) ?_
          refine Wl.done ?_
          refine Wx.go ?_
          refine Wc.no rfl ?_
          refine Wc.skip ?_
          refine Wx.go ?_
          refine Wc.region ?_
          refine Wl.q (v := Value.int .i64 (((mk z.1 ⟨3, 0, ((o : Nat) : Int), ((z.2 : Nat) : Int)⟩).2.1 : Nat) : Int)) (q_move rfl) ?_
          refine Wl.q (v := Value.int .i64 (((mk z.1 ⟨3, 0, ((o : Nat) : Int), ((z.2 : Nat) : Int)⟩).2.1 : Nat) : Int)) (q_assign rfl) ?_
          refine Wl.done ?_
          refine Wx.blockEnd ?_
          refine Wx.go ?_
          refine Wc.region ?_
          refine Wl.q (v := Value.int .i64 (((k : Nat) : Int) - 1)) (q_move hE9_2) ?_
          refine Wl.q (v := Value.int .i64 (((k' : Nat) : Int) - 1)) (q_sub (c := (((k' : Nat) : Int) - 1)) rfl rfl (by rw [wrap_i64 (by omega) (by omega)]; omega)) ?_
          refine Wl.q (v := Value.int .i64 (((k' : Nat) : Int) - 1)) (q_assign rfl) ?_
          refine Wl.done ?_
          refine Wx.at (k', ((mk z.1 ⟨3, 0, ((o : Nat) : Int), ((z.2 : Nat) : Int)⟩).1, (mk z.1 ⟨3, 0, ((o : Nat) : Int), ((z.2 : Nat) : Int)⟩).2.1)) ⟨(by simp only; omega), rfl, rfl, hE0_2, hE1_2, (by simp only; omega), (by rw [hdk, show li.length - 1 - k' = li.length - 1 - k + 1 by omega]; exact hst.2.2)⟩ (fun w hs => hs)
        ·
          have hk0 : k = 0 := by omega
          refine Wl.q (v := Value.bool false) (q_geq (r := false) rfl rfl (decide_eq_false hkk)) ?_
          refine Wl.done ?_
          refine Wx.go ?_
          refine Wc.no rfl ?_
          refine Wc.exit ?_
          refine Wx.thenExit ?_
          refine Wx.thenExit ?_
          refine Wx.out ?_
          refine Wx.go ?_
          refine Wc.seq ?_
          refine Wc.region ?_
          refine Wl.q (v := Value.int .i64 ((z.2 : Nat) : Int)) (q_move hE8_2) ?_
          refine Wl.q (v := Value.int .i64 ((z.2 : Nat) : Int)) (q_assign rfl) ?_
          refine Wl.q (v := Value.int .i64 0) (q_assign rfl) ?_
          refine Wl.done ?_
          refine Wx.go ?_
          refine Wc.ret ?_
          refine Wx.fin2 rfl (.inl rfl) (fun w hs => ?_)
          exact ⟨z, (by rw [hk0] at hZ; exact hZ), rfl, (fun hs => st_swap (st_sl_mk (e := 3) (by simp) hcl hs)) (st_pull [1, 0] (hs))⟩
theorem list_w (W0 : World) (s : Nat) (ts : List TermR) (hw : Wf ts) (v : Value) (li : List Nat) (hlm : li.length ≤ 2000) (hts : ts.length ≤ 1000000) (hne : 0 < li.length) (hall : ∀ x ∈ li, 1 ≤ x ∧ x ≤ ts.length) : Con Try.prog W0 21 #[.pointer (some ⟨s, 0, none⟩), v] [storeW s ts, sl 3 1 v li.length (li.map natV)] (X := List TermR × Nat) (fun z => LsJ ts z li (li.length - 1)) (fun z => .tuple #[.int .i64 ((z.2 : Nat) : Int), .int .i64 0]) (fun z => [storeW s z.1, sl 3 1 v li.length (li.map natV)]) := fun w F hs => by
  rcases st_sl_cases (st_swap hs) with ⟨_, e, _⟩ | ⟨lb, lc, rfl, hcl, _, hs'⟩
  · omega
  · exact list_o W0 s lb lc ts hw li hlm hts hne hall hcl w F (st_swap hs')

end Go.Proofs.Ytjjghmkjdgogiaa
