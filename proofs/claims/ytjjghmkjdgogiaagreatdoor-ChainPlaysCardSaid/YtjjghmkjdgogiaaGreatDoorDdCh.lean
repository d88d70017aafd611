/- What follows: contracts of the calls. -/
import Derived.Test.YtjjghmkjdgogiaaGreatDoorDdA
import Derived.Test.YtjjghmkjdgogiaaGreatDoorChP
namespace Go.Proofs.YtjjghmkjdgogiaaGreatDoor
open Go Go.SL Go.Dd Go.RowKit
set_option linter.unusedVariables false
set_option maxRecDepth 8000
theorem zo_2 : zeroOf Tryz.prog 2 = some (Value.int .i64 0) := by kernel_rfl
theorem kdf_w (W0 : World) (s : Nat) (ts ts2 : List TermR) (l a b : Int) (n : Nat) (ht : okT ⟨4, l, a, b⟩) (h : mk ts ⟨4, l, a, b⟩ = (ts2, n, 0)) :
  Con Tryz.prog W0 137 #[Value.pointer (some ⟨s, 0, none⟩), Value.int .i64 l, Value.int .i64 a, Value.int .i64 b] [storeW s ts] (X := Unit) (fun _ => True) (fun _ => .tuple #[.int .i64 ((n : Nat) : Int), .int .i64 0]) (fun _ => [storeW s ts2]) := by
 refine Con.of (args := [Value.pointer (some ⟨s, 0, none⟩), Value.int .i64 l, Value.int .i64 a, Value.int .i64 b]) Tryz.func137 rfl Tryz.ntmps137 rfl (fun F => ?_)
 show Wc _ W0 _ _ _ _ _ ((storeW s ts) :: F)
 refine Wc.seq ?_
 refine Wc.region ?_
 refine Wl.q (v := Value.int .i64 0) (q_assign rfl) ?_
 refine Wl.q (v := Value.int .i64 0) (q_assign rfl) ?_
 refine Wl.done ?_
 refine Wx.go ?_
 refine Wc.seq ?_
 refine Wc.region ?_
 refine Wl.q (v := Value.pointer (some ⟨s, 0, none⟩)) (q_move rfl) ?_
 refine Wl.q (v := Value.int .i64 l) (q_move rfl) ?_
 refine Wl.q (v := Value.int .i64 a) (q_move rfl) ?_
 refine Wl.q (v := Value.int .i64 b) (q_move rfl) ?_
 refine Wl.q (v := Value.agg #[Value.int .u8 4, Value.int .i64 l, Value.int .i64 a, Value.int .i64 b]) (q_build (pl := [(0, 1), (1, 1), (2, 1), (3, 1)]) Tryz.underlying89 zo_89 (by kernel_rfl) (by kernel_rfl)) ?_
 refine Wl.e (e_call (F := F) (args := [Value.pointer (some ⟨s, 0, none⟩), Value.agg #[Value.int .u8 4, Value.int .i64 l, Value.int .i64 a, Value.int .i64 b]]) Tryz.call18 rfl (make_w W0 s ts ts2 (⟨4, l, a, b⟩ : TermR) n _ 0 ht h rfl)) (fun _ _ => ?_)
 refine Wl.imp (L' := (storeW s ts2) :: F) (fun _ h => h) ?_
 refine Wl.q (v := Value.int .i64 ((n : Nat) : Int)) (q_extract (i := 0) rfl rfl) ?_
 refine Wl.q (v := Value.int .i64 0) (q_extract (i := 1) rfl rfl) ?_
 refine Wl.q (v := Value.int .i64 ((n : Nat) : Int)) (q_assign rfl) ?_
 refine Wl.q (v := Value.int .i64 0) (q_assign rfl) ?_
 refine Wl.done ?_
 refine Wx.go ?_
 refine Wc.ret ?_
 refine Wx.fin2 rfl (.inl rfl) (fun w hs => ?_)
 exact ⟨(), trivial, rfl, hs⟩

theorem begin_w (W0 : World) (s : Nat) (ts : List TermR) (app x : Int) (hw : Wf ts) (ha : 1 ≤ app ∧ app ≤ (ts.length : Int)) (hx : i64R x) (hl : ts.length + 2 ≤ 1048576) :
  Con Tryz.prog W0 20 #[Value.pointer (some ⟨s, 0, none⟩), Value.int .i64 app, Value.int .i64 x] [storeW s ts] (X := Unit) (fun _ => True) (fun _ => .tuple #[.int .i64 (((beginR ts app x).2 : Nat) : Int), .int .i64 0]) (fun _ => [storeW s ((beginR ts app x).1)]) := by
 refine Con.of (args := [Value.pointer (some ⟨s, 0, none⟩), Value.int .i64 app, Value.int .i64 x]) Tryz.func20 rfl Tryz.ntmps20 rfl (fun F => ?_)
 obtain ⟨okd, hd1, hd2, Id⟩ := data_made (x := x) hw hx (by omega)
 have hdp := Id.pos
 have hdl := Id.len
 have hde := Id.ext.len
 simp only at hdp hdl hde
 obtain ⟨okk, hk1, hk2, Ik⟩ := kdf_made (l := 9) (a := app) (b := (((mk ts ⟨2, x, 0, 0⟩).2.1 : Nat) : Int)) Id.wf (by decide) (by simp only; omega) (.inl (by simp only; omega)) (by simp only; omega)
 obtain ⟨ta, hta⟩ : ∃ t, ts[(app - 1).toNat]? = some t := ⟨_, List.getElem?_eq_getElem (by omega)⟩
 show Wc _ W0 _ _ _ _ _ ((storeW s ts) :: F)
 refine Wc.seq ?_
 refine Wc.region ?_
 refine Wl.q (v := Value.int .i64 0) (q_assign rfl) ?_
 refine Wl.q (v := Value.int .i64 0) (q_assign rfl) ?_
 refine Wl.done ?_
 refine Wx.go ?_
 refine Wc.seq ?_
 refine Wc.seq ?_
 refine Wc.region ?_
 refine Wl.q (v := Value.pointer (some ⟨s, 0, none⟩)) (q_move rfl) ?_
 refine Wl.e (e_call (F := F) (args := [Value.pointer (some ⟨s, 0, none⟩), Value.slice none 0 0]) Tryz.call135 rfl (list0_w W0 s ts)) (fun _ _ => ?_)
 refine Wl.imp (L' := (storeW s ts) :: F) (fun _ h => h) ?_
 refine Wl.q (v := Value.tuple #[Value.int .i64 0, Value.int .i64 0]) (q_move rfl) ?_
 refine Wl.q (v := Value.int .i64 0) (q_extract (i := 0) rfl rfl) ?_
 refine Wl.q (v := Value.int .i64 0) (q_extract (i := 1) rfl rfl) ?_
 refine Wl.q (v := Value.int .i64 0) (q_assign rfl) ?_
 refine Wl.q (v := Value.int .i64 0) (q_assign rfl) ?_
 refine Wl.done ?_
 refine Wx.go ?_
 refine Wc.seq ?_
 refine Wc.region ?_
 refine Wl.q (v := Value.int .i64 0) (q_move rfl) ?_
 refine Wl.q (v := Value.bool false) (q_eql (r := false) rfl rfl (decide_eq_false (by decide))) ?_
 refine Wl.done ?_
 refine Wx.go ?_
 refine Wc.no rfl ?_
 refine Wc.skip ?_
 refine Wx.go ?_
 refine Wc.seq ?_
 refine Wc.seq ?_
 refine Wc.region ?_
 refine Wl.q (v := Value.pointer (some ⟨s, 0, none⟩)) (q_move rfl) ?_
 refine Wl.q (v := Value.int .i64 app) (q_move rfl) ?_
 refine Wl.e (e_call (F := F) (args := [Value.pointer (some ⟨s, 0, none⟩), Value.int .i64 app]) Tryz.call29 rfl (get_w W0 s ts app ta ha.1 hta)) (fun _ _ => ?_)
 refine Wl.imp (L' := (storeW s ts) :: F) (fun _ h => h) ?_
 refine Wl.q (v := Value.tuple #[Value.agg #[Value.int .u8 ((ta.kind : Nat) : Int), Value.int .i64 ta.n, Value.int .i64 ta.a, Value.int .i64 ta.b], Value.bool true]) (q_move rfl) ?_
 refine Wl.q (v := Value.agg #[Value.int .u8 ((ta.kind : Nat) : Int), Value.int .i64 ta.n, Value.int .i64 ta.a, Value.int .i64 ta.b]) (q_extract (i := 0) rfl rfl) ?_
 refine Wl.q (v := Value.bool true) (q_extract (i := 1) rfl rfl) ?_
 refine Wl.e (e_alloc (vs := [Value.int .u8 0, Value.int .i64 0, Value.int .i64 0, Value.int .i64 0]) zo_89 rfl) (fun b1 _ => ?_)
 refine Wl.imp (L' := (pt b1 89 [Value.int .u8 0, Value.int .i64 0, Value.int .i64 0, Value.int .i64 0]) :: (storeW s ts) :: F) (fun _ h => h) ?_
 refine Wl.e (e_storeAgg (i := 0) (vs := [Value.int .u8 ((ta.kind : Nat) : Int), Value.int .i64 ta.n, Value.int .i64 ta.a, Value.int .i64 ta.b]) (c' := [Value.int .u8 ((ta.kind : Nat) : Int), Value.int .i64 ta.n, Value.int .i64 ta.a, Value.int .i64 ta.b]) sz_89 rfl rfl rfl rfl (by simp) rfl) (fun _ _ => ?_)
 refine Wl.imp (L' := (pt b1 89 [Value.int .u8 ((ta.kind : Nat) : Int), Value.int .i64 ta.n, Value.int .i64 ta.a, Value.int .i64 ta.b]) :: (storeW s ts) :: F) (fun _ h => h) ?_
 refine Wl.q (v := Value.bool true) (q_assign rfl) ?_
 refine Wl.done ?_
 refine Wx.go ?_
 refine Wc.seq ?_
 refine Wc.region ?_
 refine Wl.q (v := Value.bool true) (q_move rfl) ?_
 refine Wl.q (v := Value.bool false) (q_not rfl rfl) ?_
 refine Wl.done ?_
 refine Wx.go ?_
 refine Wc.no rfl ?_
 refine Wc.skip ?_
 refine Wx.go ?_
 refine Wc.seq ?_
 refine Wc.region ?_
 refine Wl.q (v := Value.pointer (some ⟨s, 0, none⟩)) (q_move rfl) ?_
 refine Wl.q (v := Value.int .i64 x) (q_move rfl) ?_
 refine Wl.e (e_buildSlice (cs := [Value.int .i64 x]) se_129 zo_2 (by decide) (by decide) (by kernel_rfl)) (fun b2 _ => ?_)
 refine Wl.imp (L' := (pt b2 2 [Value.int .i64 x]) :: (pt b1 89 [Value.int .u8 ((ta.kind : Nat) : Int), Value.int .i64 ta.n, Value.int .i64 ta.a, Value.int .i64 ta.b]) :: (storeW s ts) :: F) (fun _ h => h) ?_
 refine Wl.imp (L' := (storeW s ts) :: (pt b2 2 [Value.int .i64 x]) :: (pt b1 89 [Value.int .u8 ((ta.kind : Nat) : Int), Value.int .i64 ta.n, Value.int .i64 ta.a, Value.int .i64 ta.b]) :: F) (fun _ h => st_pull [2, 0] h) ?_
 refine Wl.e (e_call (F := (pt b1 89 [Value.int .u8 ((ta.kind : Nat) : Int), Value.int .i64 ta.n, Value.int .i64 ta.a, Value.int .i64 ta.b]) :: F) (args := [Value.pointer (some ⟨s, 0, none⟩), Value.slice (some ⟨b2, 0, none⟩) 1 1]) Tryz.call136 rfl (da1_Data W0 ts ((mk ts ⟨2, x, 0, 0⟩).1) x ((mk ts ⟨2, x, 0, 0⟩).2.1) okd hd1 (by omega) s b2)) (fun _ _ => ?_)
 refine Wl.imp (L' := (storeW s ((mk ts ⟨2, x, 0, 0⟩).1)) :: (pt b2 2 [Value.int .i64 x]) :: (pt b1 89 [Value.int .u8 ((ta.kind : Nat) : Int), Value.int .i64 ta.n, Value.int .i64 ta.a, Value.int .i64 ta.b]) :: F) (fun _ h => h) ?_
 refine Wl.q (v := Value.tuple #[Value.int .i64 (((mk ts ⟨2, x, 0, 0⟩).2.1 : Nat) : Int), Value.int .i64 0]) (q_move rfl) ?_
 refine Wl.q (v := Value.int .i64 (((mk ts ⟨2, x, 0, 0⟩).2.1 : Nat) : Int)) (q_extract (i := 0) rfl rfl) ?_
 refine Wl.q (v := Value.int .i64 0) (q_extract (i := 1) rfl rfl) ?_
 refine Wl.q (v := Value.int .i64 (((mk ts ⟨2, x, 0, 0⟩).2.1 : Nat) : Int)) (q_assign rfl) ?_
 refine Wl.q (v := Value.int .i64 0) (q_assign rfl) ?_
 refine Wl.done ?_
 refine Wx.go ?_
 refine Wc.seq ?_
 refine Wc.seq ?_
 refine Wc.region ?_
 refine Wl.q (v := Value.int .i64 0) (q_move rfl) ?_
 refine Wl.q (v := Value.bool false) (q_neq (r := true) rfl rfl (decide_eq_true (by decide))) ?_
 refine Wl.done ?_
 refine Wx.go ?_
 refine Wc.no rfl ?_
 refine Wc.skip ?_
 refine Wx.go ?_
 refine Wc.seq ?_
 refine Wc.region ?_
 refine Wl.q (v := Value.pointer (some ⟨s, 0, none⟩)) (q_move rfl) ?_
 refine Wl.q (v := Value.int .i64 app) (q_move rfl) ?_
 refine Wl.q (v := Value.int .i64 (((mk ts ⟨2, x, 0, 0⟩).2.1 : Nat) : Int)) (q_move rfl) ?_
 refine Wl.e (e_call (F := (pt b2 2 [Value.int .i64 x]) :: (pt b1 89 [Value.int .u8 ((ta.kind : Nat) : Int), Value.int .i64 ta.n, Value.int .i64 ta.a, Value.int .i64 ta.b]) :: F) (args := [Value.pointer (some ⟨s, 0, none⟩), Value.int .i64 9, Value.int .i64 app, Value.int .i64 (((mk ts ⟨2, x, 0, 0⟩).2.1 : Nat) : Int)]) Tryz.call137 rfl (kdf_w W0 s ((mk ts ⟨2, x, 0, 0⟩).1) ((mk ((mk ts ⟨2, x, 0, 0⟩).1) ⟨4, 9, app, (((mk ts ⟨2, x, 0, 0⟩).2.1 : Nat) : Int)⟩).1) 9 app (((mk ts ⟨2, x, 0, 0⟩).2.1 : Nat) : Int) ((mk ((mk ts ⟨2, x, 0, 0⟩).1) ⟨4, 9, app, (((mk ts ⟨2, x, 0, 0⟩).2.1 : Nat) : Int)⟩).2.1) okk hk1)) (fun _ _ => ?_)
 refine Wl.imp (L' := (storeW s ((mk ((mk ts ⟨2, x, 0, 0⟩).1) ⟨4, 9, app, (((mk ts ⟨2, x, 0, 0⟩).2.1 : Nat) : Int)⟩).1)) :: (pt b2 2 [Value.int .i64 x]) :: (pt b1 89 [Value.int .u8 ((ta.kind : Nat) : Int), Value.int .i64 ta.n, Value.int .i64 ta.a, Value.int .i64 ta.b]) :: F) (fun _ h => h) ?_
 refine Wl.q (v := Value.int .i64 (((mk ((mk ts ⟨2, x, 0, 0⟩).1) ⟨4, 9, app, (((mk ts ⟨2, x, 0, 0⟩).2.1 : Nat) : Int)⟩).2.1 : Nat) : Int)) (q_extract (i := 0) rfl rfl) ?_
 refine Wl.q (v := Value.int .i64 0) (q_extract (i := 1) rfl rfl) ?_
 refine Wl.q (v := Value.int .i64 (((mk ((mk ts ⟨2, x, 0, 0⟩).1) ⟨4, 9, app, (((mk ts ⟨2, x, 0, 0⟩).2.1 : Nat) : Int)⟩).2.1 : Nat) : Int)) (q_assign rfl) ?_
 refine Wl.q (v := Value.int .i64 0) (q_assign rfl) ?_
 refine Wl.done ?_
 refine Wx.go ?_
 refine Wc.ret ?_
 refine Wx.fin2 rfl (.inl rfl) (fun w hs => ?_)
 exact ⟨(), trivial, rfl, (st_drop (st_drop (st_pull [1, 1] hs)))⟩

theorem key_w (W0 : World) (s : Nat) (ts : List TermR) (app x : Int) (n : Nat) (hw : Wf ts) (ha : 1 ≤ app ∧ app ≤ (ts.length : Int)) (hx : i64R x) (hn : n ≤ 65536) (hl : ts.length + n + 3 ≤ 1048576) :
    Con Tryz.prog W0 26 #[Value.pointer (some ⟨s, 0, none⟩), Value.int .i64 app, Value.int .i64 x, Value.int .i64 ((n : Nat) : Int)] [storeW s ts] (X := Unit) (fun _ => True) (fun _ => .tuple #[.int .i64 (((keyF (chainR ts app x n)).2 : Nat) : Int), .int .i64 0]) (fun _ => [storeW s ((keyF (chainR ts app x n)).1)]) := by
  refine Con.of (args := [Value.pointer (some ⟨s, 0, none⟩), Value.int .i64 app, Value.int .i64 x, Value.int .i64 ((n : Nat) : Int)]) Tryz.func26 rfl Tryz.ntmps26 rfl (fun F => ?_)
  obtain ⟨ta, hta⟩ : ∃ t, ts[(app - 1).toNat]? = some t := ⟨_, List.getElem?_eq_getElem (by omega)⟩
  show Wc _ W0 _ _ _ _ _ ((storeW s ts) :: F)
  refine Wc.seq ?_
  refine Wc.region ?_
  refine Wl.q (v := Value.int .i64 0) (q_assign rfl) ?_
  refine Wl.q (v := Value.int .i64 0) (q_assign rfl) ?_
  refine Wl.done ?_
  refine Wx.go ?_
  refine Wc.seq ?_
  refine Wc.seq ?_
  refine Wc.region ?_
  refine Wl.q (v := Value.pointer (some ⟨s, 0, none⟩)) (q_move rfl) ?_
  refine Wl.e (e_call (F := F) (args := [Value.pointer (some ⟨s, 0, none⟩), Value.slice none 0 0]) Tryz.call135 rfl (list0_w W0 s ts)) (fun _ _ => ?_)
  refine Wl.imp (L' := (storeW s ts) :: F) (fun _ h => h) ?_
  refine Wl.q (v := Value.tuple #[Value.int .i64 0, Value.int .i64 0]) (q_move rfl) ?_
  refine Wl.q (v := Value.int .i64 0) (q_extract (i := 0) rfl rfl) ?_
  refine Wl.q (v := Value.int .i64 0) (q_extract (i := 1) rfl rfl) ?_
  refine Wl.q (v := Value.int .i64 0) (q_assign rfl) ?_
  refine Wl.q (v := Value.int .i64 0) (q_assign rfl) ?_
  refine Wl.done ?_
  refine Wx.go ?_
  refine Wc.seq ?_
  refine Wc.region ?_
  refine Wl.q (v := Value.int .i64 0) (q_move rfl) ?_
  refine Wl.q (v := Value.bool false) (q_eql (r := false) rfl rfl (decide_eq_false (by decide))) ?_
  refine Wl.done ?_
  refine Wx.go ?_
  refine Wc.no rfl ?_
  refine Wc.skip ?_
  refine Wx.go ?_
  refine Wc.seq ?_
  refine Wc.seq ?_
  refine Wc.region ?_
  refine Wl.q (v := Value.pointer (some ⟨s, 0, none⟩)) (q_move rfl) ?_
  refine Wl.q (v := Value.int .i64 app) (q_move rfl) ?_
  refine Wl.e (e_call (F := F) (args := [Value.pointer (some ⟨s, 0, none⟩), Value.int .i64 app]) Tryz.call29 rfl (get_w W0 s ts app ta ha.1 hta)) (fun _ _ => ?_)
  refine Wl.imp (L' := (storeW s ts) :: F) (fun _ h => h) ?_
  refine Wl.q (v := Value.tuple #[Value.agg #[Value.int .u8 ((ta.kind : Nat) : Int), Value.int .i64 ta.n, Value.int .i64 ta.a, Value.int .i64 ta.b], Value.bool true]) (q_move rfl) ?_
  refine Wl.q (v := Value.agg #[Value.int .u8 ((ta.kind : Nat) : Int), Value.int .i64 ta.n, Value.int .i64 ta.a, Value.int .i64 ta.b]) (q_extract (i := 0) rfl rfl) ?_
  refine Wl.q (v := Value.bool true) (q_extract (i := 1) rfl rfl) ?_
  refine Wl.e (e_alloc (vs := [Value.int .u8 0, Value.int .i64 0, Value.int .i64 0, Value.int .i64 0]) zo_89 rfl) (fun b1 _ => ?_)
  refine Wl.imp (L' := (pt b1 89 [Value.int .u8 0, Value.int .i64 0, Value.int .i64 0, Value.int .i64 0]) :: (storeW s ts) :: F) (fun _ h => h) ?_
  refine Wl.e (e_storeAgg (i := 0) (vs := [Value.int .u8 ((ta.kind : Nat) : Int), Value.int .i64 ta.n, Value.int .i64 ta.a, Value.int .i64 ta.b]) (c' := [Value.int .u8 ((ta.kind : Nat) : Int), Value.int .i64 ta.n, Value.int .i64 ta.a, Value.int .i64 ta.b]) sz_89 rfl rfl rfl rfl (by simp) rfl) (fun _ _ => ?_)
  refine Wl.imp (L' := (pt b1 89 [Value.int .u8 ((ta.kind : Nat) : Int), Value.int .i64 ta.n, Value.int .i64 ta.a, Value.int .i64 ta.b]) :: (storeW s ts) :: F) (fun _ h => h) ?_
  refine Wl.q (v := Value.bool true) (q_assign rfl) ?_
  refine Wl.done ?_
  refine Wx.go ?_
  refine Wc.seq ?_
  refine Wc.region ?_
  refine Wl.q (v := Value.bool true) (q_move rfl) ?_
  refine Wl.q (v := Value.bool false) (q_not rfl rfl) ?_
  refine Wl.q (v := Value.bool false) (q_move rfl) ?_
  refine Wl.q (v := Value.int .i64 ((n : Nat) : Int)) (q_move rfl) ?_
  refine Wl.q (v := Value.bool false) (q_lss (r := false) rfl rfl (decide_eq_false (by omega))) ?_
  refine Wl.q (v := Value.bool false) (q_pick (t := false) rfl rfl) ?_
  refine Wl.done ?_
  refine Wx.go ?_
  refine Wc.no rfl ?_
  refine Wc.skip ?_
  refine Wx.go ?_
  refine Wc.seq ?_
  refine Wc.seq ?_
  refine Wc.region ?_
  refine Wl.q (v := Value.int .i64 ((n : Nat) : Int)) (q_move rfl) ?_
  refine Wl.q (v := Value.bool false) (q_gtr (r := false) rfl rfl (decide_eq_false (by omega))) ?_
  refine Wl.done ?_
  refine Wx.go ?_
  refine Wc.no rfl ?_
  refine Wc.skip ?_
  refine Wx.go ?_
  refine Wc.seq ?_
  refine Wc.region ?_
  refine Wl.q (v := Value.pointer (some ⟨s, 0, none⟩)) (q_move rfl) ?_
  refine Wl.q (v := Value.int .i64 app) (q_move rfl) ?_
  refine Wl.q (v := Value.int .i64 x) (q_move rfl) ?_
  refine Wl.imp (L' := (storeW s ts) :: (pt b1 89 [Value.int .u8 ((ta.kind : Nat) : Int), Value.int .i64 ta.n, Value.int .i64 ta.a, Value.int .i64 ta.b]) :: F) (fun _ h => st_pull [1] h) ?_
  refine Wl.e (e_call (F := (pt b1 89 [Value.int .u8 ((ta.kind : Nat) : Int), Value.int .i64 ta.n, Value.int .i64 ta.a, Value.int .i64 ta.b]) :: F) (args := [Value.pointer (some ⟨s, 0, none⟩), Value.int .i64 app, Value.int .i64 x]) Tryz.call20 rfl (begin_w W0 s ts app x hw ha hx (by omega))) (fun _ _ => ?_)
  refine Wl.imp (L' := (storeW s ((beginR ts app x).1)) :: (pt b1 89 [Value.int .u8 ((ta.kind : Nat) : Int), Value.int .i64 ta.n, Value.int .i64 ta.a, Value.int .i64 ta.b]) :: F) (fun _ h => h) ?_
  refine Wl.q (v := Value.tuple #[Value.int .i64 (((beginR ts app x).2 : Nat) : Int), Value.int .i64 0]) (q_move rfl) ?_
  refine Wl.q (v := Value.int .i64 (((beginR ts app x).2 : Nat) : Int)) (q_extract (i := 0) rfl rfl) ?_
  refine Wl.q (v := Value.int .i64 0) (q_extract (i := 1) rfl rfl) ?_
  refine Wl.q (v := Value.int .i64 (((beginR ts app x).2 : Nat) : Int)) (q_assign rfl) ?_
  refine Wl.q (v := Value.int .i64 0) (q_assign rfl) ?_
  refine Wl.done ?_
  refine Wx.go ?_
  refine Wc.seq ?_
  refine Wc.seq ?_
  refine Wc.region ?_
  refine Wl.q (v := Value.int .i64 ((n : Nat) : Int)) (q_move rfl) ?_
  refine Wl.q (v := Value.int .i64 0) (q_move rfl) ?_
  refine Wl.done ?_
  refine Wx.go ?_
  refine Wc.block ?_
  refine Wc.loop (X := Nat) (fun i E => E 46 = Value.int .i64 ((i : Nat) : Int) ∧ E 14 = Value.int .i64 (((chainR ts app x i).2 : Nat) : Int) ∧ E 15 = Value.int .i64 0 ∧ E 0 = Value.pointer (some ⟨s, 0, none⟩) ∧ E 45 = Value.int .i64 ((n : Nat) : Int) ∧ i ≤ n) (fun i => (storeW s ((chainR ts app x i).1)) :: F) (fun i => n - i) 0 ?_ ?_ ?_
  · exact ⟨rfl, rfl, rfl, rfl, rfl, (Nat.zero_le _)⟩
  · exact fun w hs => (st_drop (st_pull [1] hs))
  · rintro i E3 ⟨hE46_1, hE14_1, hE15_1, hE0_1, hE45_1, hi⟩
    obtain ⟨Ii, hs2⟩ := chain_made (app := app) hw ha hx i (by omega)
    have hip := Ii.pos
    have hil := Ii.len
    refine Wc.seq ?_
    refine Wc.region ?_
    by_cases hlt : ((i : Nat) : Int) < ((n : Nat) : Int)
    ·
      obtain ⟨okn, hn1, hn2, In⟩ := kdf_made (l := 10) (a := (((chainR ts app x i).2 : Nat) : Int)) (b := 0) Ii.wf (by decide) (by omega) (.inr rfl) (by omega)
      refine Wl.q (v := Value.bool true) (q_lss (r := true) hE46_1 hE45_1 (decide_eq_true hlt)) ?_
      refine Wl.done ?_
      refine Wx.go ?_
      refine Wc.seq ?_
      refine Wc.yes rfl ?_
      refine Wc.skip ?_
      refine Wx.go ?_
      refine Wc.seq ?_
      refine Wc.block ?_
      refine Wc.seq ?_
      refine Wc.seq ?_
      refine Wc.region ?_
      refine Wl.q (v := Value.int .i64 0) (q_move hE15_1) ?_
      refine Wl.q (v := Value.bool false) (q_neq (r := true) rfl rfl (decide_eq_true (by decide))) ?_
      refine Wl.done ?_
      refine Wx.go ?_
      refine Wc.no rfl ?_
      refine Wc.skip ?_
      refine Wx.go ?_
      refine Wc.region ?_
      refine Wl.q (v := Value.pointer (some ⟨s, 0, none⟩)) (q_move hE0_1) ?_
      refine Wl.q (v := Value.int .i64 (((chainR ts app x i).2 : Nat) : Int)) (q_move hE14_1) ?_
      refine Wl.e (e_call (F := F) (args := [Value.pointer (some ⟨s, 0, none⟩), Value.int .i64 10, Value.int .i64 (((chainR ts app x i).2 : Nat) : Int), Value.int .i64 0]) Tryz.call137 rfl (kdf_w W0 s ((chainR ts app x i).1) ((mk ((chainR ts app x i).1) ⟨4, 10, (((chainR ts app x i).2 : Nat) : Int), 0⟩).1) 10 (((chainR ts app x i).2 : Nat) : Int) 0 ((mk ((chainR ts app x i).1) ⟨4, 10, (((chainR ts app x i).2 : Nat) : Int), 0⟩).2.1) okn hn1)) (fun _ _ => ?_)
      refine Wl.imp (L' := (storeW s ((mk ((chainR ts app x i).1) ⟨4, 10, (((chainR ts app x i).2 : Nat) : Int), 0⟩).1)) :: F) (fun _ h => h) ?_
      refine Wl.q (v := Value.tuple #[Value.int .i64 (((mk ((chainR ts app x i).1) ⟨4, 10, (((chainR ts app x i).2 : Nat) : Int), 0⟩).2.1 : Nat) : Int), Value.int .i64 0]) (q_move rfl) ?_
      refine Wl.q (v := Value.int .i64 (((mk ((chainR ts app x i).1) ⟨4, 10, (((chainR ts app x i).2 : Nat) : Int), 0⟩).2.1 : Nat) : Int)) (q_extract (i := 0) rfl rfl) ?_
      refine Wl.q (v := Value.int .i64 0) (q_extract (i := 1) rfl rfl) ?_
      refine Wl.q (v := Value.int .i64 (((mk ((chainR ts app x i).1) ⟨4, 10, (((chainR ts app x i).2 : Nat) : Int), 0⟩).2.1 : Nat) : Int)) (q_assign rfl) ?_
      refine Wl.q (v := Value.int .i64 0) (q_assign rfl) ?_
      refine Wl.done ?_
      refine Wx.blockEnd ?_
      refine Wx.go ?_
      refine Wc.region ?_
      refine Wl.q (v := Value.int .i64 ((i + 1 : Nat) : Int)) (q_add (c := ((i + 1 : Nat) : Int)) hE46_1 rfl (by rw [wrap_i64] <;> omega)) ?_
      refine Wl.q (v := Value.int .i64 ((i + 1 : Nat) : Int)) (q_move rfl) ?_
      refine Wl.done ?_
      refine Wx.at (i + 1) ⟨(by omega), rfl, rfl, rfl, hE0_1, hE45_1, (by omega)⟩ (fun w hs => hs)
    ·
      have he : i = n := by omega
      subst he
      obtain ⟨okn, hn1, hn2, In⟩ := kdf_made (l := 11) (a := (((chainR ts app x i).2 : Nat) : Int)) (b := 0) Ii.wf (by decide) (by omega) (.inr rfl) (by omega)
      refine Wl.q (v := Value.bool false) (q_lss (r := false) hE46_1 hE45_1 (decide_eq_false hlt)) ?_
      refine Wl.done ?_
      refine Wx.go ?_
      refine Wc.seq ?_
      refine Wc.no rfl ?_
      refine Wc.exit ?_
      refine Wx.thenExit ?_
      refine Wx.thenExit ?_
      refine Wx.out ?_
      refine Wx.go ?_
      refine Wc.seq ?_
      refine Wc.seq ?_
      refine Wc.region ?_
      refine Wl.q (v := Value.int .i64 0) (q_move hE15_1) ?_
      refine Wl.q (v := Value.bool false) (q_neq (r := true) rfl rfl (decide_eq_true (by decide))) ?_
      refine Wl.done ?_
      refine Wx.go ?_
      refine Wc.no rfl ?_
      refine Wc.skip ?_
      refine Wx.go ?_
      refine Wc.seq ?_
      refine Wc.region ?_
      refine Wl.q (v := Value.pointer (some ⟨s, 0, none⟩)) (q_move hE0_1) ?_
      refine Wl.q (v := Value.int .i64 (((chainR ts app x i).2 : Nat) : Int)) (q_move hE14_1) ?_
      refine Wl.e (e_call (F := F) (args := [Value.pointer (some ⟨s, 0, none⟩), Value.int .i64 11, Value.int .i64 (((chainR ts app x i).2 : Nat) : Int), Value.int .i64 0]) Tryz.call137 rfl (kdf_w W0 s ((chainR ts app x i).1) ((mk ((chainR ts app x i).1) ⟨4, 11, (((chainR ts app x i).2 : Nat) : Int), 0⟩).1) 11 (((chainR ts app x i).2 : Nat) : Int) 0 ((mk ((chainR ts app x i).1) ⟨4, 11, (((chainR ts app x i).2 : Nat) : Int), 0⟩).2.1) okn hn1)) (fun _ _ => ?_)
      refine Wl.imp (L' := (storeW s ((mk ((chainR ts app x i).1) ⟨4, 11, (((chainR ts app x i).2 : Nat) : Int), 0⟩).1)) :: F) (fun _ h => h) ?_
      refine Wl.q (v := Value.int .i64 (((mk ((chainR ts app x i).1) ⟨4, 11, (((chainR ts app x i).2 : Nat) : Int), 0⟩).2.1 : Nat) : Int)) (q_extract (i := 0) rfl rfl) ?_
      refine Wl.q (v := Value.int .i64 0) (q_extract (i := 1) rfl rfl) ?_
      refine Wl.q (v := Value.int .i64 (((mk ((chainR ts app x i).1) ⟨4, 11, (((chainR ts app x i).2 : Nat) : Int), 0⟩).2.1 : Nat) : Int)) (q_assign rfl) ?_
      refine Wl.q (v := Value.int .i64 0) (q_assign rfl) ?_
      refine Wl.done ?_
      refine Wx.go ?_
      refine Wc.ret ?_
      refine Wx.fin2 rfl (.inl rfl) (fun w hs => ?_)
      exact ⟨(), trivial, rfl, hs⟩

end Go.Proofs.YtjjghmkjdgogiaaGreatDoor
