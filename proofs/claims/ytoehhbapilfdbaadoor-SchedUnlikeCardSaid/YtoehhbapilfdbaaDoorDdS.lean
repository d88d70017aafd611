/- What follows: contracts of the calls. -/
import Derived.Test.YtoehhbapilfdbaaDoorDdW
import Derived.Test.YtoehhbapilfdbaaDoorScP
namespace Go.Proofs.YtoehhbapilfdbaaDoor
open Go Go.SL Go.Dd Go.RowKit
set_option linter.unusedVariables false
set_option maxRecDepth 8000
theorem sz_3 : sizeIs Tryd.prog 3 = some 1 := by kernel_rfl
theorem sc_23 : scalar Tryd.prog 23 = true := by kernel_rfl
theorem zo_52 : zeroOf Tryd.prog 52 = some (Value.agg #[Value.pointer none, Value.int .i64 0]) := by kernel_rfl
theorem fo_52_1 : fieldOff Tryd.prog 52 1 = some 1 := by kernel_rfl
theorem sc_34 : scalar Tryd.prog 34 = true := by kernel_rfl
theorem fo_52_0 : fieldOff Tryd.prog 52 0 = some 0 := by kernel_rfl
theorem sz_34 : sizeIs Tryd.prog 34 = some 1 := by kernel_rfl
theorem zo_33 : zeroOf Tryd.prog 33 = some (Value.agg #[Value.int .i64 0, Value.int .i64 0, Value.int .i64 0, Value.int .i64 0, Value.int .i64 0, Value.int .i64 0]) := by kernel_rfl
theorem sz_33 : sizeIs Tryd.prog 33 = some 6 := by kernel_rfl
theorem fo_33_2 : fieldOff Tryd.prog 33 2 = some 2 := by kernel_rfl
theorem zo_81 : zeroOf Tryd.prog 81 = some (Value.agg #[Value.int .i64 0, Value.pointer none]) := by kernel_rfl
theorem fo_33_3 : fieldOff Tryd.prog 33 3 = some 3 := by kernel_rfl
theorem fo_33_4 : fieldOff Tryd.prog 33 4 = some 4 := by kernel_rfl
theorem fo_33_5 : fieldOff Tryd.prog 33 5 = some 5 := by kernel_rfl
theorem se_82 : sliceElem Tryd.prog 82 = some (81, 2) := by kernel_rfl
theorem ag_81 : aggSize Tryd.prog 81 = some 2 := by kernel_rfl
theorem sz_81 : sizeIs Tryd.prog 81 = some 2 := by kernel_rfl
theorem fo_81_1 : fieldOff Tryd.prog 81 1 = some 1 := by kernel_rfl
theorem sc_80 : scalar Tryd.prog 80 = true := by kernel_rfl
theorem fo_81_0 : fieldOff Tryd.prog 81 0 = some 0 := by kernel_rfl
theorem ag_33 : aggSize Tryd.prog 33 = some 6 := by kernel_rfl
theorem list0_w (W0 : World) (s : Nat) (ts : List TermR) : Con Tryd.prog W0 29 #[.pointer (some ⟨s, 0, none⟩), .slice none 0 0] [storeW s ts] (X := Unit) (fun _ => True) (fun _ => .tuple #[.int .i64 0, .int .i64 0]) (fun _ => [storeW s ts]) := Con.storeW fun hw hl =>
  (list0_c W0 s ts).mono fun _ _ => ⟨(), trivial, rfl, fun _ _ hs => storeW_mk hw hl hs⟩

theorem salive_w (W0 : World) (s : Nat) (ts : List TermR) :
    Con Tryd.prog W0 14 #[Value.pointer (some ⟨s, 0, none⟩)] [storeW s ts] (X := Unit) (fun _ => True) (fun _ => .bool true) (fun _ => [storeW s ts]) := by
  refine Con.of (args := [Value.pointer (some ⟨s, 0, none⟩)]) Tryd.func14 rfl Tryd.ntmps14 rfl (fun F => ?_)
  show Wc _ W0 _ _ _ _ _ ((storeW s ts) :: F)
  refine Wc.seq ?_
  refine Wc.region ?_
  refine Wl.q (v := Value.bool false) (q_assign rfl) ?_
  refine Wl.done ?_
  refine Wx.go ?_
  refine Wc.seq ?_
  refine Wc.region ?_
  refine Wl.q (v := Value.pointer (some ⟨s, 0, none⟩)) (q_move rfl) ?_
  refine Wl.e (e_call (F := F) (args := [Value.pointer (some ⟨s, 0, none⟩), Value.slice none 0 0]) Tryd.call29 rfl (list0_w W0 s ts)) (fun _ _ => ?_)
  refine Wl.imp (L' := (storeW s ts) :: F) (fun _ h => h) ?_
  refine Wl.q (v := Value.tuple #[Value.int .i64 0, Value.int .i64 0]) (q_move rfl) ?_
  refine Wl.q (v := Value.int .i64 0) (q_extract (i := 0) rfl rfl) ?_
  refine Wl.q (v := Value.int .i64 0) (q_extract (i := 1) rfl rfl) ?_
  refine Wl.q (v := Value.int .i64 0) (q_assign rfl) ?_
  refine Wl.q (v := Value.int .i64 0) (q_assign rfl) ?_
  refine Wl.done ?_
  refine Wx.go ?_
  refine Wc.seq ?_
  refine Wc.region ?_
  refine Wl.q (v := Value.int .i64 0) (q_move rfl) ?_
  refine Wl.q (v := Value.bool true) (q_neq (r := false) rfl rfl (decide_eq_false (by decide))) ?_
  refine Wl.q (v := Value.bool true) (q_assign rfl) ?_
  refine Wl.done ?_
  refine Wx.go ?_
  refine Wc.ret ?_
  refine Wx.fin1 rfl (.inl rfl) (fun w hs => ?_)
  exact ⟨(), trivial, rfl, hs⟩

theorem sthere_o (W0 : World) (s : Nat) (ts : List TermR) (x : Int) (t : TermR) (h1 : 1 ≤ x) (hx : ts[(x - 1).toNat]? = some t) :
    Con Tryd.prog W0 15 #[Value.pointer (some ⟨s, 0, none⟩), Value.int .i64 x] [storeW s ts] (X := Unit) (fun _ => True) (fun _ => .bool true) (fun _ => [storeW s ts]) := by
  refine Con.of (args := [Value.pointer (some ⟨s, 0, none⟩), Value.int .i64 x]) Tryd.func15 rfl Tryd.ntmps15 rfl (fun F => ?_)
  show Wc _ W0 _ _ _ _ _ ((storeW s ts) :: F)
  refine Wc.seq ?_
  refine Wc.region ?_
  refine Wl.q (v := Value.bool false) (q_assign rfl) ?_
  refine Wl.done ?_
  refine Wx.go ?_
  refine Wc.seq ?_
  refine Wc.region ?_
  refine Wl.q (v := Value.pointer (some ⟨s, 0, none⟩)) (q_move rfl) ?_
  refine Wl.q (v := Value.int .i64 x) (q_move rfl) ?_
  refine Wl.e (e_call (F := F) (args := [Value.pointer (some ⟨s, 0, none⟩), Value.int .i64 x]) Tryd.call30 rfl (get_w W0 s ts x t h1 hx)) (fun _ _ => ?_)
  refine Wl.imp (L' := (storeW s ts) :: F) (fun _ h => h) ?_
  refine Wl.q (v := Value.tuple #[Value.agg #[Value.int .u8 ((t.kind : Nat) : Int), Value.int .i64 t.n, Value.int .i64 t.a, Value.int .i64 t.b], Value.bool true]) (q_move rfl) ?_
  refine Wl.q (v := Value.agg #[Value.int .u8 ((t.kind : Nat) : Int), Value.int .i64 t.n, Value.int .i64 t.a, Value.int .i64 t.b]) (q_extract (i := 0) rfl rfl) ?_
  refine Wl.q (v := Value.bool true) (q_extract (i := 1) rfl rfl) ?_
  refine Wl.e (e_alloc (vs := [Value.int .u8 0, Value.int .i64 0, Value.int .i64 0, Value.int .i64 0]) zo_29 rfl) (fun b1 _ => ?_)
  refine Wl.imp (L' := (pt b1 29 [Value.int .u8 0, Value.int .i64 0, Value.int .i64 0, Value.int .i64 0]) :: (storeW s ts) :: F) (fun _ h => h) ?_
  refine Wl.e (e_storeAgg (i := 0) (vs := [Value.int .u8 ((t.kind : Nat) : Int), Value.int .i64 t.n, Value.int .i64 t.a, Value.int .i64 t.b]) (c' := [Value.int .u8 ((t.kind : Nat) : Int), Value.int .i64 t.n, Value.int .i64 t.a, Value.int .i64 t.b]) sz_29 rfl rfl rfl rfl (by simp) rfl) (fun _ _ => ?_)
  refine Wl.imp (L' := (pt b1 29 [Value.int .u8 ((t.kind : Nat) : Int), Value.int .i64 t.n, Value.int .i64 t.a, Value.int .i64 t.b]) :: (storeW s ts) :: F) (fun _ h => h) ?_
  refine Wl.q (v := Value.bool true) (q_assign rfl) ?_
  refine Wl.done ?_
  refine Wx.go ?_
  refine Wc.seq ?_
  refine Wc.region ?_
  refine Wl.q (v := Value.bool true) (q_move rfl) ?_
  refine Wl.q (v := Value.bool true) (q_assign rfl) ?_
  refine Wl.done ?_
  refine Wx.go ?_
  refine Wc.ret ?_
  refine Wx.fin1 rfl (.inl rfl) (fun w hs => ?_)
  exact ⟨(), trivial, rfl, (st_drop (st_pull [0] hs))⟩

theorem sthere_w (W0 : World) (s : Nat) (ts : List TermR) (x : Int) (h : 1 ≤ x ∧ x ≤ (ts.length : Int)) : Con Tryd.prog W0 15 #[.pointer (some ⟨s, 0, none⟩), .int .i64 x] [storeW s ts] (X := Unit) (fun _ => True) (fun _ => .bool true) (fun _ => [storeW s ts]) :=
  sthere_o W0 s ts x _ h.1 (List.getElem?_eq_getElem (by omega))

theorem mmake_w (W0 : World) (m s : Nat) (ts : List TermR) (t : TermR) (ts2 : List TermR) (n : Nat) (ht : okT t) (h : mk ts t = (ts2, n, 0)) :
    Con Tryd.prog W0 17 #[Value.pointer (some ⟨m, 0, none⟩), Value.agg #[Value.int .u8 ((t.kind : Nat) : Int), Value.int .i64 t.n, Value.int .i64 t.a, Value.int .i64 t.b]] [pt m 52 [Value.pointer (some ⟨s, 0, none⟩), Value.int .i64 0], storeW s ts] (X := Unit) (fun _ => True) (fun _ => .int .i64 ((n : Nat) : Int)) (fun _ => [pt m 52 [Value.pointer (some ⟨s, 0, none⟩), Value.int .i64 0], storeW s ts2]) := by
  refine Con.of (args := [Value.pointer (some ⟨m, 0, none⟩), Value.agg #[Value.int .u8 ((t.kind : Nat) : Int), Value.int .i64 t.n, Value.int .i64 t.a, Value.int .i64 t.b]]) Tryd.func17 rfl Tryd.ntmps17 rfl (fun F => ?_)
  show Wc _ W0 _ _ _ _ _ ((pt m 52 [Value.pointer (some ⟨s, 0, none⟩), Value.int .i64 0]) :: (storeW s ts) :: F)
  refine Wc.seq ?_
  refine Wc.region ?_
  refine Wl.e (e_box (x := .tmp 1) (vs := [Value.int .u8 ((t.kind : Nat) : Int), Value.int .i64 t.n, Value.int .i64 t.a, Value.int .i64 t.b]) rfl) (fun b1 _ => ?_)
  refine Wl.imp (L' := (pt b1 29 [Value.int .u8 ((t.kind : Nat) : Int), Value.int .i64 t.n, Value.int .i64 t.a, Value.int .i64 t.b]) :: (pt m 52 [Value.pointer (some ⟨s, 0, none⟩), Value.int .i64 0]) :: (storeW s ts) :: F) (fun _ h => h) ?_
  refine Wl.q (v := Value.int .i64 0) (q_assign rfl) ?_
  refine Wl.done ?_
  refine Wx.go ?_
  refine Wc.seq ?_
  refine Wc.seq ?_
  refine Wc.region ?_
  refine Wl.q (v := Value.pointer (some ⟨m, 0, none⟩)) (q_move rfl) ?_
  refine Wl.q (v := Value.pointer (some ⟨m, 0, none⟩)) (q_nil_ptr rfl) ?_
  refine Wl.q (v := Value.pointer (some ⟨m, 1, none⟩)) (q_field (m := 1) fo_52_1 rfl rfl) ?_
  refine Wl.q (v := Value.int .i64 0) (q_load sc_34 rfl (.cel (i := 1) rfl rfl)) ?_
  refine Wl.q (v := Value.bool false) (q_neq (r := true) rfl rfl (decide_eq_true (by decide))) ?_
  refine Wl.done ?_
  refine Wx.go ?_
  refine Wc.no rfl ?_
  refine Wc.skip ?_
  refine Wx.go ?_
  refine Wc.seq ?_
  refine Wc.drawsS [5] ((pt b1 29 [Value.int .u8 ((t.kind : Nat) : Int), Value.int .i64 t.n, Value.int .i64 t.a, Value.int .i64 t.b]) :: (pt m 52 [Value.pointer (some ⟨s, 0, none⟩), Value.int .i64 0]) :: (storeW s ts) :: []) (by kernel_rfl) ?_
  refine Wr.pure (v := Value.pointer (some ⟨m, 0, none⟩)) 0 rfl (by kernel_rfl) (.inr (fun _ h => st_take [0, 0, 0] h)) (.inl ⟨rfl, fun _ => q_move rfl⟩) ?_
  refine Wr.pure (v := Value.pointer (some ⟨m, 0, none⟩)) 1 rfl (by kernel_rfl) (.inr (fun _ h => st_take [0, 0, 0] h)) (.inl ⟨rfl, fun _ => q_nil_ptr rfl⟩) ?_
  refine Wr.pure (v := Value.pointer (some ⟨m, 0, none⟩)) 2 rfl (by kernel_rfl) (.inr (fun _ h => st_take [0, 0, 0] h)) (.inl ⟨rfl, fun _ => q_field (m := 0) fo_52_0 rfl rfl⟩) ?_
  refine Wr.take (v := Value.pointer (some ⟨s, 0, none⟩)) 3 rfl (by kernel_rfl) (fun _ h => st_take [0, 0, 0] h) (.inl ⟨rfl, q_load sc_23 rfl (.cel (i := 1) rfl rfl)⟩) ?_
  refine Wr.take (v := Value.agg #[Value.int .u8 ((t.kind : Nat) : Int), Value.int .i64 t.n, Value.int .i64 t.a, Value.int .i64 t.b]) 4 rfl (by kernel_rfl) (fun _ h => st_take [0, 0, 0] h) (.inl ⟨rfl, q_loadAgg (vs := [Value.int .u8 ((t.kind : Nat) : Int), Value.int .i64 t.n, Value.int .i64 t.a, Value.int .i64 t.b]) ag_29 rfl (Has.of_pt (i := 0) rfl rfl)⟩) ?_
  refine Wr.imp (L' := (storeW s ts) :: (pt b1 29 [Value.int .u8 ((t.kind : Nat) : Int), Value.int .i64 t.n, Value.int .i64 t.a, Value.int .i64 t.b]) :: (pt m 52 [Value.pointer (some ⟨s, 0, none⟩), Value.int .i64 0]) :: F) (fun _ h => st_pull [2] h) ?_
  refine Wr.e 5 (by kernel_rfl) rfl (e_call (F := (pt b1 29 [Value.int .u8 ((t.kind : Nat) : Int), Value.int .i64 t.n, Value.int .i64 t.a, Value.int .i64 t.b]) :: (pt m 52 [Value.pointer (some ⟨s, 0, none⟩), Value.int .i64 0]) :: F) (args := [Value.pointer (some ⟨s, 0, none⟩), Value.agg #[Value.int .u8 ((t.kind : Nat) : Int), Value.int .i64 t.n, Value.int .i64 t.a, Value.int .i64 t.b]]) Tryd.call12 rfl (make_w W0 s ts ts2 t n _ 0 ht h rfl)) (.inl (by kernel_rfl)) (fun _ _ => ?_)
  refine Wr.imp (L' := (storeW s ts2) :: (pt b1 29 [Value.int .u8 ((t.kind : Nat) : Int), Value.int .i64 t.n, Value.int .i64 t.a, Value.int .i64 t.b]) :: (pt m 52 [Value.pointer (some ⟨s, 0, none⟩), Value.int .i64 0]) :: F) (fun _ h => h) ?_
  refine Wr.rebaseS [] ((storeW s ts2) :: (pt b1 29 [Value.int .u8 ((t.kind : Nat) : Int), Value.int .i64 t.n, Value.int .i64 t.a, Value.int .i64 t.b]) :: (pt m 52 [Value.pointer (some ⟨s, 0, none⟩), Value.int .i64 0]) :: []) (by kernel_rfl) ?_
  refine Wr.pure (v := Value.tuple #[Value.int .i64 ((n : Nat) : Int), Value.int .i64 0]) 6 rfl (by kernel_rfl) (.inr (fun _ h => st_take [0, 0, 0] h)) (.inl ⟨rfl, fun _ => q_move rfl⟩) ?_
  refine Wr.pure (v := Value.int .i64 ((n : Nat) : Int)) 7 rfl (by kernel_rfl) (.inr (fun _ h => st_take [0, 0, 0] h)) (.inl ⟨rfl, fun _ => q_extract (i := 0) rfl rfl⟩) ?_
  refine Wr.pure (v := Value.int .i64 0) 8 rfl (by kernel_rfl) (.inr (fun _ h => st_take [0, 0, 0] h)) (.inl ⟨rfl, fun _ => q_extract (i := 1) rfl rfl⟩) ?_
  refine Wr.pure (v := Value.int .i64 ((n : Nat) : Int)) 9 rfl (by kernel_rfl) (.inr (fun _ h => st_take [0, 0, 0] h)) (.inl ⟨rfl, fun _ => q_assign rfl⟩) ?_
  refine Wr.pure (v := Value.int .i64 0) 10 rfl (by kernel_rfl) (.inr (fun _ h => st_take [0, 0, 0] h)) (.inl ⟨rfl, fun _ => q_assign rfl⟩) ?_
  refine Wr.done (by kernel_rfl) ?_
  refine Wx.go ?_
  refine Wc.seq ?_
  refine Wc.region ?_
  refine Wl.q (v := Value.pointer (some ⟨m, 0, none⟩)) (q_move rfl) ?_
  refine Wl.q (v := Value.int .i64 0) (q_move rfl) ?_
  refine Wl.q (v := Value.pointer (some ⟨m, 0, none⟩)) (q_nil_ptr rfl) ?_
  refine Wl.q (v := Value.pointer (some ⟨m, 1, none⟩)) (q_field (m := 1) fo_52_1 rfl rfl) ?_
  refine Wl.e (e_store (i := 2) (v := Value.int .i64 0) sz_34 rfl rfl (fun _ _ => rfl) rfl (by simp)) (fun _ _ => ?_)
  refine Wl.imp (L' := (storeW s ts2) :: (pt b1 29 [Value.int .u8 ((t.kind : Nat) : Int), Value.int .i64 t.n, Value.int .i64 t.a, Value.int .i64 t.b]) :: (pt m 52 [Value.pointer (some ⟨s, 0, none⟩), Value.int .i64 0]) :: F) (fun _ h => h) ?_
  refine Wl.done ?_
  refine Wx.go ?_
  refine Wc.seq ?_
  refine Wc.region ?_
  refine Wl.q (v := Value.int .i64 ((n : Nat) : Int)) (q_move rfl) ?_
  refine Wl.q (v := Value.int .i64 ((n : Nat) : Int)) (q_assign rfl) ?_
  refine Wl.done ?_
  refine Wx.go ?_
  refine Wc.ret ?_
  refine Wx.fin1 rfl (.inl rfl) (fun w hs => ?_)
  exact ⟨(), trivial, rfl, (st_pull [1, 0] (st_drop (st_pull [1] hs)))⟩

theorem mkdf_w (W0 : World) (m s : Nat) (ts : List TermR) (l a b : Int) (ts2 : List TermR) (n : Nat) (ht : okT ⟨4, l, a, b⟩) (h : mk ts ⟨4, l, a, b⟩ = (ts2, n, 0)) :
    Con Tryd.prog W0 16 #[Value.pointer (some ⟨m, 0, none⟩), Value.int .i64 l, Value.int .i64 a, Value.int .i64 b] [pt m 52 [Value.pointer (some ⟨s, 0, none⟩), Value.int .i64 0], storeW s ts] (X := Unit) (fun _ => True) (fun _ => .int .i64 ((n : Nat) : Int)) (fun _ => [pt m 52 [Value.pointer (some ⟨s, 0, none⟩), Value.int .i64 0], storeW s ts2]) := by
  refine Con.of (args := [Value.pointer (some ⟨m, 0, none⟩), Value.int .i64 l, Value.int .i64 a, Value.int .i64 b]) Tryd.func16 rfl Tryd.ntmps16 rfl (fun F => ?_)
  show Wc _ W0 _ _ _ _ _ ((pt m 52 [Value.pointer (some ⟨s, 0, none⟩), Value.int .i64 0]) :: (storeW s ts) :: F)
  refine Wc.seq ?_
  refine Wc.region ?_
  refine Wl.q (v := Value.int .i64 0) (q_assign rfl) ?_
  refine Wl.done ?_
  refine Wx.go ?_
  refine Wc.seq ?_
  refine Wc.region ?_
  refine Wl.q (v := Value.pointer (some ⟨m, 0, none⟩)) (q_move rfl) ?_
  refine Wl.q (v := Value.int .i64 l) (q_move rfl) ?_
  refine Wl.q (v := Value.int .i64 a) (q_move rfl) ?_
  refine Wl.q (v := Value.int .i64 b) (q_move rfl) ?_
  refine Wl.q (v := Value.agg #[Value.int .u8 4, Value.int .i64 l, Value.int .i64 a, Value.int .i64 b]) (q_build (pl := [(0, 1), (1, 1), (2, 1), (3, 1)]) Tryd.underlying29 zo_29 (by kernel_rfl) (by kernel_rfl)) ?_
  refine Wl.e (e_call (F := F) (args := [Value.pointer (some ⟨m, 0, none⟩), Value.agg #[Value.int .u8 4, Value.int .i64 l, Value.int .i64 a, Value.int .i64 b]]) Tryd.call17 rfl (mmake_w W0 m s ts (⟨4, l, a, b⟩ : TermR) ts2 n ht h)) (fun _ _ => ?_)
  refine Wl.imp (L' := (pt m 52 [Value.pointer (some ⟨s, 0, none⟩), Value.int .i64 0]) :: (storeW s ts2) :: F) (fun _ h => h) ?_
  refine Wl.q (v := Value.int .i64 ((n : Nat) : Int)) (q_assign rfl) ?_
  refine Wl.done ?_
  refine Wx.go ?_
  refine Wc.ret ?_
  refine Wx.fin1 rfl (.inl rfl) (fun w hs => ?_)
  exact ⟨(), trivial, rfl, hs⟩

set_option maxRecDepth 8000 in
theorem from_w (W0 : World) (s : Nat) (ts : List TermR) (j x : Int) (hj : 1 ≤ j ∧ j ≤ (ts.length : Int)) (hx : 1 ≤ x ∧ x ≤ (ts.length : Int)) (t1 t2 t3 t4 t5 : List TermR) (n1 n2 n3 n4 n5 : Nat) (k1 : okT ⟨4, 4, j, x⟩) (h1 : mk ts ⟨4, 4, j, x⟩ = (t1, n1, 0)) (k2 : okT ⟨4, 5, (n1 : Int), 0⟩) (h2 : mk t1 ⟨4, 5, (n1 : Int), 0⟩ = (t2, n2, 0)) (k3 : okT ⟨4, 6, (n1 : Int), 0⟩) (h3 : mk t2 ⟨4, 6, (n1 : Int), 0⟩ = (t3, n3, 0)) (k4 : okT ⟨4, 7, (n1 : Int), 0⟩) (h4 : mk t3 ⟨4, 7, (n1 : Int), 0⟩ = (t4, n4, 0)) (k5 : okT ⟨4, 8, (n1 : Int), 0⟩) (h5 : mk t4 ⟨4, 8, (n1 : Int), 0⟩ = (t5, n5, 0)) :
    Con Tryd.prog W0 18 #[Value.pointer (some ⟨s, 0, none⟩), Value.int .i64 j, Value.int .i64 x] [storeW s ts] (X := Unit) (fun _ => True) (fun _ => .tuple #[Value.agg #[Value.int .i64 j, Value.int .i64 ((n1 : Nat) : Int), Value.int .i64 ((n2 : Nat) : Int), Value.int .i64 ((n3 : Nat) : Int), Value.int .i64 ((n4 : Nat) : Int), Value.int .i64 ((n5 : Nat) : Int)], .int .i64 0]) (fun _ => [storeW s t5]) := by
  refine Con.of (args := [Value.pointer (some ⟨s, 0, none⟩), Value.int .i64 j, Value.int .i64 x]) Tryd.func18 rfl Tryd.ntmps18 rfl (fun F => ?_)
  show Wc _ W0 _ _ _ _ _ ((storeW s ts) :: F)
  refine Wc.seq ?_
  refine Wc.region ?_
  refine Wl.e (e_alloc (vs := [Value.int .i64 0, Value.int .i64 0, Value.int .i64 0, Value.int .i64 0, Value.int .i64 0, Value.int .i64 0]) zo_33 rfl) (fun b1 _ => ?_)
  refine Wl.imp (L' := (pt b1 33 [Value.int .i64 0, Value.int .i64 0, Value.int .i64 0, Value.int .i64 0, Value.int .i64 0, Value.int .i64 0]) :: (storeW s ts) :: F) (fun _ h => h) ?_
  refine Wl.q (v := Value.int .i64 0) (q_assign rfl) ?_
  refine Wl.done ?_
  refine Wx.go ?_
  refine Wc.seq ?_
  refine Wc.seq ?_
  refine Wc.region ?_
  refine Wl.q (v := Value.pointer (some ⟨s, 0, none⟩)) (q_move rfl) ?_
  refine Wl.imp (L' := (storeW s ts) :: (pt b1 33 [Value.int .i64 0, Value.int .i64 0, Value.int .i64 0, Value.int .i64 0, Value.int .i64 0, Value.int .i64 0]) :: F) (fun _ h => st_pull [1] h) ?_
  refine Wl.e (e_call (F := (pt b1 33 [Value.int .i64 0, Value.int .i64 0, Value.int .i64 0, Value.int .i64 0, Value.int .i64 0, Value.int .i64 0]) :: F) (args := [Value.pointer (some ⟨s, 0, none⟩)]) Tryd.call14 rfl (salive_w W0 s ts)) (fun _ _ => ?_)
  refine Wl.imp (L' := (storeW s ts) :: (pt b1 33 [Value.int .i64 0, Value.int .i64 0, Value.int .i64 0, Value.int .i64 0, Value.int .i64 0, Value.int .i64 0]) :: F) (fun _ h => h) ?_
  refine Wl.q (v := Value.bool false) (q_not rfl rfl) ?_
  refine Wl.done ?_
  refine Wx.go ?_
  refine Wc.no rfl ?_
  refine Wc.skip ?_
  refine Wx.go ?_
  refine Wc.seq ?_
  refine Wc.seq ?_
  refine Wc.region ?_
  refine Wl.q (v := Value.pointer (some ⟨s, 0, none⟩)) (q_move rfl) ?_
  refine Wl.q (v := Value.int .i64 j) (q_move rfl) ?_
  refine Wl.e (e_call (F := (pt b1 33 [Value.int .i64 0, Value.int .i64 0, Value.int .i64 0, Value.int .i64 0, Value.int .i64 0, Value.int .i64 0]) :: F) (args := [Value.pointer (some ⟨s, 0, none⟩), Value.int .i64 j]) Tryd.call15 rfl (sthere_w W0 s ts j hj)) (fun _ _ => ?_)
  refine Wl.imp (L' := (storeW s ts) :: (pt b1 33 [Value.int .i64 0, Value.int .i64 0, Value.int .i64 0, Value.int .i64 0, Value.int .i64 0, Value.int .i64 0]) :: F) (fun _ h => h) ?_
  refine Wl.q (v := Value.bool false) (q_not rfl rfl) ?_
  refine Wl.q (v := Value.bool false) (q_move rfl) ?_
  refine Wl.q (v := Value.pointer (some ⟨s, 0, none⟩)) (q_move rfl) ?_
  refine Wl.q (v := Value.int .i64 x) (q_move rfl) ?_
  refine Wl.e (e_call (F := (pt b1 33 [Value.int .i64 0, Value.int .i64 0, Value.int .i64 0, Value.int .i64 0, Value.int .i64 0, Value.int .i64 0]) :: F) (args := [Value.pointer (some ⟨s, 0, none⟩), Value.int .i64 x]) Tryd.call15 rfl (sthere_w W0 s ts x hx)) (fun _ _ => ?_)
  refine Wl.imp (L' := (storeW s ts) :: (pt b1 33 [Value.int .i64 0, Value.int .i64 0, Value.int .i64 0, Value.int .i64 0, Value.int .i64 0, Value.int .i64 0]) :: F) (fun _ h => h) ?_
  refine Wl.q (v := Value.bool false) (q_not rfl rfl) ?_
  refine Wl.q (v := Value.bool false) (q_pick (t := false) rfl rfl) ?_
  refine Wl.done ?_
  refine Wx.go ?_
  refine Wc.no rfl ?_
  refine Wc.skip ?_
  refine Wx.go ?_
  refine Wc.seq ?_
  refine Wc.region ?_
  refine Wl.q (v := Value.pointer (some ⟨s, 0, none⟩)) (q_move rfl) ?_
  refine Wl.q (v := Value.agg #[Value.pointer (some ⟨s, 0, none⟩), Value.int .i64 0]) (q_build (pl := [(0, 1), (1, 1)]) Tryd.underlying52 zo_52 (by kernel_rfl) (by kernel_rfl)) ?_
  refine Wl.e (e_box (x := .tmp 29) (vs := [Value.pointer (some ⟨s, 0, none⟩), Value.int .i64 0]) rfl) (fun m _ => ?_)
  refine Wl.imp (L' := (pt m 52 [Value.pointer (some ⟨s, 0, none⟩), Value.int .i64 0]) :: (storeW s ts) :: (pt b1 33 [Value.int .i64 0, Value.int .i64 0, Value.int .i64 0, Value.int .i64 0, Value.int .i64 0, Value.int .i64 0]) :: F) (fun _ h => h) ?_
  refine Wl.q (v := Value.pointer (some ⟨m, 0, none⟩)) (q_assign rfl) ?_
  refine Wl.done ?_
  refine Wx.go ?_
  refine Wc.seq ?_
  refine Wc.region ?_
  refine Wl.q (v := Value.pointer (some ⟨m, 0, none⟩)) (q_move rfl) ?_
  refine Wl.q (v := Value.int .i64 j) (q_move rfl) ?_
  refine Wl.q (v := Value.int .i64 x) (q_move rfl) ?_
  refine Wl.e (e_call (F := (pt b1 33 [Value.int .i64 0, Value.int .i64 0, Value.int .i64 0, Value.int .i64 0, Value.int .i64 0, Value.int .i64 0]) :: F) (args := [Value.pointer (some ⟨m, 0, none⟩), Value.int .i64 4, Value.int .i64 j, Value.int .i64 x]) Tryd.call16 rfl (mkdf_w W0 m s ts 4 j x t1 n1 k1 h1)) (fun _ _ => ?_)
  refine Wl.imp (L' := (pt m 52 [Value.pointer (some ⟨s, 0, none⟩), Value.int .i64 0]) :: (storeW s t1) :: (pt b1 33 [Value.int .i64 0, Value.int .i64 0, Value.int .i64 0, Value.int .i64 0, Value.int .i64 0, Value.int .i64 0]) :: F) (fun _ h => h) ?_
  refine Wl.q (v := Value.int .i64 ((n1 : Nat) : Int)) (q_assign rfl) ?_
  refine Wl.done ?_
  refine Wx.go ?_
  refine Wc.seq ?_
  refine Wc.region ?_
  refine Wl.q (v := Value.int .i64 j) (q_move rfl) ?_
  refine Wl.q (v := Value.int .i64 ((n1 : Nat) : Int)) (q_move rfl) ?_
  refine Wl.q (v := Value.agg #[Value.int .i64 j, Value.int .i64 ((n1 : Nat) : Int), Value.int .i64 0, Value.int .i64 0, Value.int .i64 0, Value.int .i64 0]) (q_build (pl := [(0, 1), (1, 1), (2, 1), (3, 1), (4, 1), (5, 1)]) Tryd.underlying33 zo_33 (by kernel_rfl) (by kernel_rfl)) ?_
  refine Wl.e (e_alloc (vs := [Value.int .i64 0, Value.int .i64 0, Value.int .i64 0, Value.int .i64 0, Value.int .i64 0, Value.int .i64 0]) zo_33 rfl) (fun b2 _ => ?_)
  refine Wl.imp (L' := (pt b2 33 [Value.int .i64 0, Value.int .i64 0, Value.int .i64 0, Value.int .i64 0, Value.int .i64 0, Value.int .i64 0]) :: (pt m 52 [Value.pointer (some ⟨s, 0, none⟩), Value.int .i64 0]) :: (storeW s t1) :: (pt b1 33 [Value.int .i64 0, Value.int .i64 0, Value.int .i64 0, Value.int .i64 0, Value.int .i64 0, Value.int .i64 0]) :: F) (fun _ h => h) ?_
  refine Wl.e (e_storeAgg (i := 0) (vs := [Value.int .i64 j, Value.int .i64 ((n1 : Nat) : Int), Value.int .i64 0, Value.int .i64 0, Value.int .i64 0, Value.int .i64 0]) (c' := [Value.int .i64 j, Value.int .i64 ((n1 : Nat) : Int), Value.int .i64 0, Value.int .i64 0, Value.int .i64 0, Value.int .i64 0]) sz_33 rfl rfl rfl rfl (by simp) rfl) (fun _ _ => ?_)
  refine Wl.imp (L' := (pt b2 33 [Value.int .i64 j, Value.int .i64 ((n1 : Nat) : Int), Value.int .i64 0, Value.int .i64 0, Value.int .i64 0, Value.int .i64 0]) :: (pt m 52 [Value.pointer (some ⟨s, 0, none⟩), Value.int .i64 0]) :: (storeW s t1) :: (pt b1 33 [Value.int .i64 0, Value.int .i64 0, Value.int .i64 0, Value.int .i64 0, Value.int .i64 0, Value.int .i64 0]) :: F) (fun _ h => h) ?_
  refine Wl.done ?_
  refine Wx.go ?_
  refine Wc.seq ?_
  refine Wc.seq ?_
  refine Wc.region ?_
  refine Wl.q (v := Value.pointer (some ⟨b2, 2, none⟩)) (q_field (m := 2) fo_33_2 rfl rfl) ?_
  refine Wl.q (v := Value.agg #[Value.int .i64 5, Value.pointer (some ⟨b2, 2, none⟩)]) (q_build (pl := [(0, 1), (1, 1)]) Tryd.underlying81 zo_81 (by kernel_rfl) (by kernel_rfl)) ?_
  refine Wl.q (v := Value.pointer (some ⟨b2, 3, none⟩)) (q_field (m := 3) fo_33_3 rfl rfl) ?_
  refine Wl.q (v := Value.agg #[Value.int .i64 6, Value.pointer (some ⟨b2, 3, none⟩)]) (q_build (pl := [(0, 1), (1, 1)]) Tryd.underlying81 zo_81 (by kernel_rfl) (by kernel_rfl)) ?_
  refine Wl.q (v := Value.pointer (some ⟨b2, 4, none⟩)) (q_field (m := 4) fo_33_4 rfl rfl) ?_
  refine Wl.q (v := Value.agg #[Value.int .i64 7, Value.pointer (some ⟨b2, 4, none⟩)]) (q_build (pl := [(0, 1), (1, 1)]) Tryd.underlying81 zo_81 (by kernel_rfl) (by kernel_rfl)) ?_
  refine Wl.q (v := Value.pointer (some ⟨b2, 5, none⟩)) (q_field (m := 5) fo_33_5 rfl rfl) ?_
  refine Wl.q (v := Value.agg #[Value.int .i64 8, Value.pointer (some ⟨b2, 5, none⟩)]) (q_build (pl := [(0, 1), (1, 1)]) Tryd.underlying81 zo_81 (by kernel_rfl) (by kernel_rfl)) ?_
  refine Wl.e (e_buildSlice (cs := [Value.int .i64 5, Value.pointer (some ⟨b2, 2, none⟩), Value.int .i64 6, Value.pointer (some ⟨b2, 3, none⟩), Value.int .i64 7, Value.pointer (some ⟨b2, 4, none⟩), Value.int .i64 8, Value.pointer (some ⟨b2, 5, none⟩)]) se_82 zo_81 (by decide) (by decide) (by kernel_rfl)) (fun b3 _ => ?_)
  refine Wl.imp (L' := (pt b3 81 [Value.int .i64 5, Value.pointer (some ⟨b2, 2, none⟩), Value.int .i64 6, Value.pointer (some ⟨b2, 3, none⟩), Value.int .i64 7, Value.pointer (some ⟨b2, 4, none⟩), Value.int .i64 8, Value.pointer (some ⟨b2, 5, none⟩)]) :: (pt b2 33 [Value.int .i64 j, Value.int .i64 ((n1 : Nat) : Int), Value.int .i64 0, Value.int .i64 0, Value.int .i64 0, Value.int .i64 0]) :: (pt m 52 [Value.pointer (some ⟨s, 0, none⟩), Value.int .i64 0]) :: (storeW s t1) :: (pt b1 33 [Value.int .i64 0, Value.int .i64 0, Value.int .i64 0, Value.int .i64 0, Value.int .i64 0, Value.int .i64 0]) :: F) (fun _ h => h) ?_
  refine Wl.q (v := Value.int .i64 4) (q_len_slice Tryd.underlying82 rfl) ?_
  refine Wl.q (v := Value.int .i64 0) (q_move rfl) ?_
  refine Wl.done ?_
  refine Wx.go ?_
  refine Wc.block ?_
  refine Wc.rounds 5 ?_
  refine Wn.round ?_
  refine Wc.seq ?_
  refine Wc.region ?_
  refine Wl.q (v := Value.bool true) (q_lss (r := true) rfl rfl (decide_eq_true (by decide))) ?_
  refine Wl.done ?_
  refine Wx.go ?_
  refine Wc.seq ?_
  refine Wc.yes rfl ?_
  refine Wc.skip ?_
  refine Wx.go ?_
  refine Wc.seq ?_
  refine Wc.block ?_
  refine Wc.seq ?_
  refine Wc.region ?_
  refine Wl.q (v := Value.pointer (some ⟨b3, 0, none⟩)) (q_idx (m := 0) se_82 rfl rfl (by omega) (by omega) rfl) ?_
  refine Wl.q (v := Value.agg #[Value.int .i64 5, Value.pointer (some ⟨b2, 2, none⟩)]) (q_loadAgg (vs := [Value.int .i64 5, Value.pointer (some ⟨b2, 2, none⟩)]) ag_81 rfl (Has.of_pt (i := 0) rfl rfl)) ?_
  refine Wl.e (e_alloc (vs := [Value.int .i64 0, Value.pointer none]) zo_81 rfl) (fun b4 _ => ?_)
  refine Wl.imp (L' := (pt b4 81 [Value.int .i64 0, Value.pointer none]) :: (pt b3 81 [Value.int .i64 5, Value.pointer (some ⟨b2, 2, none⟩), Value.int .i64 6, Value.pointer (some ⟨b2, 3, none⟩), Value.int .i64 7, Value.pointer (some ⟨b2, 4, none⟩), Value.int .i64 8, Value.pointer (some ⟨b2, 5, none⟩)]) :: (pt b2 33 [Value.int .i64 j, Value.int .i64 ((n1 : Nat) : Int), Value.int .i64 0, Value.int .i64 0, Value.int .i64 0, Value.int .i64 0]) :: (pt m 52 [Value.pointer (some ⟨s, 0, none⟩), Value.int .i64 0]) :: (storeW s t1) :: (pt b1 33 [Value.int .i64 0, Value.int .i64 0, Value.int .i64 0, Value.int .i64 0, Value.int .i64 0, Value.int .i64 0]) :: F) (fun _ h => h) ?_
  refine Wl.e (e_storeAgg (i := 0) (vs := [Value.int .i64 5, Value.pointer (some ⟨b2, 2, none⟩)]) (c' := [Value.int .i64 5, Value.pointer (some ⟨b2, 2, none⟩)]) sz_81 rfl rfl rfl rfl (by simp) rfl) (fun _ _ => ?_)
  refine Wl.imp (L' := (pt b4 81 [Value.int .i64 5, Value.pointer (some ⟨b2, 2, none⟩)]) :: (pt b3 81 [Value.int .i64 5, Value.pointer (some ⟨b2, 2, none⟩), Value.int .i64 6, Value.pointer (some ⟨b2, 3, none⟩), Value.int .i64 7, Value.pointer (some ⟨b2, 4, none⟩), Value.int .i64 8, Value.pointer (some ⟨b2, 5, none⟩)]) :: (pt b2 33 [Value.int .i64 j, Value.int .i64 ((n1 : Nat) : Int), Value.int .i64 0, Value.int .i64 0, Value.int .i64 0, Value.int .i64 0]) :: (pt m 52 [Value.pointer (some ⟨s, 0, none⟩), Value.int .i64 0]) :: (storeW s t1) :: (pt b1 33 [Value.int .i64 0, Value.int .i64 0, Value.int .i64 0, Value.int .i64 0, Value.int .i64 0, Value.int .i64 0]) :: F) (fun _ h => h) ?_
  refine Wl.done ?_
  refine Wx.go ?_
  refine Wc.drawsS [8] ((pt b4 81 [Value.int .i64 5, Value.pointer (some ⟨b2, 2, none⟩)]) :: (pt b3 81 [Value.int .i64 5, Value.pointer (some ⟨b2, 2, none⟩), Value.int .i64 6, Value.pointer (some ⟨b2, 3, none⟩), Value.int .i64 7, Value.pointer (some ⟨b2, 4, none⟩), Value.int .i64 8, Value.pointer (some ⟨b2, 5, none⟩)]) :: (pt b2 33 [Value.int .i64 j, Value.int .i64 ((n1 : Nat) : Int), Value.int .i64 0, Value.int .i64 0, Value.int .i64 0, Value.int .i64 0]) :: (pt b1 33 [Value.int .i64 0, Value.int .i64 0, Value.int .i64 0, Value.int .i64 0, Value.int .i64 0, Value.int .i64 0]) :: []) (by kernel_rfl) ?_
  refine Wr.pure (v := Value.pointer (some ⟨b4, 1, none⟩)) 0 rfl (by kernel_rfl) (.inr (fun _ h => st_take [0, 0, 0, 2] h)) (.inl ⟨rfl, fun _ => q_field (m := 1) fo_81_1 rfl rfl⟩) ?_
  refine Wr.take (v := Value.pointer (some ⟨b2, 2, none⟩)) 1 rfl (by kernel_rfl) (fun _ h => st_take [0, 0, 0, 2] h) (.inl ⟨rfl, q_load sc_80 rfl (.cel (i := 0) rfl rfl)⟩) ?_
  refine Wr.pure (v := Value.pointer (some ⟨m, 0, none⟩)) 2 rfl (by kernel_rfl) (.inr (fun _ h => st_take [0, 0, 0, 2] h)) (.inl ⟨rfl, fun _ => q_move rfl⟩) ?_
  refine Wr.pure (v := Value.pointer (some ⟨b4, 0, none⟩)) 3 rfl (by kernel_rfl) (.inr (fun _ h => st_take [0, 0, 0, 2] h)) (.inl ⟨rfl, fun _ => q_field (m := 0) fo_81_0 rfl rfl⟩) ?_
  refine Wr.take (v := Value.int .i64 5) 4 rfl (by kernel_rfl) (fun _ h => st_take [0, 0, 0, 2] h) (.inl ⟨rfl, q_load sc_2 rfl (.cel (i := 0) rfl rfl)⟩) ?_
  refine Wr.pure (v := Value.int .i64 ((n1 : Nat) : Int)) 5 rfl (by kernel_rfl) (.inr (fun _ h => st_take [0, 0, 0, 2] h)) (.inl ⟨rfl, fun _ => q_move rfl⟩) ?_
  refine Wr.imp (L' := (pt m 52 [Value.pointer (some ⟨s, 0, none⟩), Value.int .i64 0]) :: (storeW s t1) :: (pt b4 81 [Value.int .i64 5, Value.pointer (some ⟨b2, 2, none⟩)]) :: (pt b3 81 [Value.int .i64 5, Value.pointer (some ⟨b2, 2, none⟩), Value.int .i64 6, Value.pointer (some ⟨b2, 3, none⟩), Value.int .i64 7, Value.pointer (some ⟨b2, 4, none⟩), Value.int .i64 8, Value.pointer (some ⟨b2, 5, none⟩)]) :: (pt b2 33 [Value.int .i64 j, Value.int .i64 ((n1 : Nat) : Int), Value.int .i64 0, Value.int .i64 0, Value.int .i64 0, Value.int .i64 0]) :: (pt b1 33 [Value.int .i64 0, Value.int .i64 0, Value.int .i64 0, Value.int .i64 0, Value.int .i64 0, Value.int .i64 0]) :: F) (fun _ h => st_pull [3, 3] h) ?_
  refine Wr.e 6 (by kernel_rfl) rfl (e_call (F := (pt b4 81 [Value.int .i64 5, Value.pointer (some ⟨b2, 2, none⟩)]) :: (pt b3 81 [Value.int .i64 5, Value.pointer (some ⟨b2, 2, none⟩), Value.int .i64 6, Value.pointer (some ⟨b2, 3, none⟩), Value.int .i64 7, Value.pointer (some ⟨b2, 4, none⟩), Value.int .i64 8, Value.pointer (some ⟨b2, 5, none⟩)]) :: (pt b2 33 [Value.int .i64 j, Value.int .i64 ((n1 : Nat) : Int), Value.int .i64 0, Value.int .i64 0, Value.int .i64 0, Value.int .i64 0]) :: (pt b1 33 [Value.int .i64 0, Value.int .i64 0, Value.int .i64 0, Value.int .i64 0, Value.int .i64 0, Value.int .i64 0]) :: F) (args := [Value.pointer (some ⟨m, 0, none⟩), Value.int .i64 5, Value.int .i64 ((n1 : Nat) : Int), Value.int .i64 0]) Tryd.call16 rfl (mkdf_w W0 m s t1 5 ((n1 : Nat) : Int) 0 t2 n2 k2 h2)) (.inr fun _ _ _ h => st_take [2, 2, 2, 2] h) (fun _ _ => ?_)
  refine Wr.imp (L' := (pt m 52 [Value.pointer (some ⟨s, 0, none⟩), Value.int .i64 0]) :: (storeW s t2) :: (pt b4 81 [Value.int .i64 5, Value.pointer (some ⟨b2, 2, none⟩)]) :: (pt b3 81 [Value.int .i64 5, Value.pointer (some ⟨b2, 2, none⟩), Value.int .i64 6, Value.pointer (some ⟨b2, 3, none⟩), Value.int .i64 7, Value.pointer (some ⟨b2, 4, none⟩), Value.int .i64 8, Value.pointer (some ⟨b2, 5, none⟩)]) :: (pt b2 33 [Value.int .i64 j, Value.int .i64 ((n1 : Nat) : Int), Value.int .i64 0, Value.int .i64 0, Value.int .i64 0, Value.int .i64 0]) :: (pt b1 33 [Value.int .i64 0, Value.int .i64 0, Value.int .i64 0, Value.int .i64 0, Value.int .i64 0, Value.int .i64 0]) :: F) (fun _ h => h) ?_
  refine Wr.pure (v := Value.pointer (some ⟨b2, 2, none⟩)) 7 rfl (by kernel_rfl) (.inr (fun _ h => st_take [2, 2, 2, 2] h)) (.inl ⟨rfl, fun _ => q_nil_ptr rfl⟩) ?_
  refine Wr.e 8 (by kernel_rfl) rfl (e_store (i := 4) (v := Value.int .i64 ((n2 : Nat) : Int)) sz_3 rfl rfl (fun _ _ => rfl) rfl (by simp)) (.inl (by kernel_rfl)) (fun _ _ => ?_)
  refine Wr.imp (L' := (pt m 52 [Value.pointer (some ⟨s, 0, none⟩), Value.int .i64 0]) :: (storeW s t2) :: (pt b4 81 [Value.int .i64 5, Value.pointer (some ⟨b2, 2, none⟩)]) :: (pt b3 81 [Value.int .i64 5, Value.pointer (some ⟨b2, 2, none⟩), Value.int .i64 6, Value.pointer (some ⟨b2, 3, none⟩), Value.int .i64 7, Value.pointer (some ⟨b2, 4, none⟩), Value.int .i64 8, Value.pointer (some ⟨b2, 5, none⟩)]) :: (pt b2 33 [Value.int .i64 j, Value.int .i64 ((n1 : Nat) : Int), Value.int .i64 ((n2 : Nat) : Int), Value.int .i64 0, Value.int .i64 0, Value.int .i64 0]) :: (pt b1 33 [Value.int .i64 0, Value.int .i64 0, Value.int .i64 0, Value.int .i64 0, Value.int .i64 0, Value.int .i64 0]) :: F) (fun _ h => h) ?_
  refine Wr.rebaseS [] ((pt m 52 [Value.pointer (some ⟨s, 0, none⟩), Value.int .i64 0]) :: (storeW s t2) :: (pt b4 81 [Value.int .i64 5, Value.pointer (some ⟨b2, 2, none⟩)]) :: (pt b3 81 [Value.int .i64 5, Value.pointer (some ⟨b2, 2, none⟩), Value.int .i64 6, Value.pointer (some ⟨b2, 3, none⟩), Value.int .i64 7, Value.pointer (some ⟨b2, 4, none⟩), Value.int .i64 8, Value.pointer (some ⟨b2, 5, none⟩)]) :: (pt b2 33 [Value.int .i64 j, Value.int .i64 ((n1 : Nat) : Int), Value.int .i64 ((n2 : Nat) : Int), Value.int .i64 0, Value.int .i64 0, Value.int .i64 0]) :: (pt b1 33 [Value.int .i64 0, Value.int .i64 0, Value.int .i64 0, Value.int .i64 0, Value.int .i64 0, Value.int .i64 0]) :: []) (by kernel_rfl) ?_
  refine Wr.done (by kernel_rfl) ?_
  refine Wx.blockEnd ?_
  refine Wx.go ?_
  refine Wc.region ?_
  refine Wl.q (v := Value.int .i64 1) (q_add (c := 1) rfl rfl (by decide)) ?_
  refine Wl.q (v := Value.int .i64 1) (q_move rfl) ?_
  refine Wl.done ?_
  refine Wx.again ?_
  refine Wn.round ?_
  refine Wc.seq ?_
  refine Wc.region ?_
  refine Wl.q (v := Value.bool true) (q_lss (r := true) rfl rfl (decide_eq_true (by decide))) ?_
  refine Wl.done ?_
  refine Wx.go ?_
  refine Wc.seq ?_
  refine Wc.yes rfl ?_
  refine Wc.skip ?_
  refine Wx.go ?_
  refine Wc.seq ?_
  refine Wc.block ?_
  refine Wc.seq ?_
  refine Wc.region ?_
  refine Wl.q (v := Value.pointer (some ⟨b3, 2, none⟩)) (q_idx (m := 2) se_82 rfl rfl (by omega) (by omega) rfl) ?_
  refine Wl.q (v := Value.agg #[Value.int .i64 6, Value.pointer (some ⟨b2, 3, none⟩)]) (q_loadAgg (vs := [Value.int .i64 6, Value.pointer (some ⟨b2, 3, none⟩)]) ag_81 rfl (Has.of_pt (i := 3) rfl rfl)) ?_
  refine Wl.e (e_alloc (vs := [Value.int .i64 0, Value.pointer none]) zo_81 rfl) (fun b5 _ => ?_)
  refine Wl.imp (L' := (pt b5 81 [Value.int .i64 0, Value.pointer none]) :: (pt m 52 [Value.pointer (some ⟨s, 0, none⟩), Value.int .i64 0]) :: (storeW s t2) :: (pt b4 81 [Value.int .i64 5, Value.pointer (some ⟨b2, 2, none⟩)]) :: (pt b3 81 [Value.int .i64 5, Value.pointer (some ⟨b2, 2, none⟩), Value.int .i64 6, Value.pointer (some ⟨b2, 3, none⟩), Value.int .i64 7, Value.pointer (some ⟨b2, 4, none⟩), Value.int .i64 8, Value.pointer (some ⟨b2, 5, none⟩)]) :: (pt b2 33 [Value.int .i64 j, Value.int .i64 ((n1 : Nat) : Int), Value.int .i64 ((n2 : Nat) : Int), Value.int .i64 0, Value.int .i64 0, Value.int .i64 0]) :: (pt b1 33 [Value.int .i64 0, Value.int .i64 0, Value.int .i64 0, Value.int .i64 0, Value.int .i64 0, Value.int .i64 0]) :: F) (fun _ h => h) ?_
  refine Wl.e (e_storeAgg (i := 0) (vs := [Value.int .i64 6, Value.pointer (some ⟨b2, 3, none⟩)]) (c' := [Value.int .i64 6, Value.pointer (some ⟨b2, 3, none⟩)]) sz_81 rfl rfl rfl rfl (by simp) rfl) (fun _ _ => ?_)
  refine Wl.imp (L' := (pt b5 81 [Value.int .i64 6, Value.pointer (some ⟨b2, 3, none⟩)]) :: (pt m 52 [Value.pointer (some ⟨s, 0, none⟩), Value.int .i64 0]) :: (storeW s t2) :: (pt b4 81 [Value.int .i64 5, Value.pointer (some ⟨b2, 2, none⟩)]) :: (pt b3 81 [Value.int .i64 5, Value.pointer (some ⟨b2, 2, none⟩), Value.int .i64 6, Value.pointer (some ⟨b2, 3, none⟩), Value.int .i64 7, Value.pointer (some ⟨b2, 4, none⟩), Value.int .i64 8, Value.pointer (some ⟨b2, 5, none⟩)]) :: (pt b2 33 [Value.int .i64 j, Value.int .i64 ((n1 : Nat) : Int), Value.int .i64 ((n2 : Nat) : Int), Value.int .i64 0, Value.int .i64 0, Value.int .i64 0]) :: (pt b1 33 [Value.int .i64 0, Value.int .i64 0, Value.int .i64 0, Value.int .i64 0, Value.int .i64 0, Value.int .i64 0]) :: F) (fun _ h => h) ?_
  refine Wl.done ?_
  refine Wx.go ?_
  refine Wc.drawsS [8] ((pt b5 81 [Value.int .i64 6, Value.pointer (some ⟨b2, 3, none⟩)]) :: (pt b4 81 [Value.int .i64 5, Value.pointer (some ⟨b2, 2, none⟩)]) :: (pt b3 81 [Value.int .i64 5, Value.pointer (some ⟨b2, 2, none⟩), Value.int .i64 6, Value.pointer (some ⟨b2, 3, none⟩), Value.int .i64 7, Value.pointer (some ⟨b2, 4, none⟩), Value.int .i64 8, Value.pointer (some ⟨b2, 5, none⟩)]) :: (pt b2 33 [Value.int .i64 j, Value.int .i64 ((n1 : Nat) : Int), Value.int .i64 ((n2 : Nat) : Int), Value.int .i64 0, Value.int .i64 0, Value.int .i64 0]) :: (pt b1 33 [Value.int .i64 0, Value.int .i64 0, Value.int .i64 0, Value.int .i64 0, Value.int .i64 0, Value.int .i64 0]) :: []) (by kernel_rfl) ?_
  refine Wr.pure (v := Value.pointer (some ⟨b5, 1, none⟩)) 0 rfl (by kernel_rfl) (.inr (fun _ h => st_take [0, 2, 2, 2, 2] h)) (.inl ⟨rfl, fun _ => q_field (m := 1) fo_81_1 rfl rfl⟩) ?_
  refine Wr.take (v := Value.pointer (some ⟨b2, 3, none⟩)) 1 rfl (by kernel_rfl) (fun _ h => st_take [0, 2, 2, 2, 2] h) (.inl ⟨rfl, q_load sc_80 rfl (.cel (i := 0) rfl rfl)⟩) ?_
  refine Wr.pure (v := Value.pointer (some ⟨m, 0, none⟩)) 2 rfl (by kernel_rfl) (.inr (fun _ h => st_take [0, 2, 2, 2, 2] h)) (.inl ⟨rfl, fun _ => q_move rfl⟩) ?_
  refine Wr.pure (v := Value.pointer (some ⟨b5, 0, none⟩)) 3 rfl (by kernel_rfl) (.inr (fun _ h => st_take [0, 2, 2, 2, 2] h)) (.inl ⟨rfl, fun _ => q_field (m := 0) fo_81_0 rfl rfl⟩) ?_
  refine Wr.take (v := Value.int .i64 6) 4 rfl (by kernel_rfl) (fun _ h => st_take [0, 2, 2, 2, 2] h) (.inl ⟨rfl, q_load sc_2 rfl (.cel (i := 0) rfl rfl)⟩) ?_
  refine Wr.pure (v := Value.int .i64 ((n1 : Nat) : Int)) 5 rfl (by kernel_rfl) (.inr (fun _ h => st_take [0, 2, 2, 2, 2] h)) (.inl ⟨rfl, fun _ => q_move rfl⟩) ?_
  refine Wr.imp (L' := (pt m 52 [Value.pointer (some ⟨s, 0, none⟩), Value.int .i64 0]) :: (storeW s t2) :: (pt b5 81 [Value.int .i64 6, Value.pointer (some ⟨b2, 3, none⟩)]) :: (pt b4 81 [Value.int .i64 5, Value.pointer (some ⟨b2, 2, none⟩)]) :: (pt b3 81 [Value.int .i64 5, Value.pointer (some ⟨b2, 2, none⟩), Value.int .i64 6, Value.pointer (some ⟨b2, 3, none⟩), Value.int .i64 7, Value.pointer (some ⟨b2, 4, none⟩), Value.int .i64 8, Value.pointer (some ⟨b2, 5, none⟩)]) :: (pt b2 33 [Value.int .i64 j, Value.int .i64 ((n1 : Nat) : Int), Value.int .i64 ((n2 : Nat) : Int), Value.int .i64 0, Value.int .i64 0, Value.int .i64 0]) :: (pt b1 33 [Value.int .i64 0, Value.int .i64 0, Value.int .i64 0, Value.int .i64 0, Value.int .i64 0, Value.int .i64 0]) :: F) (fun _ h => st_pull [1, 1] h) ?_
  refine Wr.e 6 (by kernel_rfl) rfl (e_call (F := (pt b5 81 [Value.int .i64 6, Value.pointer (some ⟨b2, 3, none⟩)]) :: (pt b4 81 [Value.int .i64 5, Value.pointer (some ⟨b2, 2, none⟩)]) :: (pt b3 81 [Value.int .i64 5, Value.pointer (some ⟨b2, 2, none⟩), Value.int .i64 6, Value.pointer (some ⟨b2, 3, none⟩), Value.int .i64 7, Value.pointer (some ⟨b2, 4, none⟩), Value.int .i64 8, Value.pointer (some ⟨b2, 5, none⟩)]) :: (pt b2 33 [Value.int .i64 j, Value.int .i64 ((n1 : Nat) : Int), Value.int .i64 ((n2 : Nat) : Int), Value.int .i64 0, Value.int .i64 0, Value.int .i64 0]) :: (pt b1 33 [Value.int .i64 0, Value.int .i64 0, Value.int .i64 0, Value.int .i64 0, Value.int .i64 0, Value.int .i64 0]) :: F) (args := [Value.pointer (some ⟨m, 0, none⟩), Value.int .i64 6, Value.int .i64 ((n1 : Nat) : Int), Value.int .i64 0]) Tryd.call16 rfl (mkdf_w W0 m s t2 6 ((n1 : Nat) : Int) 0 t3 n3 k3 h3)) (.inr fun _ _ _ h => st_take [2, 2, 2, 2, 2] h) (fun _ _ => ?_)
  refine Wr.imp (L' := (pt m 52 [Value.pointer (some ⟨s, 0, none⟩), Value.int .i64 0]) :: (storeW s t3) :: (pt b5 81 [Value.int .i64 6, Value.pointer (some ⟨b2, 3, none⟩)]) :: (pt b4 81 [Value.int .i64 5, Value.pointer (some ⟨b2, 2, none⟩)]) :: (pt b3 81 [Value.int .i64 5, Value.pointer (some ⟨b2, 2, none⟩), Value.int .i64 6, Value.pointer (some ⟨b2, 3, none⟩), Value.int .i64 7, Value.pointer (some ⟨b2, 4, none⟩), Value.int .i64 8, Value.pointer (some ⟨b2, 5, none⟩)]) :: (pt b2 33 [Value.int .i64 j, Value.int .i64 ((n1 : Nat) : Int), Value.int .i64 ((n2 : Nat) : Int), Value.int .i64 0, Value.int .i64 0, Value.int .i64 0]) :: (pt b1 33 [Value.int .i64 0, Value.int .i64 0, Value.int .i64 0, Value.int .i64 0, Value.int .i64 0, Value.int .i64 0]) :: F) (fun _ h => h) ?_
  refine Wr.pure (v := Value.pointer (some ⟨b2, 3, none⟩)) 7 rfl (by kernel_rfl) (.inr (fun _ h => st_take [2, 2, 2, 2, 2] h)) (.inl ⟨rfl, fun _ => q_nil_ptr rfl⟩) ?_
  refine Wr.e 8 (by kernel_rfl) rfl (e_store (i := 5) (v := Value.int .i64 ((n3 : Nat) : Int)) sz_3 rfl rfl (fun _ _ => rfl) rfl (by simp)) (.inl (by kernel_rfl)) (fun _ _ => ?_)
  refine Wr.imp (L' := (pt m 52 [Value.pointer (some ⟨s, 0, none⟩), Value.int .i64 0]) :: (storeW s t3) :: (pt b5 81 [Value.int .i64 6, Value.pointer (some ⟨b2, 3, none⟩)]) :: (pt b4 81 [Value.int .i64 5, Value.pointer (some ⟨b2, 2, none⟩)]) :: (pt b3 81 [Value.int .i64 5, Value.pointer (some ⟨b2, 2, none⟩), Value.int .i64 6, Value.pointer (some ⟨b2, 3, none⟩), Value.int .i64 7, Value.pointer (some ⟨b2, 4, none⟩), Value.int .i64 8, Value.pointer (some ⟨b2, 5, none⟩)]) :: (pt b2 33 [Value.int .i64 j, Value.int .i64 ((n1 : Nat) : Int), Value.int .i64 ((n2 : Nat) : Int), Value.int .i64 ((n3 : Nat) : Int), Value.int .i64 0, Value.int .i64 0]) :: (pt b1 33 [Value.int .i64 0, Value.int .i64 0, Value.int .i64 0, Value.int .i64 0, Value.int .i64 0, Value.int .i64 0]) :: F) (fun _ h => h) ?_
  refine Wr.rebaseS [] ((pt m 52 [Value.pointer (some ⟨s, 0, none⟩), Value.int .i64 0]) :: (storeW s t3) :: (pt b5 81 [Value.int .i64 6, Value.pointer (some ⟨b2, 3, none⟩)]) :: (pt b4 81 [Value.int .i64 5, Value.pointer (some ⟨b2, 2, none⟩)]) :: (pt b3 81 [Value.int .i64 5, Value.pointer (some ⟨b2, 2, none⟩), Value.int .i64 6, Value.pointer (some ⟨b2, 3, none⟩), Value.int .i64 7, Value.pointer (some ⟨b2, 4, none⟩), Value.int .i64 8, Value.pointer (some ⟨b2, 5, none⟩)]) :: (pt b2 33 [Value.int .i64 j, Value.int .i64 ((n1 : Nat) : Int), Value.int .i64 ((n2 : Nat) : Int), Value.int .i64 ((n3 : Nat) : Int), Value.int .i64 0, Value.int .i64 0]) :: (pt b1 33 [Value.int .i64 0, Value.int .i64 0, Value.int .i64 0, Value.int .i64 0, Value.int .i64 0, Value.int .i64 0]) :: []) (by kernel_rfl) ?_
  refine Wr.done (by kernel_rfl) ?_
  refine Wx.blockEnd ?_
  refine Wx.go ?_
  refine Wc.region ?_
  refine Wl.q (v := Value.int .i64 2) (q_add (c := 2) rfl rfl (by decide)) ?_
  refine Wl.q (v := Value.int .i64 2) (q_move rfl) ?_
  refine Wl.done ?_
  refine Wx.again ?_
  refine Wn.round ?_
  refine Wc.seq ?_
  refine Wc.region ?_
  refine Wl.q (v := Value.bool true) (q_lss (r := true) rfl rfl (decide_eq_true (by decide))) ?_
  refine Wl.done ?_
  refine Wx.go ?_
  refine Wc.seq ?_
  refine Wc.yes rfl ?_
  refine Wc.skip ?_
  refine Wx.go ?_
  refine Wc.seq ?_
  refine Wc.block ?_
  refine Wc.seq ?_
  refine Wc.region ?_
  refine Wl.q (v := Value.pointer (some ⟨b3, 4, none⟩)) (q_idx (m := 4) se_82 rfl rfl (by omega) (by omega) rfl) ?_
  refine Wl.q (v := Value.agg #[Value.int .i64 7, Value.pointer (some ⟨b2, 4, none⟩)]) (q_loadAgg (vs := [Value.int .i64 7, Value.pointer (some ⟨b2, 4, none⟩)]) ag_81 rfl (Has.of_pt (i := 4) rfl rfl)) ?_
  refine Wl.e (e_alloc (vs := [Value.int .i64 0, Value.pointer none]) zo_81 rfl) (fun b6 _ => ?_)
  refine Wl.imp (L' := (pt b6 81 [Value.int .i64 0, Value.pointer none]) :: (pt m 52 [Value.pointer (some ⟨s, 0, none⟩), Value.int .i64 0]) :: (storeW s t3) :: (pt b5 81 [Value.int .i64 6, Value.pointer (some ⟨b2, 3, none⟩)]) :: (pt b4 81 [Value.int .i64 5, Value.pointer (some ⟨b2, 2, none⟩)]) :: (pt b3 81 [Value.int .i64 5, Value.pointer (some ⟨b2, 2, none⟩), Value.int .i64 6, Value.pointer (some ⟨b2, 3, none⟩), Value.int .i64 7, Value.pointer (some ⟨b2, 4, none⟩), Value.int .i64 8, Value.pointer (some ⟨b2, 5, none⟩)]) :: (pt b2 33 [Value.int .i64 j, Value.int .i64 ((n1 : Nat) : Int), Value.int .i64 ((n2 : Nat) : Int), Value.int .i64 ((n3 : Nat) : Int), Value.int .i64 0, Value.int .i64 0]) :: (pt b1 33 [Value.int .i64 0, Value.int .i64 0, Value.int .i64 0, Value.int .i64 0, Value.int .i64 0, Value.int .i64 0]) :: F) (fun _ h => h) ?_
  refine Wl.e (e_storeAgg (i := 0) (vs := [Value.int .i64 7, Value.pointer (some ⟨b2, 4, none⟩)]) (c' := [Value.int .i64 7, Value.pointer (some ⟨b2, 4, none⟩)]) sz_81 rfl rfl rfl rfl (by simp) rfl) (fun _ _ => ?_)
  refine Wl.imp (L' := (pt b6 81 [Value.int .i64 7, Value.pointer (some ⟨b2, 4, none⟩)]) :: (pt m 52 [Value.pointer (some ⟨s, 0, none⟩), Value.int .i64 0]) :: (storeW s t3) :: (pt b5 81 [Value.int .i64 6, Value.pointer (some ⟨b2, 3, none⟩)]) :: (pt b4 81 [Value.int .i64 5, Value.pointer (some ⟨b2, 2, none⟩)]) :: (pt b3 81 [Value.int .i64 5, Value.pointer (some ⟨b2, 2, none⟩), Value.int .i64 6, Value.pointer (some ⟨b2, 3, none⟩), Value.int .i64 7, Value.pointer (some ⟨b2, 4, none⟩), Value.int .i64 8, Value.pointer (some ⟨b2, 5, none⟩)]) :: (pt b2 33 [Value.int .i64 j, Value.int .i64 ((n1 : Nat) : Int), Value.int .i64 ((n2 : Nat) : Int), Value.int .i64 ((n3 : Nat) : Int), Value.int .i64 0, Value.int .i64 0]) :: (pt b1 33 [Value.int .i64 0, Value.int .i64 0, Value.int .i64 0, Value.int .i64 0, Value.int .i64 0, Value.int .i64 0]) :: F) (fun _ h => h) ?_
  refine Wl.done ?_
  refine Wx.go ?_
  refine Wc.drawsS [8] ((pt b6 81 [Value.int .i64 7, Value.pointer (some ⟨b2, 4, none⟩)]) :: (pt b5 81 [Value.int .i64 6, Value.pointer (some ⟨b2, 3, none⟩)]) :: (pt b4 81 [Value.int .i64 5, Value.pointer (some ⟨b2, 2, none⟩)]) :: (pt b3 81 [Value.int .i64 5, Value.pointer (some ⟨b2, 2, none⟩), Value.int .i64 6, Value.pointer (some ⟨b2, 3, none⟩), Value.int .i64 7, Value.pointer (some ⟨b2, 4, none⟩), Value.int .i64 8, Value.pointer (some ⟨b2, 5, none⟩)]) :: (pt b2 33 [Value.int .i64 j, Value.int .i64 ((n1 : Nat) : Int), Value.int .i64 ((n2 : Nat) : Int), Value.int .i64 ((n3 : Nat) : Int), Value.int .i64 0, Value.int .i64 0]) :: (pt b1 33 [Value.int .i64 0, Value.int .i64 0, Value.int .i64 0, Value.int .i64 0, Value.int .i64 0, Value.int .i64 0]) :: []) (by kernel_rfl) ?_
  refine Wr.pure (v := Value.pointer (some ⟨b6, 1, none⟩)) 0 rfl (by kernel_rfl) (.inr (fun _ h => st_take [0, 2, 2, 2, 2, 2] h)) (.inl ⟨rfl, fun _ => q_field (m := 1) fo_81_1 rfl rfl⟩) ?_
  refine Wr.take (v := Value.pointer (some ⟨b2, 4, none⟩)) 1 rfl (by kernel_rfl) (fun _ h => st_take [0, 2, 2, 2, 2, 2] h) (.inl ⟨rfl, q_load sc_80 rfl (.cel (i := 0) rfl rfl)⟩) ?_
  refine Wr.pure (v := Value.pointer (some ⟨m, 0, none⟩)) 2 rfl (by kernel_rfl) (.inr (fun _ h => st_take [0, 2, 2, 2, 2, 2] h)) (.inl ⟨rfl, fun _ => q_move rfl⟩) ?_
  refine Wr.pure (v := Value.pointer (some ⟨b6, 0, none⟩)) 3 rfl (by kernel_rfl) (.inr (fun _ h => st_take [0, 2, 2, 2, 2, 2] h)) (.inl ⟨rfl, fun _ => q_field (m := 0) fo_81_0 rfl rfl⟩) ?_
  refine Wr.take (v := Value.int .i64 7) 4 rfl (by kernel_rfl) (fun _ h => st_take [0, 2, 2, 2, 2, 2] h) (.inl ⟨rfl, q_load sc_2 rfl (.cel (i := 0) rfl rfl)⟩) ?_
  refine Wr.pure (v := Value.int .i64 ((n1 : Nat) : Int)) 5 rfl (by kernel_rfl) (.inr (fun _ h => st_take [0, 2, 2, 2, 2, 2] h)) (.inl ⟨rfl, fun _ => q_move rfl⟩) ?_
  refine Wr.imp (L' := (pt m 52 [Value.pointer (some ⟨s, 0, none⟩), Value.int .i64 0]) :: (storeW s t3) :: (pt b6 81 [Value.int .i64 7, Value.pointer (some ⟨b2, 4, none⟩)]) :: (pt b5 81 [Value.int .i64 6, Value.pointer (some ⟨b2, 3, none⟩)]) :: (pt b4 81 [Value.int .i64 5, Value.pointer (some ⟨b2, 2, none⟩)]) :: (pt b3 81 [Value.int .i64 5, Value.pointer (some ⟨b2, 2, none⟩), Value.int .i64 6, Value.pointer (some ⟨b2, 3, none⟩), Value.int .i64 7, Value.pointer (some ⟨b2, 4, none⟩), Value.int .i64 8, Value.pointer (some ⟨b2, 5, none⟩)]) :: (pt b2 33 [Value.int .i64 j, Value.int .i64 ((n1 : Nat) : Int), Value.int .i64 ((n2 : Nat) : Int), Value.int .i64 ((n3 : Nat) : Int), Value.int .i64 0, Value.int .i64 0]) :: (pt b1 33 [Value.int .i64 0, Value.int .i64 0, Value.int .i64 0, Value.int .i64 0, Value.int .i64 0, Value.int .i64 0]) :: F) (fun _ h => st_pull [1, 1] h) ?_
  refine Wr.e 6 (by kernel_rfl) rfl (e_call (F := (pt b6 81 [Value.int .i64 7, Value.pointer (some ⟨b2, 4, none⟩)]) :: (pt b5 81 [Value.int .i64 6, Value.pointer (some ⟨b2, 3, none⟩)]) :: (pt b4 81 [Value.int .i64 5, Value.pointer (some ⟨b2, 2, none⟩)]) :: (pt b3 81 [Value.int .i64 5, Value.pointer (some ⟨b2, 2, none⟩), Value.int .i64 6, Value.pointer (some ⟨b2, 3, none⟩), Value.int .i64 7, Value.pointer (some ⟨b2, 4, none⟩), Value.int .i64 8, Value.pointer (some ⟨b2, 5, none⟩)]) :: (pt b2 33 [Value.int .i64 j, Value.int .i64 ((n1 : Nat) : Int), Value.int .i64 ((n2 : Nat) : Int), Value.int .i64 ((n3 : Nat) : Int), Value.int .i64 0, Value.int .i64 0]) :: (pt b1 33 [Value.int .i64 0, Value.int .i64 0, Value.int .i64 0, Value.int .i64 0, Value.int .i64 0, Value.int .i64 0]) :: F) (args := [Value.pointer (some ⟨m, 0, none⟩), Value.int .i64 7, Value.int .i64 ((n1 : Nat) : Int), Value.int .i64 0]) Tryd.call16 rfl (mkdf_w W0 m s t3 7 ((n1 : Nat) : Int) 0 t4 n4 k4 h4)) (.inr fun _ _ _ h => st_take [2, 2, 2, 2, 2, 2] h) (fun _ _ => ?_)
  refine Wr.imp (L' := (pt m 52 [Value.pointer (some ⟨s, 0, none⟩), Value.int .i64 0]) :: (storeW s t4) :: (pt b6 81 [Value.int .i64 7, Value.pointer (some ⟨b2, 4, none⟩)]) :: (pt b5 81 [Value.int .i64 6, Value.pointer (some ⟨b2, 3, none⟩)]) :: (pt b4 81 [Value.int .i64 5, Value.pointer (some ⟨b2, 2, none⟩)]) :: (pt b3 81 [Value.int .i64 5, Value.pointer (some ⟨b2, 2, none⟩), Value.int .i64 6, Value.pointer (some ⟨b2, 3, none⟩), Value.int .i64 7, Value.pointer (some ⟨b2, 4, none⟩), Value.int .i64 8, Value.pointer (some ⟨b2, 5, none⟩)]) :: (pt b2 33 [Value.int .i64 j, Value.int .i64 ((n1 : Nat) : Int), Value.int .i64 ((n2 : Nat) : Int), Value.int .i64 ((n3 : Nat) : Int), Value.int .i64 0, Value.int .i64 0]) :: (pt b1 33 [Value.int .i64 0, Value.int .i64 0, Value.int .i64 0, Value.int .i64 0, Value.int .i64 0, Value.int .i64 0]) :: F) (fun _ h => h) ?_
  refine Wr.pure (v := Value.pointer (some ⟨b2, 4, none⟩)) 7 rfl (by kernel_rfl) (.inr (fun _ h => st_take [2, 2, 2, 2, 2, 2] h)) (.inl ⟨rfl, fun _ => q_nil_ptr rfl⟩) ?_
  refine Wr.e 8 (by kernel_rfl) rfl (e_store (i := 6) (v := Value.int .i64 ((n4 : Nat) : Int)) sz_3 rfl rfl (fun _ _ => rfl) rfl (by simp)) (.inl (by kernel_rfl)) (fun _ _ => ?_)
  refine Wr.imp (L' := (pt m 52 [Value.pointer (some ⟨s, 0, none⟩), Value.int .i64 0]) :: (storeW s t4) :: (pt b6 81 [Value.int .i64 7, Value.pointer (some ⟨b2, 4, none⟩)]) :: (pt b5 81 [Value.int .i64 6, Value.pointer (some ⟨b2, 3, none⟩)]) :: (pt b4 81 [Value.int .i64 5, Value.pointer (some ⟨b2, 2, none⟩)]) :: (pt b3 81 [Value.int .i64 5, Value.pointer (some ⟨b2, 2, none⟩), Value.int .i64 6, Value.pointer (some ⟨b2, 3, none⟩), Value.int .i64 7, Value.pointer (some ⟨b2, 4, none⟩), Value.int .i64 8, Value.pointer (some ⟨b2, 5, none⟩)]) :: (pt b2 33 [Value.int .i64 j, Value.int .i64 ((n1 : Nat) : Int), Value.int .i64 ((n2 : Nat) : Int), Value.int .i64 ((n3 : Nat) : Int), Value.int .i64 ((n4 : Nat) : Int), Value.int .i64 0]) :: (pt b1 33 [Value.int .i64 0, Value.int .i64 0, Value.int .i64 0, Value.int .i64 0, Value.int .i64 0, Value.int .i64 0]) :: F) (fun _ h => h) ?_
  refine Wr.rebaseS [] ((pt m 52 [Value.pointer (some ⟨s, 0, none⟩), Value.int .i64 0]) :: (storeW s t4) :: (pt b6 81 [Value.int .i64 7, Value.pointer (some ⟨b2, 4, none⟩)]) :: (pt b5 81 [Value.int .i64 6, Value.pointer (some ⟨b2, 3, none⟩)]) :: (pt b4 81 [Value.int .i64 5, Value.pointer (some ⟨b2, 2, none⟩)]) :: (pt b3 81 [Value.int .i64 5, Value.pointer (some ⟨b2, 2, none⟩), Value.int .i64 6, Value.pointer (some ⟨b2, 3, none⟩), Value.int .i64 7, Value.pointer (some ⟨b2, 4, none⟩), Value.int .i64 8, Value.pointer (some ⟨b2, 5, none⟩)]) :: (pt b2 33 [Value.int .i64 j, Value.int .i64 ((n1 : Nat) : Int), Value.int .i64 ((n2 : Nat) : Int), Value.int .i64 ((n3 : Nat) : Int), Value.int .i64 ((n4 : Nat) : Int), Value.int .i64 0]) :: (pt b1 33 [Value.int .i64 0, Value.int .i64 0, Value.int .i64 0, Value.int .i64 0, Value.int .i64 0, Value.int .i64 0]) :: []) (by kernel_rfl) ?_
  refine Wr.done (by kernel_rfl) ?_
  refine Wx.blockEnd ?_
  refine Wx.go ?_
  refine Wc.region ?_
  refine Wl.q (v := Value.int .i64 3) (q_add (c := 3) rfl rfl (by decide)) ?_
  refine Wl.q (v := Value.int .i64 3) (q_move rfl) ?_
  refine Wl.done ?_
  refine Wx.again ?_
  refine Wn.round ?_
  refine Wc.seq ?_
  refine Wc.region ?_
  refine Wl.q (v := Value.bool true) (q_lss (r := true) rfl rfl (decide_eq_true (by decide))) ?_
  refine Wl.done ?_
  refine Wx.go ?_
  refine Wc.seq ?_
  refine Wc.yes rfl ?_
  refine Wc.skip ?_
  refine Wx.go ?_
  refine Wc.seq ?_
  refine Wc.block ?_
  refine Wc.seq ?_
  refine Wc.region ?_
  refine Wl.q (v := Value.pointer (some ⟨b3, 6, none⟩)) (q_idx (m := 6) se_82 rfl rfl (by omega) (by omega) rfl) ?_
  refine Wl.q (v := Value.agg #[Value.int .i64 8, Value.pointer (some ⟨b2, 5, none⟩)]) (q_loadAgg (vs := [Value.int .i64 8, Value.pointer (some ⟨b2, 5, none⟩)]) ag_81 rfl (Has.of_pt (i := 5) rfl rfl)) ?_
  refine Wl.e (e_alloc (vs := [Value.int .i64 0, Value.pointer none]) zo_81 rfl) (fun b7 _ => ?_)
  refine Wl.imp (L' := (pt b7 81 [Value.int .i64 0, Value.pointer none]) :: (pt m 52 [Value.pointer (some ⟨s, 0, none⟩), Value.int .i64 0]) :: (storeW s t4) :: (pt b6 81 [Value.int .i64 7, Value.pointer (some ⟨b2, 4, none⟩)]) :: (pt b5 81 [Value.int .i64 6, Value.pointer (some ⟨b2, 3, none⟩)]) :: (pt b4 81 [Value.int .i64 5, Value.pointer (some ⟨b2, 2, none⟩)]) :: (pt b3 81 [Value.int .i64 5, Value.pointer (some ⟨b2, 2, none⟩), Value.int .i64 6, Value.pointer (some ⟨b2, 3, none⟩), Value.int .i64 7, Value.pointer (some ⟨b2, 4, none⟩), Value.int .i64 8, Value.pointer (some ⟨b2, 5, none⟩)]) :: (pt b2 33 [Value.int .i64 j, Value.int .i64 ((n1 : Nat) : Int), Value.int .i64 ((n2 : Nat) : Int), Value.int .i64 ((n3 : Nat) : Int), Value.int .i64 ((n4 : Nat) : Int), Value.int .i64 0]) :: (pt b1 33 [Value.int .i64 0, Value.int .i64 0, Value.int .i64 0, Value.int .i64 0, Value.int .i64 0, Value.int .i64 0]) :: F) (fun _ h => h) ?_
  refine Wl.e (e_storeAgg (i := 0) (vs := [Value.int .i64 8, Value.pointer (some ⟨b2, 5, none⟩)]) (c' := [Value.int .i64 8, Value.pointer (some ⟨b2, 5, none⟩)]) sz_81 rfl rfl rfl rfl (by simp) rfl) (fun _ _ => ?_)
  refine Wl.imp (L' := (pt b7 81 [Value.int .i64 8, Value.pointer (some ⟨b2, 5, none⟩)]) :: (pt m 52 [Value.pointer (some ⟨s, 0, none⟩), Value.int .i64 0]) :: (storeW s t4) :: (pt b6 81 [Value.int .i64 7, Value.pointer (some ⟨b2, 4, none⟩)]) :: (pt b5 81 [Value.int .i64 6, Value.pointer (some ⟨b2, 3, none⟩)]) :: (pt b4 81 [Value.int .i64 5, Value.pointer (some ⟨b2, 2, none⟩)]) :: (pt b3 81 [Value.int .i64 5, Value.pointer (some ⟨b2, 2, none⟩), Value.int .i64 6, Value.pointer (some ⟨b2, 3, none⟩), Value.int .i64 7, Value.pointer (some ⟨b2, 4, none⟩), Value.int .i64 8, Value.pointer (some ⟨b2, 5, none⟩)]) :: (pt b2 33 [Value.int .i64 j, Value.int .i64 ((n1 : Nat) : Int), Value.int .i64 ((n2 : Nat) : Int), Value.int .i64 ((n3 : Nat) : Int), Value.int .i64 ((n4 : Nat) : Int), Value.int .i64 0]) :: (pt b1 33 [Value.int .i64 0, Value.int .i64 0, Value.int .i64 0, Value.int .i64 0, Value.int .i64 0, Value.int .i64 0]) :: F) (fun _ h => h) ?_
  refine Wl.done ?_
  refine Wx.go ?_
  refine Wc.drawsS [8] ((pt b7 81 [Value.int .i64 8, Value.pointer (some ⟨b2, 5, none⟩)]) :: (pt b6 81 [Value.int .i64 7, Value.pointer (some ⟨b2, 4, none⟩)]) :: (pt b5 81 [Value.int .i64 6, Value.pointer (some ⟨b2, 3, none⟩)]) :: (pt b4 81 [Value.int .i64 5, Value.pointer (some ⟨b2, 2, none⟩)]) :: (pt b3 81 [Value.int .i64 5, Value.pointer (some ⟨b2, 2, none⟩), Value.int .i64 6, Value.pointer (some ⟨b2, 3, none⟩), Value.int .i64 7, Value.pointer (some ⟨b2, 4, none⟩), Value.int .i64 8, Value.pointer (some ⟨b2, 5, none⟩)]) :: (pt b2 33 [Value.int .i64 j, Value.int .i64 ((n1 : Nat) : Int), Value.int .i64 ((n2 : Nat) : Int), Value.int .i64 ((n3 : Nat) : Int), Value.int .i64 ((n4 : Nat) : Int), Value.int .i64 0]) :: (pt b1 33 [Value.int .i64 0, Value.int .i64 0, Value.int .i64 0, Value.int .i64 0, Value.int .i64 0, Value.int .i64 0]) :: []) (by kernel_rfl) ?_
  refine Wr.pure (v := Value.pointer (some ⟨b7, 1, none⟩)) 0 rfl (by kernel_rfl) (.inr (fun _ h => st_take [0, 2, 2, 2, 2, 2, 2] h)) (.inl ⟨rfl, fun _ => q_field (m := 1) fo_81_1 rfl rfl⟩) ?_
  refine Wr.take (v := Value.pointer (some ⟨b2, 5, none⟩)) 1 rfl (by kernel_rfl) (fun _ h => st_take [0, 2, 2, 2, 2, 2, 2] h) (.inl ⟨rfl, q_load sc_80 rfl (.cel (i := 0) rfl rfl)⟩) ?_
  refine Wr.pure (v := Value.pointer (some ⟨m, 0, none⟩)) 2 rfl (by kernel_rfl) (.inr (fun _ h => st_take [0, 2, 2, 2, 2, 2, 2] h)) (.inl ⟨rfl, fun _ => q_move rfl⟩) ?_
  refine Wr.pure (v := Value.pointer (some ⟨b7, 0, none⟩)) 3 rfl (by kernel_rfl) (.inr (fun _ h => st_take [0, 2, 2, 2, 2, 2, 2] h)) (.inl ⟨rfl, fun _ => q_field (m := 0) fo_81_0 rfl rfl⟩) ?_
  refine Wr.take (v := Value.int .i64 8) 4 rfl (by kernel_rfl) (fun _ h => st_take [0, 2, 2, 2, 2, 2, 2] h) (.inl ⟨rfl, q_load sc_2 rfl (.cel (i := 0) rfl rfl)⟩) ?_
  refine Wr.pure (v := Value.int .i64 ((n1 : Nat) : Int)) 5 rfl (by kernel_rfl) (.inr (fun _ h => st_take [0, 2, 2, 2, 2, 2, 2] h)) (.inl ⟨rfl, fun _ => q_move rfl⟩) ?_
  refine Wr.imp (L' := (pt m 52 [Value.pointer (some ⟨s, 0, none⟩), Value.int .i64 0]) :: (storeW s t4) :: (pt b7 81 [Value.int .i64 8, Value.pointer (some ⟨b2, 5, none⟩)]) :: (pt b6 81 [Value.int .i64 7, Value.pointer (some ⟨b2, 4, none⟩)]) :: (pt b5 81 [Value.int .i64 6, Value.pointer (some ⟨b2, 3, none⟩)]) :: (pt b4 81 [Value.int .i64 5, Value.pointer (some ⟨b2, 2, none⟩)]) :: (pt b3 81 [Value.int .i64 5, Value.pointer (some ⟨b2, 2, none⟩), Value.int .i64 6, Value.pointer (some ⟨b2, 3, none⟩), Value.int .i64 7, Value.pointer (some ⟨b2, 4, none⟩), Value.int .i64 8, Value.pointer (some ⟨b2, 5, none⟩)]) :: (pt b2 33 [Value.int .i64 j, Value.int .i64 ((n1 : Nat) : Int), Value.int .i64 ((n2 : Nat) : Int), Value.int .i64 ((n3 : Nat) : Int), Value.int .i64 ((n4 : Nat) : Int), Value.int .i64 0]) :: (pt b1 33 [Value.int .i64 0, Value.int .i64 0, Value.int .i64 0, Value.int .i64 0, Value.int .i64 0, Value.int .i64 0]) :: F) (fun _ h => st_pull [1, 1] h) ?_
  refine Wr.e 6 (by kernel_rfl) rfl (e_call (F := (pt b7 81 [Value.int .i64 8, Value.pointer (some ⟨b2, 5, none⟩)]) :: (pt b6 81 [Value.int .i64 7, Value.pointer (some ⟨b2, 4, none⟩)]) :: (pt b5 81 [Value.int .i64 6, Value.pointer (some ⟨b2, 3, none⟩)]) :: (pt b4 81 [Value.int .i64 5, Value.pointer (some ⟨b2, 2, none⟩)]) :: (pt b3 81 [Value.int .i64 5, Value.pointer (some ⟨b2, 2, none⟩), Value.int .i64 6, Value.pointer (some ⟨b2, 3, none⟩), Value.int .i64 7, Value.pointer (some ⟨b2, 4, none⟩), Value.int .i64 8, Value.pointer (some ⟨b2, 5, none⟩)]) :: (pt b2 33 [Value.int .i64 j, Value.int .i64 ((n1 : Nat) : Int), Value.int .i64 ((n2 : Nat) : Int), Value.int .i64 ((n3 : Nat) : Int), Value.int .i64 ((n4 : Nat) : Int), Value.int .i64 0]) :: (pt b1 33 [Value.int .i64 0, Value.int .i64 0, Value.int .i64 0, Value.int .i64 0, Value.int .i64 0, Value.int .i64 0]) :: F) (args := [Value.pointer (some ⟨m, 0, none⟩), Value.int .i64 8, Value.int .i64 ((n1 : Nat) : Int), Value.int .i64 0]) Tryd.call16 rfl (mkdf_w W0 m s t4 8 ((n1 : Nat) : Int) 0 t5 n5 k5 h5)) (.inr fun _ _ _ h => st_take [2, 2, 2, 2, 2, 2, 2] h) (fun _ _ => ?_)
  refine Wr.imp (L' := (pt m 52 [Value.pointer (some ⟨s, 0, none⟩), Value.int .i64 0]) :: (storeW s t5) :: (pt b7 81 [Value.int .i64 8, Value.pointer (some ⟨b2, 5, none⟩)]) :: (pt b6 81 [Value.int .i64 7, Value.pointer (some ⟨b2, 4, none⟩)]) :: (pt b5 81 [Value.int .i64 6, Value.pointer (some ⟨b2, 3, none⟩)]) :: (pt b4 81 [Value.int .i64 5, Value.pointer (some ⟨b2, 2, none⟩)]) :: (pt b3 81 [Value.int .i64 5, Value.pointer (some ⟨b2, 2, none⟩), Value.int .i64 6, Value.pointer (some ⟨b2, 3, none⟩), Value.int .i64 7, Value.pointer (some ⟨b2, 4, none⟩), Value.int .i64 8, Value.pointer (some ⟨b2, 5, none⟩)]) :: (pt b2 33 [Value.int .i64 j, Value.int .i64 ((n1 : Nat) : Int), Value.int .i64 ((n2 : Nat) : Int), Value.int .i64 ((n3 : Nat) : Int), Value.int .i64 ((n4 : Nat) : Int), Value.int .i64 0]) :: (pt b1 33 [Value.int .i64 0, Value.int .i64 0, Value.int .i64 0, Value.int .i64 0, Value.int .i64 0, Value.int .i64 0]) :: F) (fun _ h => h) ?_
  refine Wr.pure (v := Value.pointer (some ⟨b2, 5, none⟩)) 7 rfl (by kernel_rfl) (.inr (fun _ h => st_take [2, 2, 2, 2, 2, 2, 2] h)) (.inl ⟨rfl, fun _ => q_nil_ptr rfl⟩) ?_
  refine Wr.e 8 (by kernel_rfl) rfl (e_store (i := 7) (v := Value.int .i64 ((n5 : Nat) : Int)) sz_3 rfl rfl (fun _ _ => rfl) rfl (by simp)) (.inl (by kernel_rfl)) (fun _ _ => ?_)
  refine Wr.imp (L' := (pt m 52 [Value.pointer (some ⟨s, 0, none⟩), Value.int .i64 0]) :: (storeW s t5) :: (pt b7 81 [Value.int .i64 8, Value.pointer (some ⟨b2, 5, none⟩)]) :: (pt b6 81 [Value.int .i64 7, Value.pointer (some ⟨b2, 4, none⟩)]) :: (pt b5 81 [Value.int .i64 6, Value.pointer (some ⟨b2, 3, none⟩)]) :: (pt b4 81 [Value.int .i64 5, Value.pointer (some ⟨b2, 2, none⟩)]) :: (pt b3 81 [Value.int .i64 5, Value.pointer (some ⟨b2, 2, none⟩), Value.int .i64 6, Value.pointer (some ⟨b2, 3, none⟩), Value.int .i64 7, Value.pointer (some ⟨b2, 4, none⟩), Value.int .i64 8, Value.pointer (some ⟨b2, 5, none⟩)]) :: (pt b2 33 [Value.int .i64 j, Value.int .i64 ((n1 : Nat) : Int), Value.int .i64 ((n2 : Nat) : Int), Value.int .i64 ((n3 : Nat) : Int), Value.int .i64 ((n4 : Nat) : Int), Value.int .i64 ((n5 : Nat) : Int)]) :: (pt b1 33 [Value.int .i64 0, Value.int .i64 0, Value.int .i64 0, Value.int .i64 0, Value.int .i64 0, Value.int .i64 0]) :: F) (fun _ h => h) ?_
  refine Wr.rebaseS [] ((pt m 52 [Value.pointer (some ⟨s, 0, none⟩), Value.int .i64 0]) :: (storeW s t5) :: (pt b7 81 [Value.int .i64 8, Value.pointer (some ⟨b2, 5, none⟩)]) :: (pt b6 81 [Value.int .i64 7, Value.pointer (some ⟨b2, 4, none⟩)]) :: (pt b5 81 [Value.int .i64 6, Value.pointer (some ⟨b2, 3, none⟩)]) :: (pt b4 81 [Value.int .i64 5, Value.pointer (some ⟨b2, 2, none⟩)]) :: (pt b3 81 [Value.int .i64 5, Value.pointer (some ⟨b2, 2, none⟩), Value.int .i64 6, Value.pointer (some ⟨b2, 3, none⟩), Value.int .i64 7, Value.pointer (some ⟨b2, 4, none⟩), Value.int .i64 8, Value.pointer (some ⟨b2, 5, none⟩)]) :: (pt b2 33 [Value.int .i64 j, Value.int .i64 ((n1 : Nat) : Int), Value.int .i64 ((n2 : Nat) : Int), Value.int .i64 ((n3 : Nat) : Int), Value.int .i64 ((n4 : Nat) : Int), Value.int .i64 ((n5 : Nat) : Int)]) :: (pt b1 33 [Value.int .i64 0, Value.int .i64 0, Value.int .i64 0, Value.int .i64 0, Value.int .i64 0, Value.int .i64 0]) :: []) (by kernel_rfl) ?_
  refine Wr.done (by kernel_rfl) ?_
  refine Wx.blockEnd ?_
  refine Wx.go ?_
  refine Wc.region ?_
  refine Wl.q (v := Value.int .i64 4) (q_add (c := 4) rfl rfl (by decide)) ?_
  refine Wl.q (v := Value.int .i64 4) (q_move rfl) ?_
  refine Wl.done ?_
  refine Wx.again ?_
  refine Wn.round ?_
  refine Wc.seq ?_
  refine Wc.region ?_
  refine Wl.q (v := Value.bool false) (q_lss (r := false) rfl rfl (decide_eq_false (by decide))) ?_
  refine Wl.done ?_
  refine Wx.go ?_
  refine Wc.seq ?_
  refine Wc.no rfl ?_
  refine Wc.exit ?_
  refine Wx.thenExit ?_
  refine Wx.thenExit ?_
  refine Wx.out ?_
  refine Wx.go ?_
  refine Wc.seq ?_
  refine Wc.seq ?_
  refine Wc.region ?_
  refine Wl.q (v := Value.pointer (some ⟨m, 0, none⟩)) (q_move rfl) ?_
  refine Wl.q (v := Value.pointer (some ⟨m, 0, none⟩)) (q_nil_ptr rfl) ?_
  refine Wl.q (v := Value.pointer (some ⟨m, 1, none⟩)) (q_field (m := 1) fo_52_1 rfl rfl) ?_
  refine Wl.q (v := Value.int .i64 0) (q_load sc_34 rfl (.cel (i := 0) rfl rfl)) ?_
  refine Wl.q (v := Value.bool false) (q_neq (r := true) rfl rfl (decide_eq_true (by decide))) ?_
  refine Wl.done ?_
  refine Wx.go ?_
  refine Wc.no rfl ?_
  refine Wc.skip ?_
  refine Wx.go ?_
  refine Wc.seq ?_
  refine Wc.region ?_
  refine Wl.q (v := Value.agg #[Value.int .i64 j, Value.int .i64 ((n1 : Nat) : Int), Value.int .i64 ((n2 : Nat) : Int), Value.int .i64 ((n3 : Nat) : Int), Value.int .i64 ((n4 : Nat) : Int), Value.int .i64 ((n5 : Nat) : Int)]) (q_loadAgg (vs := [Value.int .i64 j, Value.int .i64 ((n1 : Nat) : Int), Value.int .i64 ((n2 : Nat) : Int), Value.int .i64 ((n3 : Nat) : Int), Value.int .i64 ((n4 : Nat) : Int), Value.int .i64 ((n5 : Nat) : Int)]) ag_33 rfl (Has.of_pt (i := 7) rfl rfl)) ?_
  refine Wl.e (e_storeAgg (i := 8) (vs := [Value.int .i64 j, Value.int .i64 ((n1 : Nat) : Int), Value.int .i64 ((n2 : Nat) : Int), Value.int .i64 ((n3 : Nat) : Int), Value.int .i64 ((n4 : Nat) : Int), Value.int .i64 ((n5 : Nat) : Int)]) (c' := [Value.int .i64 j, Value.int .i64 ((n1 : Nat) : Int), Value.int .i64 ((n2 : Nat) : Int), Value.int .i64 ((n3 : Nat) : Int), Value.int .i64 ((n4 : Nat) : Int), Value.int .i64 ((n5 : Nat) : Int)]) sz_33 rfl rfl rfl rfl (by simp) rfl) (fun _ _ => ?_)
  refine Wl.imp (L' := (pt m 52 [Value.pointer (some ⟨s, 0, none⟩), Value.int .i64 0]) :: (storeW s t5) :: (pt b7 81 [Value.int .i64 8, Value.pointer (some ⟨b2, 5, none⟩)]) :: (pt b6 81 [Value.int .i64 7, Value.pointer (some ⟨b2, 4, none⟩)]) :: (pt b5 81 [Value.int .i64 6, Value.pointer (some ⟨b2, 3, none⟩)]) :: (pt b4 81 [Value.int .i64 5, Value.pointer (some ⟨b2, 2, none⟩)]) :: (pt b3 81 [Value.int .i64 5, Value.pointer (some ⟨b2, 2, none⟩), Value.int .i64 6, Value.pointer (some ⟨b2, 3, none⟩), Value.int .i64 7, Value.pointer (some ⟨b2, 4, none⟩), Value.int .i64 8, Value.pointer (some ⟨b2, 5, none⟩)]) :: (pt b2 33 [Value.int .i64 j, Value.int .i64 ((n1 : Nat) : Int), Value.int .i64 ((n2 : Nat) : Int), Value.int .i64 ((n3 : Nat) : Int), Value.int .i64 ((n4 : Nat) : Int), Value.int .i64 ((n5 : Nat) : Int)]) :: (pt b1 33 [Value.int .i64 j, Value.int .i64 ((n1 : Nat) : Int), Value.int .i64 ((n2 : Nat) : Int), Value.int .i64 ((n3 : Nat) : Int), Value.int .i64 ((n4 : Nat) : Int), Value.int .i64 ((n5 : Nat) : Int)]) :: F) (fun _ h => h) ?_
  refine Wl.q (v := Value.int .i64 0) (q_assign rfl) ?_
  refine Wl.done ?_
  refine Wx.go ?_
  refine Wc.ret ?_
  refine Wx.finA2 (vs := [Value.int .i64 j, Value.int .i64 ((n1 : Nat) : Int), Value.int .i64 ((n2 : Nat) : Int), Value.int .i64 ((n3 : Nat) : Int), Value.int .i64 ((n4 : Nat) : Int), Value.int .i64 ((n5 : Nat) : Int)]) rfl (.inl rfl) ag_33 rfl (Has.of_pt (i := 8) rfl rfl) (fun w hs => ?_)
  exact ⟨(), trivial, rfl, (st_drop (st_drop (st_drop (st_drop (st_drop (st_drop (st_drop (st_drop (st_pull [0, 1, 1, 1, 1, 1, 1, 1] hs)))))))))⟩

set_option maxRecDepth 8000 in
theorem next_w (W0 : World) (tp t0 t1 t2 t3 t4 t5 : List TermR) (np n0 n1 n2 n3 n4 n5 : Nat) (s : Nat) (ts : List TermR) (i c x : Int) (hi : 1 ≤ i ∧ i ≤ (ts.length : Int)) (hc : 1 ≤ c ∧ c ≤ (ts.length : Int)) (hx : 1 ≤ x ∧ x ≤ (ts.length : Int)) (hx2 : 1 ≤ x ∧ x ≤ (t0.length : Int)) (hj : 1 ≤ (n0 : Int) ∧ (n0 : Int) ≤ (t0.length : Int)) (p1 : okT ⟨3, 0, i, c⟩) (hp1 : mk ts ⟨3, 0, i, c⟩ = (tp, np, 0)) (p2 : okT ⟨4, 3, (np : Int), 0⟩) (hp2 : mk tp ⟨4, 3, (np : Int), 0⟩ = (t0, n0, 0)) (k1 : okT ⟨4, 4, (n0 : Int), x⟩) (h1 : mk t0 ⟨4, 4, (n0 : Int), x⟩ = (t1, n1, 0)) (k2 : okT ⟨4, 5, (n1 : Int), 0⟩) (h2 : mk t1 ⟨4, 5, (n1 : Int), 0⟩ = (t2, n2, 0)) (k3 : okT ⟨4, 6, (n1 : Int), 0⟩) (h3 : mk t2 ⟨4, 6, (n1 : Int), 0⟩ = (t3, n3, 0)) (k4 : okT ⟨4, 7, (n1 : Int), 0⟩) (h4 : mk t3 ⟨4, 7, (n1 : Int), 0⟩ = (t4, n4, 0)) (k5 : okT ⟨4, 8, (n1 : Int), 0⟩) (h5 : mk t4 ⟨4, 8, (n1 : Int), 0⟩ = (t5, n5, 0)) :
    Con Tryd.prog W0 6 #[Value.pointer (some ⟨s, 0, none⟩), Value.int .i64 i, Value.int .i64 c, Value.int .i64 x] [storeW s ts] (X := Unit) (fun _ => True) (fun _ => .tuple #[Value.agg #[Value.int .i64 ((n0 : Nat) : Int), Value.int .i64 ((n1 : Nat) : Int), Value.int .i64 ((n2 : Nat) : Int), Value.int .i64 ((n3 : Nat) : Int), Value.int .i64 ((n4 : Nat) : Int), Value.int .i64 ((n5 : Nat) : Int)], .int .i64 0]) (fun _ => [storeW s t5]) := by
  refine Con.of (args := [Value.pointer (some ⟨s, 0, none⟩), Value.int .i64 i, Value.int .i64 c, Value.int .i64 x]) Tryd.func6 rfl Tryd.ntmps6 rfl (fun F => ?_)
  show Wc _ W0 _ _ _ _ _ ((storeW s ts) :: F)
  refine Wc.seq ?_
  refine Wc.region ?_
  refine Wl.e (e_alloc (vs := [Value.int .i64 0, Value.int .i64 0, Value.int .i64 0, Value.int .i64 0, Value.int .i64 0, Value.int .i64 0]) zo_33 rfl) (fun b1 _ => ?_)
  refine Wl.imp (L' := (pt b1 33 [Value.int .i64 0, Value.int .i64 0, Value.int .i64 0, Value.int .i64 0, Value.int .i64 0, Value.int .i64 0]) :: (storeW s ts) :: F) (fun _ h => h) ?_
  refine Wl.q (v := Value.int .i64 0) (q_assign rfl) ?_
  refine Wl.done ?_
  refine Wx.go ?_
  refine Wc.seq ?_
  refine Wc.seq ?_
  refine Wc.region ?_
  refine Wl.q (v := Value.pointer (some ⟨s, 0, none⟩)) (q_move rfl) ?_
  refine Wl.imp (L' := (storeW s ts) :: (pt b1 33 [Value.int .i64 0, Value.int .i64 0, Value.int .i64 0, Value.int .i64 0, Value.int .i64 0, Value.int .i64 0]) :: F) (fun _ h => st_pull [1] h) ?_
  refine Wl.e (e_call (F := (pt b1 33 [Value.int .i64 0, Value.int .i64 0, Value.int .i64 0, Value.int .i64 0, Value.int .i64 0, Value.int .i64 0]) :: F) (args := [Value.pointer (some ⟨s, 0, none⟩)]) Tryd.call14 rfl (salive_w W0 s ts)) (fun _ _ => ?_)
  refine Wl.imp (L' := (storeW s ts) :: (pt b1 33 [Value.int .i64 0, Value.int .i64 0, Value.int .i64 0, Value.int .i64 0, Value.int .i64 0, Value.int .i64 0]) :: F) (fun _ h => h) ?_
  refine Wl.q (v := Value.bool false) (q_not rfl rfl) ?_
  refine Wl.done ?_
  refine Wx.go ?_
  refine Wc.no rfl ?_
  refine Wc.skip ?_
  refine Wx.go ?_
  refine Wc.seq ?_
  refine Wc.seq ?_
  refine Wc.region ?_
  refine Wl.q (v := Value.pointer (some ⟨s, 0, none⟩)) (q_move rfl) ?_
  refine Wl.q (v := Value.int .i64 i) (q_move rfl) ?_
  refine Wl.e (e_call (F := (pt b1 33 [Value.int .i64 0, Value.int .i64 0, Value.int .i64 0, Value.int .i64 0, Value.int .i64 0, Value.int .i64 0]) :: F) (args := [Value.pointer (some ⟨s, 0, none⟩), Value.int .i64 i]) Tryd.call15 rfl (sthere_w W0 s ts i hi)) (fun _ _ => ?_)
  refine Wl.imp (L' := (storeW s ts) :: (pt b1 33 [Value.int .i64 0, Value.int .i64 0, Value.int .i64 0, Value.int .i64 0, Value.int .i64 0, Value.int .i64 0]) :: F) (fun _ h => h) ?_
  refine Wl.q (v := Value.bool false) (q_not rfl rfl) ?_
  refine Wl.q (v := Value.bool false) (q_move rfl) ?_
  refine Wl.q (v := Value.pointer (some ⟨s, 0, none⟩)) (q_move rfl) ?_
  refine Wl.q (v := Value.int .i64 c) (q_move rfl) ?_
  refine Wl.e (e_call (F := (pt b1 33 [Value.int .i64 0, Value.int .i64 0, Value.int .i64 0, Value.int .i64 0, Value.int .i64 0, Value.int .i64 0]) :: F) (args := [Value.pointer (some ⟨s, 0, none⟩), Value.int .i64 c]) Tryd.call15 rfl (sthere_w W0 s ts c hc)) (fun _ _ => ?_)
  refine Wl.imp (L' := (storeW s ts) :: (pt b1 33 [Value.int .i64 0, Value.int .i64 0, Value.int .i64 0, Value.int .i64 0, Value.int .i64 0, Value.int .i64 0]) :: F) (fun _ h => h) ?_
  refine Wl.q (v := Value.bool false) (q_not rfl rfl) ?_
  refine Wl.q (v := Value.bool false) (q_pick (t := false) rfl rfl) ?_
  refine Wl.q (v := Value.bool false) (q_move rfl) ?_
  refine Wl.q (v := Value.pointer (some ⟨s, 0, none⟩)) (q_move rfl) ?_
  refine Wl.q (v := Value.int .i64 x) (q_move rfl) ?_
  refine Wl.e (e_call (F := (pt b1 33 [Value.int .i64 0, Value.int .i64 0, Value.int .i64 0, Value.int .i64 0, Value.int .i64 0, Value.int .i64 0]) :: F) (args := [Value.pointer (some ⟨s, 0, none⟩), Value.int .i64 x]) Tryd.call15 rfl (sthere_w W0 s ts x hx)) (fun _ _ => ?_)
  refine Wl.imp (L' := (storeW s ts) :: (pt b1 33 [Value.int .i64 0, Value.int .i64 0, Value.int .i64 0, Value.int .i64 0, Value.int .i64 0, Value.int .i64 0]) :: F) (fun _ h => h) ?_
  refine Wl.q (v := Value.bool false) (q_not rfl rfl) ?_
  refine Wl.q (v := Value.bool false) (q_pick (t := false) rfl rfl) ?_
  refine Wl.done ?_
  refine Wx.go ?_
  refine Wc.no rfl ?_
  refine Wc.skip ?_
  refine Wx.go ?_
  refine Wc.seq ?_
  refine Wc.region ?_
  refine Wl.q (v := Value.pointer (some ⟨s, 0, none⟩)) (q_move rfl) ?_
  refine Wl.q (v := Value.agg #[Value.pointer (some ⟨s, 0, none⟩), Value.int .i64 0]) (q_build (pl := [(0, 1), (1, 1)]) Tryd.underlying52 zo_52 (by kernel_rfl) (by kernel_rfl)) ?_
  refine Wl.e (e_box (x := .tmp 34) (vs := [Value.pointer (some ⟨s, 0, none⟩), Value.int .i64 0]) rfl) (fun b2 _ => ?_)
  refine Wl.imp (L' := (pt b2 52 [Value.pointer (some ⟨s, 0, none⟩), Value.int .i64 0]) :: (storeW s ts) :: (pt b1 33 [Value.int .i64 0, Value.int .i64 0, Value.int .i64 0, Value.int .i64 0, Value.int .i64 0, Value.int .i64 0]) :: F) (fun _ h => h) ?_
  refine Wl.q (v := Value.pointer (some ⟨b2, 0, none⟩)) (q_assign rfl) ?_
  refine Wl.done ?_
  refine Wx.go ?_
  refine Wc.seq ?_
  refine Wc.region ?_
  refine Wl.q (v := Value.pointer (some ⟨b2, 0, none⟩)) (q_move rfl) ?_
  refine Wl.q (v := Value.pointer (some ⟨b2, 0, none⟩)) (q_move rfl) ?_
  refine Wl.q (v := Value.int .i64 i) (q_move rfl) ?_
  refine Wl.q (v := Value.int .i64 c) (q_move rfl) ?_
  refine Wl.q (v := Value.agg #[Value.int .u8 3, Value.int .i64 0, Value.int .i64 i, Value.int .i64 c]) (q_build (pl := [(0, 1), (1, 1), (2, 1), (3, 1)]) Tryd.underlying29 zo_29 (by kernel_rfl) (by kernel_rfl)) ?_
  refine Wl.e (e_call (F := (pt b1 33 [Value.int .i64 0, Value.int .i64 0, Value.int .i64 0, Value.int .i64 0, Value.int .i64 0, Value.int .i64 0]) :: F) (args := [Value.pointer (some ⟨b2, 0, none⟩), Value.agg #[Value.int .u8 3, Value.int .i64 0, Value.int .i64 i, Value.int .i64 c]]) Tryd.call17 rfl (mmake_w W0 b2 s ts (⟨3, 0, i, c⟩ : TermR) tp np p1 hp1)) (fun _ _ => ?_)
  refine Wl.imp (L' := (pt b2 52 [Value.pointer (some ⟨s, 0, none⟩), Value.int .i64 0]) :: (storeW s tp) :: (pt b1 33 [Value.int .i64 0, Value.int .i64 0, Value.int .i64 0, Value.int .i64 0, Value.int .i64 0, Value.int .i64 0]) :: F) (fun _ h => h) ?_
  refine Wl.e (e_call (F := (pt b1 33 [Value.int .i64 0, Value.int .i64 0, Value.int .i64 0, Value.int .i64 0, Value.int .i64 0, Value.int .i64 0]) :: F) (args := [Value.pointer (some ⟨b2, 0, none⟩), Value.int .i64 3, Value.int .i64 ((np : Nat) : Int), Value.int .i64 0]) Tryd.call16 rfl (mkdf_w W0 b2 s tp 3 ((np : Nat) : Int) 0 t0 n0 p2 hp2)) (fun _ _ => ?_)
  refine Wl.imp (L' := (pt b2 52 [Value.pointer (some ⟨s, 0, none⟩), Value.int .i64 0]) :: (storeW s t0) :: (pt b1 33 [Value.int .i64 0, Value.int .i64 0, Value.int .i64 0, Value.int .i64 0, Value.int .i64 0, Value.int .i64 0]) :: F) (fun _ h => h) ?_
  refine Wl.q (v := Value.int .i64 ((n0 : Nat) : Int)) (q_assign rfl) ?_
  refine Wl.done ?_
  refine Wx.go ?_
  refine Wc.seq ?_
  refine Wc.seq ?_
  refine Wc.region ?_
  refine Wl.q (v := Value.pointer (some ⟨b2, 0, none⟩)) (q_move rfl) ?_
  refine Wl.q (v := Value.pointer (some ⟨b2, 0, none⟩)) (q_nil_ptr rfl) ?_
  refine Wl.q (v := Value.pointer (some ⟨b2, 1, none⟩)) (q_field (m := 1) fo_52_1 rfl rfl) ?_
  refine Wl.q (v := Value.int .i64 0) (q_load sc_34 rfl (.cel (i := 0) rfl rfl)) ?_
  refine Wl.q (v := Value.bool false) (q_neq (r := true) rfl rfl (decide_eq_true (by decide))) ?_
  refine Wl.done ?_
  refine Wx.go ?_
  refine Wc.no rfl ?_
  refine Wc.skip ?_
  refine Wx.go ?_
  refine Wc.seq ?_
  refine Wc.region ?_
  refine Wl.q (v := Value.pointer (some ⟨s, 0, none⟩)) (q_move rfl) ?_
  refine Wl.q (v := Value.int .i64 ((n0 : Nat) : Int)) (q_move rfl) ?_
  refine Wl.q (v := Value.int .i64 x) (q_move rfl) ?_
  refine Wl.imp (L' := (storeW s t0) :: (pt b2 52 [Value.pointer (some ⟨s, 0, none⟩), Value.int .i64 0]) :: (pt b1 33 [Value.int .i64 0, Value.int .i64 0, Value.int .i64 0, Value.int .i64 0, Value.int .i64 0, Value.int .i64 0]) :: F) (fun _ h => st_pull [1] h) ?_
  refine Wl.e (e_call (F := (pt b2 52 [Value.pointer (some ⟨s, 0, none⟩), Value.int .i64 0]) :: (pt b1 33 [Value.int .i64 0, Value.int .i64 0, Value.int .i64 0, Value.int .i64 0, Value.int .i64 0, Value.int .i64 0]) :: F) (args := [Value.pointer (some ⟨s, 0, none⟩), Value.int .i64 ((n0 : Nat) : Int), Value.int .i64 x]) Tryd.call18 rfl (from_w W0 s t0 ((n0 : Nat) : Int) x hj hx2 t1 t2 t3 t4 t5 n1 n2 n3 n4 n5 k1 h1 k2 h2 k3 h3 k4 h4 k5 h5)) (fun _ _ => ?_)
  refine Wl.imp (L' := (storeW s t5) :: (pt b2 52 [Value.pointer (some ⟨s, 0, none⟩), Value.int .i64 0]) :: (pt b1 33 [Value.int .i64 0, Value.int .i64 0, Value.int .i64 0, Value.int .i64 0, Value.int .i64 0, Value.int .i64 0]) :: F) (fun _ h => h) ?_
  refine Wl.q (v := Value.agg #[Value.int .i64 ((n0 : Nat) : Int), Value.int .i64 ((n1 : Nat) : Int), Value.int .i64 ((n2 : Nat) : Int), Value.int .i64 ((n3 : Nat) : Int), Value.int .i64 ((n4 : Nat) : Int), Value.int .i64 ((n5 : Nat) : Int)]) (q_extract (i := 0) rfl rfl) ?_
  refine Wl.q (v := Value.int .i64 0) (q_extract (i := 1) rfl rfl) ?_
  refine Wl.e (e_storeAgg (i := 2) (vs := [Value.int .i64 ((n0 : Nat) : Int), Value.int .i64 ((n1 : Nat) : Int), Value.int .i64 ((n2 : Nat) : Int), Value.int .i64 ((n3 : Nat) : Int), Value.int .i64 ((n4 : Nat) : Int), Value.int .i64 ((n5 : Nat) : Int)]) (c' := [Value.int .i64 ((n0 : Nat) : Int), Value.int .i64 ((n1 : Nat) : Int), Value.int .i64 ((n2 : Nat) : Int), Value.int .i64 ((n3 : Nat) : Int), Value.int .i64 ((n4 : Nat) : Int), Value.int .i64 ((n5 : Nat) : Int)]) sz_33 rfl rfl rfl rfl (by simp) rfl) (fun _ _ => ?_)
  refine Wl.imp (L' := (storeW s t5) :: (pt b2 52 [Value.pointer (some ⟨s, 0, none⟩), Value.int .i64 0]) :: (pt b1 33 [Value.int .i64 ((n0 : Nat) : Int), Value.int .i64 ((n1 : Nat) : Int), Value.int .i64 ((n2 : Nat) : Int), Value.int .i64 ((n3 : Nat) : Int), Value.int .i64 ((n4 : Nat) : Int), Value.int .i64 ((n5 : Nat) : Int)]) :: F) (fun _ h => h) ?_
  refine Wl.q (v := Value.int .i64 0) (q_assign rfl) ?_
  refine Wl.done ?_
  refine Wx.go ?_
  refine Wc.ret ?_
  refine Wx.finA2 (vs := [Value.int .i64 ((n0 : Nat) : Int), Value.int .i64 ((n1 : Nat) : Int), Value.int .i64 ((n2 : Nat) : Int), Value.int .i64 ((n3 : Nat) : Int), Value.int .i64 ((n4 : Nat) : Int), Value.int .i64 ((n5 : Nat) : Int)]) rfl (.inl rfl) ag_33 rfl (Has.of_pt (i := 2) rfl rfl) (fun w hs => ?_)
  exact ⟨(), trivial, rfl, (st_drop (st_drop (st_pull [1, 1] hs)))⟩

theorem next_c (W0 : World) (s : Nat) (ts : List TermR) (i c x : Int) (hi : 1 ≤ i ∧ i ≤ (ts.length : Int)) (hc : 1 ≤ c ∧ c ≤ (ts.length : Int)) (hx : 1 ≤ x ∧ x ≤ (ts.length : Int)) (hl : ts.length ≤ 1000000) :
    Con Tryd.prog W0 6 #[.pointer (some ⟨s, 0, none⟩), .int .i64 i, .int .i64 c, .int .i64 x] [storeW s ts] (X := Unit) (fun _ => True) (fun _ => .tuple #[.agg #[.int .i64 ((stJ ts i c).2.1 : Int), .int .i64 ((nextR ts i c x).e.2.1 : Int), .int .i64 ((nextR ts i c x).a.2.1 : Int), .int .i64 ((nextR ts i c x).b.2.1 : Int), .int .i64 ((nextR ts i c x).c.2.1 : Int), .int .i64 ((nextR ts i c x).d.2.1 : Int)], .int .i64 0]) (fun _ => [storeW s (nextR ts i c x).d.1]) := by
  have m1 := made_pair hi hc (by omega)
  have l1 := m1.len
  have u1 := m1.up
  have m2 := made_kdf (ts := (stP ts i c).1) (l := 3) (a := ((stP ts i c).2.1 : Int)) (b := 0) (by omega) ⟨m1.pos, m1.le⟩ (.inr rfl) (by unfold stP; omega)
  have l2 := m2.len
  have u2 := m2.up
  have p2 := m2.pos
  have q2 := m2.le
  have e1 : (stP ts i c).1.length = (mk ts ⟨3, 0, i, c⟩).1.length := rfl
  have e2 : (stJ ts i c).1.length = (mk (stP ts i c).1 ⟨4, 3, ((stP ts i c).2.1 : Int), 0⟩).1.length := rfl
  have m3 := made_kdf (ts := (stJ ts i c).1) (l := 4) (a := ((stJ ts i c).2.1 : Int)) (b := x) (by omega) ⟨m2.pos, m2.le⟩ (.inl ⟨hx.1, by omega⟩) (by omega)
  have l3 := m3.len
  have u3 := m3.up
  have p3 := m3.pos
  have q3 := m3.le
  have m4 := made_kdf (l := 5) (b := 0) (by omega) ⟨m3.pos, m3.le⟩ (.inr rfl) (by omega)
  have l4 := m4.len
  have u4 := m4.up
  have m5 := made_kdf (ts := (mk (mk (stJ ts i c).1 ⟨4, 4, ((stJ ts i c).2.1 : Int), x⟩).1 ⟨4, 5, ((mk (stJ ts i c).1 ⟨4, 4, ((stJ ts i c).2.1 : Int), x⟩).2.1 : Int), 0⟩).1) (l := 6) (a := ((mk (stJ ts i c).1 ⟨4, 4, ((stJ ts i c).2.1 : Int), x⟩).2.1 : Int)) (b := 0) (by omega) ⟨m3.pos, by omega⟩ (.inr rfl) (by omega)
  have l5 := m5.len
  have u5 := m5.up
  have m6 := made_kdf (ts := (nextR ts i c x).b.1) (l := 7) (a := ((nextR ts i c x).e.2.1 : Int)) (b := 0) (by omega) ⟨m3.pos, by show _ ≤ ((nextR ts i c x).b.1.length : Int); have : ((nextR ts i c x).e.2.1 : Int) ≤ ((nextR ts i c x).e.1.length : Int) := q3; have h2 : (nextR ts i c x).e.1.length ≤ (nextR ts i c x).a.1.length := u4; have h3 : (nextR ts i c x).a.1.length ≤ (nextR ts i c x).b.1.length := u5; omega⟩ (.inr rfl) (by
    have h1 : (nextR ts i c x).b.1.length ≤ (nextR ts i c x).a.1.length + 1 := l5
    have h2 : (nextR ts i c x).a.1.length ≤ (nextR ts i c x).e.1.length + 1 := l4
    have h3 : (nextR ts i c x).e.1.length ≤ (stJ ts i c).1.length + 1 := l3
    omega)
  have l6 := m6.len
  have u6 := m6.up
  have m7 := made_kdf (ts := (nextR ts i c x).c.1) (l := 8) (a := ((nextR ts i c x).e.2.1 : Int)) (b := 0) (by omega) ⟨m3.pos, by
    have : ((nextR ts i c x).e.2.1 : Int) ≤ ((nextR ts i c x).e.1.length : Int) := q3; have h2 : (nextR ts i c x).e.1.length ≤ (nextR ts i c x).a.1.length := u4; have h3 : (nextR ts i c x).a.1.length ≤ (nextR ts i c x).b.1.length := u5; have h4 : (nextR ts i c x).b.1.length ≤ (nextR ts i c x).c.1.length := u6; omega⟩ (.inr rfl) (by
    have h0 : (nextR ts i c x).c.1.length ≤ (nextR ts i c x).b.1.length + 1 := l6
    have h1 : (nextR ts i c x).b.1.length ≤ (nextR ts i c x).a.1.length + 1 := l5
    have h2 : (nextR ts i c x).a.1.length ≤ (nextR ts i c x).e.1.length + 1 := l4
    have h3 : (nextR ts i c x).e.1.length ≤ (stJ ts i c).1.length + 1 := l3
    omega)
  exact next_w W0 _ _ _ _ _ _ _ _ _ _ _ _ _ _ s ts i c x hi hc hx ⟨hx.1, by omega⟩ ⟨m2.pos, m2.le⟩ m1.ok m1.eq m2.ok m2.eq m3.ok m3.eq m4.ok m4.eq m5.ok m5.eq m6.ok m6.eq m7.ok m7.eq

end Go.Proofs.YtoehhbapilfdbaaDoor
