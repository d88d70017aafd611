/- What follows: contracts of the calls. -/
import Derived.Test.YtjjghmkjdgogiaaGreatDoorDdLv
import Derived.Test.YtjjghmkjdgogiaaGreatDoorChQ
namespace Go.Proofs.YtjjghmkjdgogiaaGreatDoor
open Go Go.SL Go.Dd Go.RowKit
set_option linter.unusedVariables false
set_option maxRecDepth 8000
theorem zo_108 : zeroOf Tryz.prog 108 = some (Value.agg #[Value.slice none 0 0]) := by kernel_rfl
theorem fo_108_0 : fieldOff Tryz.prog 108 0 = some 0 := by kernel_rfl
theorem sc_23 : scalar Tryz.prog 23 = true := by kernel_rfl
theorem sz_23 : sizeIs Tryz.prog 23 = some 1 := by kernel_rfl
theorem rget_no_o (W0 : World) (r : Nat) (v : Value) (ts : List TermR) (x : Int) (h : ¬ (1 ≤ x ∧ x ≤ (ts.length : Int))) :
  Con Tryz.prog W0 21 #[Value.pointer (some ⟨r, 0, none⟩), Value.int .i64 x] [pt r 118 [v], sl 89 4 v ts.length (ts.flatMap termCells)] (X := Unit) (fun _ => True) (fun _ => .tuple #[Value.agg #[Value.int .u8 0, Value.int .i64 0, Value.int .i64 0, Value.int .i64 0], .bool false]) (fun _ => [pt r 118 [v], sl 89 4 v ts.length (ts.flatMap termCells)]) := by
 refine Con.of (args := [Value.pointer (some ⟨r, 0, none⟩), Value.int .i64 x]) Tryz.func21 rfl Tryz.ntmps21 rfl (fun F => ?_)
 show Wc _ W0 _ _ _ _ _ ((pt r 118 [v]) :: (sl 89 4 v ts.length (ts.flatMap termCells)) :: F)
 refine Wc.seq ?_
 refine Wc.region ?_
 refine Wl.e (e_alloc (vs := [Value.int .u8 0, Value.int .i64 0, Value.int .i64 0, Value.int .i64 0]) zo_89 rfl) (fun b1 _ => ?_)
 refine Wl.imp (L' := (pt b1 89 [Value.int .u8 0, Value.int .i64 0, Value.int .i64 0, Value.int .i64 0]) :: (pt r 118 [v]) :: (sl 89 4 v ts.length (ts.flatMap termCells)) :: F) (fun _ h => h) ?_
 refine Wl.q (v := Value.bool false) (q_assign rfl) ?_
 refine Wl.done ?_
 refine Wx.go ?_
 refine Wc.seq ?_
 refine Wc.seq ?_
 refine Wc.region ?_
 refine Wl.q (v := Value.pointer (some ⟨r, 0, none⟩)) (q_move rfl) ?_
 refine Wl.q (v := Value.int .i64 x) (q_move rfl) ?_
 refine Wl.imp (L' := (pt r 118 [v]) :: (sl 89 4 v ts.length (ts.flatMap termCells)) :: (pt b1 89 [Value.int .u8 0, Value.int .i64 0, Value.int .i64 0, Value.int .i64 0]) :: F) (fun _ h => st_pull [1, 1] h) ?_
 refine Wl.e (e_call (F := (pt b1 89 [Value.int .u8 0, Value.int .i64 0, Value.int .i64 0, Value.int .i64 0]) :: F) (args := [Value.pointer (some ⟨r, 0, none⟩), Value.int .i64 x]) Tryz.call138 rfl (rthere_no W0 r (v) ts.length (ts.flatMap termCells) x h)) (fun _ _ => ?_)
 refine Wl.imp (L' := (pt r 118 [v]) :: (sl 89 4 v ts.length (ts.flatMap termCells)) :: (pt b1 89 [Value.int .u8 0, Value.int .i64 0, Value.int .i64 0, Value.int .i64 0]) :: F) (fun _ h => h) ?_
 refine Wl.q (v := Value.bool true) (q_not rfl rfl) ?_
 refine Wl.done ?_
 refine Wx.go ?_
 refine Wc.yes rfl ?_
 refine Wc.seq ?_
 refine Wc.region ?_
 refine Wl.q (v := Value.agg #[Value.int .u8 0, Value.int .i64 0, Value.int .i64 0, Value.int .i64 0]) (q_build (pl := [(0, 1), (1, 1), (2, 1), (3, 1)]) Tryz.underlying89 zo_89 (by kernel_rfl) (by kernel_rfl)) ?_
 refine Wl.e (e_storeAgg (i := 2) (vs := [Value.int .u8 0, Value.int .i64 0, Value.int .i64 0, Value.int .i64 0]) (c' := [Value.int .u8 0, Value.int .i64 0, Value.int .i64 0, Value.int .i64 0]) sz_89 rfl rfl rfl rfl (by simp) rfl) (fun _ _ => ?_)
 refine Wl.imp (L' := (pt r 118 [v]) :: (sl 89 4 v ts.length (ts.flatMap termCells)) :: (pt b1 89 [Value.int .u8 0, Value.int .i64 0, Value.int .i64 0, Value.int .i64 0]) :: F) (fun _ h => h) ?_
 refine Wl.q (v := Value.bool false) (q_assign rfl) ?_
 refine Wl.done ?_
 refine Wx.go ?_
 refine Wc.ret ?_
 refine Wx.thenRet ?_
 refine Wx.finA2 (vs := [Value.int .u8 0, Value.int .i64 0, Value.int .i64 0, Value.int .i64 0]) rfl (.inl rfl) ag_89 rfl (Has.of_pt (i := 2) rfl rfl) (fun w hs => ?_)
 exact ⟨(), trivial, rfl, (st_drop (st_pull [2] hs))⟩

theorem rget_no_w (W0 : World) (r : Nat) (ts : List TermR) (x : Int) (h : ¬ (1 ≤ x ∧ x ≤ (ts.length : Int))) : Con Tryz.prog W0 21 #[Value.pointer (some ⟨r, 0, none⟩), Value.int .i64 x] [refW r ts] (X := Unit) (fun _ => True) (fun _ => .tuple #[Value.agg #[Value.int .u8 0, Value.int .i64 0, Value.int .i64 0, Value.int .i64 0], .bool false]) (fun _ => [refW r ts]) := Con.refW fun hw hl => Con.ref fun v =>
 (rget_no_o W0 r v ts x h).mono fun _ _ => ⟨(), trivial, rfl, fun _ _ h => refW_mk hw hl (refI_mk h)⟩
theorem rget_w (W0 : World) (r : Nat) (ts : List TermR) (x : Int) (t : TermR) (h1 : 1 ≤ x) (hx : ts[(x - 1).toNat]? = some t) : Con Tryz.prog W0 21 #[Value.pointer (some ⟨r, 0, none⟩), Value.int .i64 x] [refW r ts] (X := Unit) (fun _ => True) (fun _ => .tuple #[Value.agg #[Value.int .u8 ((t.kind : Nat) : Int), Value.int .i64 t.n, Value.int .i64 t.a, Value.int .i64 t.b], .bool true]) (fun _ => [refW r ts]) := Con.refW fun hw hl =>
 (rget_c W0 r ts x hl t h1 hx).mono fun _ _ => ⟨(), trivial, rfl, fun _ _ h => refW_mk hw hl h⟩

theorem rone_w (W0 : World) (r : Nat) (ts ts2 : List TermR) (x : Int) (n : Nat) (ht : okT ⟨2, x, 0, 0⟩) (h : mk ts ⟨2, x, 0, 0⟩ = (ts2, n, 0)) :
  Con Tryz.prog W0 139 #[Value.pointer (some ⟨r, 0, none⟩), Value.int .i64 x] [refW r ts] (X := Unit) (fun _ => True) (fun _ => .int .i64 ((n : Nat) : Int)) (fun _ => [refW r ts2]) := by
 refine Con.of (args := [Value.pointer (some ⟨r, 0, none⟩), Value.int .i64 x]) Tryz.func139 rfl Tryz.ntmps139 rfl (fun F => ?_)
 show Wc _ W0 _ _ _ _ _ ((refW r ts) :: F)
 refine Wc.seq ?_
 refine Wc.region ?_
 refine Wl.q (v := Value.int .i64 0) (q_assign rfl) ?_
 refine Wl.done ?_
 refine Wx.go ?_
 refine Wc.seq ?_
 refine Wc.region ?_
 refine Wl.q (v := Value.pointer (some ⟨r, 0, none⟩)) (q_move rfl) ?_
 refine Wl.q (v := Value.int .i64 x) (q_move rfl) ?_
 refine Wl.q (v := Value.agg #[Value.int .u8 2, Value.int .i64 x, Value.int .i64 0, Value.int .i64 0]) (q_build (pl := [(0, 1), (1, 1), (2, 1), (3, 1)]) Tryz.underlying89 zo_89 (by kernel_rfl) (by kernel_rfl)) ?_
 refine Wl.e (e_call (F := F) (args := [Value.pointer (some ⟨r, 0, none⟩), Value.agg #[Value.int .u8 2, Value.int .i64 x, Value.int .i64 0, Value.int .i64 0]]) Tryz.call19 rfl (rmake_w W0 r ts ts2 (⟨2, x, 0, 0⟩ : TermR) n _ 0 ht h rfl)) (fun _ _ => ?_)
 refine Wl.imp (L' := (refW r ts2) :: F) (fun _ h => h) ?_
 refine Wl.q (v := Value.tuple #[Value.int .i64 ((n : Nat) : Int), Value.int .i64 0]) (q_move rfl) ?_
 refine Wl.q (v := Value.int .i64 ((n : Nat) : Int)) (q_extract (i := 0) rfl rfl) ?_
 refine Wl.q (v := Value.int .i64 0) (q_extract (i := 1) rfl rfl) ?_
 refine Wl.q (v := Value.int .i64 ((n : Nat) : Int)) (q_assign rfl) ?_
 refine Wl.q (v := Value.int .i64 0) (q_assign rfl) ?_
 refine Wl.done ?_
 refine Wx.go ?_
 refine Wc.seq ?_
 refine Wc.region ?_
 refine Wl.q (v := Value.int .i64 ((n : Nat) : Int)) (q_move rfl) ?_
 refine Wl.q (v := Value.int .i64 ((n : Nat) : Int)) (q_assign rfl) ?_
 refine Wl.done ?_
 refine Wx.go ?_
 refine Wc.ret ?_
 refine Wx.fin1 rfl (.inl rfl) (fun w hs => ?_)
 exact ⟨(), trivial, rfl, hs⟩

theorem rkdf_w (W0 : World) (r : Nat) (ts ts2 : List TermR) (l a b : Int) (n : Nat) (ht : okT ⟨4, l, a, b⟩) (h : mk ts ⟨4, l, a, b⟩ = (ts2, n, 0)) :
  Con Tryz.prog W0 27 #[Value.pointer (some ⟨r, 0, none⟩), Value.int .i64 l, Value.int .i64 a, Value.int .i64 b] [refW r ts] (X := Unit) (fun _ => True) (fun _ => .int .i64 ((n : Nat) : Int)) (fun _ => [refW r ts2]) := by
 refine Con.of (args := [Value.pointer (some ⟨r, 0, none⟩), Value.int .i64 l, Value.int .i64 a, Value.int .i64 b]) Tryz.func27 rfl Tryz.ntmps27 rfl (fun F => ?_)
 show Wc _ W0 _ _ _ _ _ ((refW r ts) :: F)
 refine Wc.seq ?_
 refine Wc.region ?_
 refine Wl.q (v := Value.int .i64 0) (q_assign rfl) ?_
 refine Wl.done ?_
 refine Wx.go ?_
 refine Wc.seq ?_
 refine Wc.region ?_
 refine Wl.q (v := Value.pointer (some ⟨r, 0, none⟩)) (q_move rfl) ?_
 refine Wl.q (v := Value.int .i64 l) (q_move rfl) ?_
 refine Wl.q (v := Value.int .i64 a) (q_move rfl) ?_
 refine Wl.q (v := Value.int .i64 b) (q_move rfl) ?_
 refine Wl.q (v := Value.agg #[Value.int .u8 4, Value.int .i64 l, Value.int .i64 a, Value.int .i64 b]) (q_build (pl := [(0, 1), (1, 1), (2, 1), (3, 1)]) Tryz.underlying89 zo_89 (by kernel_rfl) (by kernel_rfl)) ?_
 refine Wl.e (e_call (F := F) (args := [Value.pointer (some ⟨r, 0, none⟩), Value.agg #[Value.int .u8 4, Value.int .i64 l, Value.int .i64 a, Value.int .i64 b]]) Tryz.call19 rfl (rmake_w W0 r ts ts2 (⟨4, l, a, b⟩ : TermR) n _ 0 ht h rfl)) (fun _ _ => ?_)
 refine Wl.imp (L' := (refW r ts2) :: F) (fun _ h => h) ?_
 refine Wl.q (v := Value.tuple #[Value.int .i64 ((n : Nat) : Int), Value.int .i64 0]) (q_move rfl) ?_
 refine Wl.q (v := Value.int .i64 ((n : Nat) : Int)) (q_extract (i := 0) rfl rfl) ?_
 refine Wl.q (v := Value.int .i64 0) (q_extract (i := 1) rfl rfl) ?_
 refine Wl.q (v := Value.int .i64 ((n : Nat) : Int)) (q_assign rfl) ?_
 refine Wl.q (v := Value.int .i64 0) (q_assign rfl) ?_
 refine Wl.done ?_
 refine Wx.go ?_
 refine Wc.seq ?_
 refine Wc.region ?_
 refine Wl.q (v := Value.int .i64 ((n : Nat) : Int)) (q_move rfl) ?_
 refine Wl.q (v := Value.int .i64 ((n : Nat) : Int)) (q_assign rfl) ?_
 refine Wl.done ?_
 refine Wx.go ?_
 refine Wc.ret ?_
 refine Wx.fin1 rfl (.inl rfl) (fun w hs => ?_)
 exact ⟨(), trivial, rfl, hs⟩

theorem rbegin_w (W0 : World) (r : Nat) (ts : List TermR) (app x : Int) (hw : Wf ts) (ha : 1 ≤ app ∧ app ≤ (ts.length : Int)) (hx : i64R x) (hl : ts.length + 2 ≤ 1048576) :
  Con Tryz.prog W0 22 #[Value.pointer (some ⟨r, 0, none⟩), Value.int .i64 app, Value.int .i64 x] [refW r ts] (X := Unit) (fun _ => True) (fun _ => .int .i64 (((beginR ts app x).2 : Nat) : Int)) (fun _ => [refW r ((beginR ts app x).1)]) := by
 refine Con.of (args := [Value.pointer (some ⟨r, 0, none⟩), Value.int .i64 app, Value.int .i64 x]) Tryz.func22 rfl Tryz.ntmps22 rfl (fun F => ?_)
 obtain ⟨okd, hd1, hd2, Id⟩ := data_made (x := x) hw hx (by omega)
 have hdp := Id.pos
 have hdl := Id.len
 have hde := Id.ext.len
 simp only at hdp hdl hde
 obtain ⟨okk, hk1, hk2, Ik⟩ := kdf_made (l := 9) (a := app) (b := (((mk ts ⟨2, x, 0, 0⟩).2.1 : Nat) : Int)) Id.wf (by decide) (by simp only; omega) (.inl (by simp only; omega)) (by simp only; omega)
 show Wc _ W0 _ _ _ _ _ ((refW r ts) :: F)
 refine Wc.seq ?_
 refine Wc.region ?_
 refine Wl.q (v := Value.int .i64 0) (q_assign rfl) ?_
 refine Wl.done ?_
 refine Wx.go ?_
 refine Wc.seq ?_
 refine Wc.region ?_
 refine Wl.q (v := Value.pointer (some ⟨r, 0, none⟩)) (q_move rfl) ?_
 refine Wl.q (v := Value.int .i64 app) (q_move rfl) ?_
 refine Wl.q (v := Value.pointer (some ⟨r, 0, none⟩)) (q_move rfl) ?_
 refine Wl.q (v := Value.int .i64 x) (q_move rfl) ?_
 refine Wl.e (e_call (F := F) (args := [Value.pointer (some ⟨r, 0, none⟩), Value.int .i64 x]) Tryz.call139 rfl (rone_w W0 r ts (mk ts ⟨2, x, 0, 0⟩).1 x (mk ts ⟨2, x, 0, 0⟩).2.1 okd hd1)) (fun _ _ => ?_)
 refine Wl.imp (L' := (refW r ((mk ts ⟨2, x, 0, 0⟩).1)) :: F) (fun _ h => h) ?_
 refine Wl.e (e_call (F := F) (args := [Value.pointer (some ⟨r, 0, none⟩), Value.int .i64 9, Value.int .i64 app, Value.int .i64 (((mk ts ⟨2, x, 0, 0⟩).2.1 : Nat) : Int)]) Tryz.call27 rfl (rkdf_w W0 r ((mk ts ⟨2, x, 0, 0⟩).1) (mk ((mk ts ⟨2, x, 0, 0⟩).1) ⟨4, 9, app, (((mk ts ⟨2, x, 0, 0⟩).2.1 : Nat) : Int)⟩).1 9 app (((mk ts ⟨2, x, 0, 0⟩).2.1 : Nat) : Int) (mk ((mk ts ⟨2, x, 0, 0⟩).1) ⟨4, 9, app, (((mk ts ⟨2, x, 0, 0⟩).2.1 : Nat) : Int)⟩).2.1 okk hk1)) (fun _ _ => ?_)
 refine Wl.imp (L' := (refW r ((mk ((mk ts ⟨2, x, 0, 0⟩).1) ⟨4, 9, app, (((mk ts ⟨2, x, 0, 0⟩).2.1 : Nat) : Int)⟩).1)) :: F) (fun _ h => h) ?_
 refine Wl.q (v := Value.int .i64 (((mk ((mk ts ⟨2, x, 0, 0⟩).1) ⟨4, 9, app, (((mk ts ⟨2, x, 0, 0⟩).2.1 : Nat) : Int)⟩).2.1 : Nat) : Int)) (q_assign rfl) ?_
 refine Wl.done ?_
 refine Wx.go ?_
 refine Wc.ret ?_
 refine Wx.fin1 rfl (.inl rfl) (fun w hs => ?_)
 exact ⟨(), trivial, rfl, hs⟩

theorem across_w (W0 : World) (s r : Nat) (ts : List TermR) (hw : Wf ts) (hl : ts.length ≤ 20000) :
    Con Tryz.prog W0 11 #[Value.pointer (some ⟨s, 0, none⟩), Value.pointer (some ⟨r, 0, none⟩)] [storeW s ts, refW r ts] (X := Nat × Value) (fun _ => True) (fun y => .tuple #[.pointer (some ⟨y.1, 0, none⟩), .bool true]) (fun y => [pt y.1 108 [y.2], sl 3 1 y.2 (ts.length + 1) ((List.range (ts.length + 1)).map natV), storeW s ts, refW r ts]) := by
  refine Con.of (args := [Value.pointer (some ⟨s, 0, none⟩), Value.pointer (some ⟨r, 0, none⟩)]) Tryz.func11 rfl Tryz.ntmps11 rfl (fun F => ?_)
  show Wc _ W0 _ _ _ _ _ ((storeW s ts) :: (refW r ts) :: F)
  refine Wc.seq ?_
  refine Wc.region ?_
  refine Wl.q (v := Value.pointer none) (q_assign rfl) ?_
  refine Wl.q (v := Value.bool false) (q_assign rfl) ?_
  refine Wl.done ?_
  refine Wx.go ?_
  refine Wc.seq ?_
  refine Wc.region ?_
  refine Wl.e (e_buildSlice (cs := [Value.int .i64 0]) se_23 zo_3 (by decide) (by decide) (by kernel_rfl)) (fun b1 _ => ?_)
  refine Wl.imp (L' := (pt b1 3 [Value.int .i64 0]) :: (storeW s ts) :: (refW r ts) :: F) (fun _ h => h) ?_
  refine Wl.q (v := Value.agg #[Value.slice (some ⟨b1, 0, none⟩) 1 1]) (q_build (pl := [(0, 1)]) Tryz.underlying108 zo_108 (by kernel_rfl) (by kernel_rfl)) ?_
  refine Wl.e (e_box (x := .tmp 13) (vs := [Value.slice (some ⟨b1, 0, none⟩) 1 1]) rfl) (fun m _ => ?_)
  refine Wl.imp (L' := (pt m 108 [Value.slice (some ⟨b1, 0, none⟩) 1 1]) :: (pt b1 3 [Value.int .i64 0]) :: (storeW s ts) :: (refW r ts) :: F) (fun _ h => h) ?_
  refine Wl.q (v := Value.pointer (some ⟨m, 0, none⟩)) (q_assign rfl) ?_
  refine Wl.done ?_
  refine Wx.go ?_
  refine Wc.seq ?_
  refine Wc.seq ?_
  refine Wc.region ?_
  refine Wl.q (v := Value.pointer (some ⟨s, 0, none⟩)) (q_move rfl) ?_
  refine Wl.imp (L' := (storeW s ts) :: (pt m 108 [Value.slice (some ⟨b1, 0, none⟩) 1 1]) :: (pt b1 3 [Value.int .i64 0]) :: (refW r ts) :: F) (fun _ h => st_pull [2] h) ?_
  refine Wl.e (e_call (F := (pt m 108 [Value.slice (some ⟨b1, 0, none⟩) 1 1]) :: (pt b1 3 [Value.int .i64 0]) :: (refW r ts) :: F) (args := [Value.pointer (some ⟨s, 0, none⟩)]) Tryz.call28 rfl (len_w W0 s ts _ rfl)) (fun _ _ => ?_)
  refine Wl.imp (L' := (storeW s ts) :: (pt m 108 [Value.slice (some ⟨b1, 0, none⟩) 1 1]) :: (pt b1 3 [Value.int .i64 0]) :: (refW r ts) :: F) (fun _ h => h) ?_
  refine Wl.q (v := Value.bool false) (q_gtr (r := false) rfl rfl (decide_eq_false (by omega))) ?_
  refine Wl.done ?_
  refine Wx.go ?_
  refine Wc.no rfl ?_
  refine Wc.skip ?_
  refine Wx.go ?_
  refine Wc.seq ?_
  refine Wc.seq ?_
  refine Wc.region ?_
  refine Wl.q (v := Value.int .i64 1) (q_assign rfl) ?_
  refine Wl.done ?_
  refine Wx.go ?_
  refine Wc.block ?_
  refine Wc.loop (X := Nat × Value) (fun (n, v) E => E 7 = Value.int .i64 ((n : Nat) : Int) ∧ E 0 = Value.pointer (some ⟨s, 0, none⟩) ∧ E 1 = Value.pointer (some ⟨r, 0, none⟩) ∧ E 6 = Value.pointer (some ⟨m, 0, none⟩) ∧ 1 ≤ n ∧ n ≤ ts.length + 1) (fun (n, v) => (pt m 108 [v]) :: (sl 3 1 v n ((List.range n).map natV)) :: (storeW s ts) :: (refW r ts) :: F) (fun (n, v) => ts.length + 1 - n) (1, Value.slice (some ⟨b1, 0, none⟩) 1 1) ?_ ?_ ?_
  · exact ⟨rfl, rfl, rfl, rfl, (Nat.le_refl _), (by omega)⟩
  · exact fun w hs => st_swap (st_sl_mk (e := 3) rfl (by decide) (st_slp_pt rfl (by decide) (st_pull [2, 1, 0, 0] (hs))))
  · rintro ⟨n, v⟩ E3 ⟨hE7_1, hE0_1, hE1_1, hE6_1, hn1, hn2⟩
    dsimp only at *
    refine Wc.seq ?_
    refine Wc.seq ?_
    refine Wc.region ?_
    refine Wl.q (v := Value.int .i64 ((n : Nat) : Int)) (q_move hE7_1) ?_
    refine Wl.q (v := Value.pointer (some ⟨s, 0, none⟩)) (q_move hE0_1) ?_
    refine Wl.imp (L' := (storeW s ts) :: (pt m 108 [v]) :: (sl 3 1 v n ((List.range n).map natV)) :: (refW r ts) :: F) (fun _ h => st_pull [2] h) ?_
    refine Wl.e (e_call (F := (pt m 108 [v]) :: (sl 3 1 v n ((List.range n).map natV)) :: (refW r ts) :: F) (args := [Value.pointer (some ⟨s, 0, none⟩)]) Tryz.call28 rfl (len_w W0 s ts _ rfl)) (fun _ _ => ?_)
    refine Wl.imp (L' := (storeW s ts) :: (pt m 108 [v]) :: (sl 3 1 v n ((List.range n).map natV)) :: (refW r ts) :: F) (fun _ h => h) ?_
    by_cases hlt : ((n : Nat) : Int) ≤ ((ts.length : Nat) : Int)
    ·
      obtain ⟨t, hx⟩ : ∃ t, ts[(((n : Nat) : Int) - 1).toNat]? = some t := ⟨_, List.getElem?_eq_getElem (by omega)⟩
      have hat : atN ts n = some t := by unfold atN; rw [if_neg (by omega), ← hx]; congr 1; omega
      have hpt := hw.parts hat
      have hok := hw.2 _ _ hx
      have hth := mk_there hw hat
      refine Wl.sl (i := 2) (m := n) rfl (by omega) (fun vb vc hv hcl => ?_)
      subst hv
      refine Wl.q (v := Value.bool true) (q_leq (r := true) rfl rfl (decide_eq_true hlt)) ?_
      refine Wl.done ?_
      refine Wx.go ?_
      refine Wc.yes rfl ?_
      refine Wc.skip ?_
      refine Wx.go ?_
      refine Wc.seq ?_
      refine Wc.block ?_
      refine Wc.seq ?_
      refine Wc.region ?_
      refine Wl.q (v := Value.pointer (some ⟨s, 0, none⟩)) (q_move hE0_1) ?_
      refine Wl.q (v := Value.int .i64 ((n : Nat) : Int)) (q_move hE7_1) ?_
      refine Wl.e (e_call (F := (pt m 108 [Value.slice (some ⟨vb, 0, none⟩) n vc]) :: (slp 3 1 vb vc ((List.range n).map natV)) :: (refW r ts) :: F) (args := [Value.pointer (some ⟨s, 0, none⟩), Value.int .i64 ((n : Nat) : Int)]) Tryz.call29 rfl (get_w W0 s ts ((n : Nat) : Int) t (by omega) hx)) (fun _ _ => ?_)
      refine Wl.imp (L' := (storeW s ts) :: (pt m 108 [Value.slice (some ⟨vb, 0, none⟩) n vc]) :: (slp 3 1 vb vc ((List.range n).map natV)) :: (refW r ts) :: F) (fun _ h => h) ?_
      refine Wl.q (v := Value.tuple #[Value.agg #[Value.int .u8 ((t.kind : Nat) : Int), Value.int .i64 t.n, Value.int .i64 t.a, Value.int .i64 t.b], Value.bool true]) (q_move rfl) ?_
      refine Wl.q (v := Value.agg #[Value.int .u8 ((t.kind : Nat) : Int), Value.int .i64 t.n, Value.int .i64 t.a, Value.int .i64 t.b]) (q_extract (i := 0) rfl rfl) ?_
      refine Wl.q (v := Value.bool true) (q_extract (i := 1) rfl rfl) ?_
      refine Wl.e (e_alloc (vs := [Value.int .u8 0, Value.int .i64 0, Value.int .i64 0, Value.int .i64 0]) zo_89 rfl) (fun tb _ => ?_)
      refine Wl.imp (L' := (pt tb 89 [Value.int .u8 0, Value.int .i64 0, Value.int .i64 0, Value.int .i64 0]) :: (storeW s ts) :: (pt m 108 [Value.slice (some ⟨vb, 0, none⟩) n vc]) :: (slp 3 1 vb vc ((List.range n).map natV)) :: (refW r ts) :: F) (fun _ h => h) ?_
      refine Wl.e (e_storeAgg (i := 0) (vs := [Value.int .u8 ((t.kind : Nat) : Int), Value.int .i64 t.n, Value.int .i64 t.a, Value.int .i64 t.b]) (c' := [Value.int .u8 ((t.kind : Nat) : Int), Value.int .i64 t.n, Value.int .i64 t.a, Value.int .i64 t.b]) sz_89 rfl rfl rfl rfl (by simp) rfl) (fun _ _ => ?_)
      refine Wl.imp (L' := (pt tb 89 [Value.int .u8 ((t.kind : Nat) : Int), Value.int .i64 t.n, Value.int .i64 t.a, Value.int .i64 t.b]) :: (storeW s ts) :: (pt m 108 [Value.slice (some ⟨vb, 0, none⟩) n vc]) :: (slp 3 1 vb vc ((List.range n).map natV)) :: (refW r ts) :: F) (fun _ h => h) ?_
      refine Wl.q (v := Value.bool true) (q_assign rfl) ?_
      refine Wl.done ?_
      refine Wx.go ?_
      refine Wc.seq ?_
      refine Wc.seq ?_
      refine Wc.region ?_
      refine Wl.q (v := Value.bool true) (q_move rfl) ?_
      refine Wl.q (v := Value.bool false) (q_not rfl rfl) ?_
      refine Wl.q (v := Value.bool false) (q_move rfl) ?_
      refine Wl.q (v := Value.pointer (some ⟨tb, 2, none⟩)) (q_field (m := 2) fo_89_2 rfl rfl) ?_
      refine Wl.q (v := Value.int .i64 t.a) (q_load sc_3 rfl (.cel (i := 0) rfl rfl)) ?_
      refine Wl.q (v := Value.bool false) (q_lss (r := false) rfl rfl (decide_eq_false (by omega))) ?_
      refine Wl.q (v := Value.bool false) (q_pick (t := false) rfl rfl) ?_
      refine Wl.q (v := Value.bool false) (q_move rfl) ?_
      refine Wl.q (v := Value.pointer (some ⟨tb, 3, none⟩)) (q_field (m := 3) fo_89_3 rfl rfl) ?_
      refine Wl.q (v := Value.int .i64 t.b) (q_load sc_3 rfl (.cel (i := 0) rfl rfl)) ?_
      refine Wl.q (v := Value.bool false) (q_lss (r := false) rfl rfl (decide_eq_false (by omega))) ?_
      refine Wl.q (v := Value.bool false) (q_pick (t := false) rfl rfl) ?_
      refine Wl.q (v := Value.bool false) (q_move rfl) ?_
      refine Wl.q (v := Value.pointer (some ⟨tb, 2, none⟩)) (q_field (m := 2) fo_89_2 rfl rfl) ?_
      refine Wl.q (v := Value.int .i64 t.a) (q_load sc_3 rfl (.cel (i := 0) rfl rfl)) ?_
      refine Wl.q (v := Value.int .i64 ((n : Nat) : Int)) (q_move hE7_1) ?_
      refine Wl.q (v := Value.bool false) (q_geq (r := false) rfl rfl (decide_eq_false (by omega))) ?_
      refine Wl.q (v := Value.bool false) (q_pick (t := false) rfl rfl) ?_
      refine Wl.q (v := Value.bool false) (q_move rfl) ?_
      refine Wl.q (v := Value.pointer (some ⟨tb, 3, none⟩)) (q_field (m := 3) fo_89_3 rfl rfl) ?_
      refine Wl.q (v := Value.int .i64 t.b) (q_load sc_3 rfl (.cel (i := 0) rfl rfl)) ?_
      refine Wl.q (v := Value.int .i64 ((n : Nat) : Int)) (q_move hE7_1) ?_
      refine Wl.q (v := Value.bool false) (q_geq (r := false) rfl rfl (decide_eq_false (by omega))) ?_
      refine Wl.q (v := Value.bool false) (q_pick (t := false) rfl rfl) ?_
      refine Wl.done ?_
      refine Wx.go ?_
      refine Wc.no rfl ?_
      refine Wc.skip ?_
      refine Wx.go ?_
      refine Wc.seq ?_
      refine Wc.drawsS [9] ((pt tb 89 [Value.int .u8 ((t.kind : Nat) : Int), Value.int .i64 t.n, Value.int .i64 t.a, Value.int .i64 t.b]) :: (storeW s ts) :: (pt m 108 [Value.slice (some ⟨vb, 0, none⟩) n vc]) :: (slp 3 1 vb vc ((List.range n).map natV)) :: (refW r ts) :: []) (by kernel_rfl) ?_
      refine Wr.pure (v := Value.pointer (some ⟨m, 0, none⟩)) 0 rfl (by kernel_rfl) (.inr (fun _ h => st_take [0, 0, 0, 0, 0] h)) (.inl ⟨rfl, fun _ => q_move hE6_1⟩) ?_
      refine Wr.pure (v := Value.pointer (some ⟨m, 0, none⟩)) 1 rfl (by kernel_rfl) (.inr (fun _ h => st_take [0, 0, 0, 0, 0] h)) (.inl ⟨rfl, fun _ => q_nil_ptr rfl⟩) ?_
      refine Wr.pure (v := Value.pointer (some ⟨m, 0, none⟩)) 2 rfl (by kernel_rfl) (.inr (fun _ h => st_take [0, 0, 0, 0, 0] h)) (.inl ⟨rfl, fun _ => q_field (m := 0) fo_108_0 rfl rfl⟩) ?_
      refine Wr.take (v := Value.slice (some ⟨vb, 0, none⟩) n vc) 3 rfl (by kernel_rfl) (fun _ h => st_take [0, 0, 0, 0, 0] h) (.inl ⟨rfl, q_load sc_23 rfl (.cel (i := 2) rfl rfl)⟩) ?_
      refine Wr.pure (v := Value.pointer (some ⟨tb, 2, none⟩)) 4 rfl (by kernel_rfl) (.inr (fun _ h => st_take [0, 0, 0, 0, 0] h)) (.inl ⟨rfl, fun _ => q_field (m := 2) fo_89_2 rfl rfl⟩) ?_
      refine Wr.take (v := Value.int .i64 t.a) 5 rfl (by kernel_rfl) (fun _ h => st_take [0, 0, 0, 0, 0] h) (.inl ⟨rfl, q_load sc_3 rfl (.cel (i := 0) rfl rfl)⟩) ?_
      refine Wr.pure (v := Value.pointer (some ⟨vb, (t.a).toNat, none⟩)) 6 rfl (by kernel_rfl) (.inr (fun _ h => st_take [0, 0, 0, 0, 0] h)) (.inl ⟨rfl, fun _ => q_idx (m := (t.a).toNat) se_23 rfl rfl (by omega) (by omega) (by simp)⟩) ?_
      refine Wr.take (v := Value.int .i64 t.a) 7 rfl (by kernel_rfl) (fun _ h => st_take [0, 0, 0, 0, 0] h) (.inl ⟨rfl, q_load sc_3 rfl (.row (i := 3) rfl (range_at (n := n) (by omega) (by omega)))⟩) ?_
      refine Wr.pure (v := Value.pointer (some ⟨tb, 2, none⟩)) 8 rfl (by kernel_rfl) (.inr (fun _ h => st_take [0, 0, 0, 0, 0] h)) (.inl ⟨rfl, fun _ => q_field (m := 2) fo_89_2 rfl rfl⟩) ?_
      refine Wr.e 9 (by kernel_rfl) rfl (e_store (i := 0) (v := Value.int .i64 t.a) sz_3 rfl rfl (fun _ _ => rfl) rfl (by simp)) (.inl (by kernel_rfl)) (fun _ _ => ?_)
      refine Wr.imp (L' := (pt tb 89 [Value.int .u8 ((t.kind : Nat) : Int), Value.int .i64 t.n, Value.int .i64 t.a, Value.int .i64 t.b]) :: (storeW s ts) :: (pt m 108 [Value.slice (some ⟨vb, 0, none⟩) n vc]) :: (slp 3 1 vb vc ((List.range n).map natV)) :: (refW r ts) :: F) (fun _ h => h) ?_
      refine Wr.rebaseS [] ((pt tb 89 [Value.int .u8 ((t.kind : Nat) : Int), Value.int .i64 t.n, Value.int .i64 t.a, Value.int .i64 t.b]) :: (storeW s ts) :: (pt m 108 [Value.slice (some ⟨vb, 0, none⟩) n vc]) :: (slp 3 1 vb vc ((List.range n).map natV)) :: (refW r ts) :: []) (by kernel_rfl) ?_
      refine Wr.done (by kernel_rfl) ?_
      refine Wx.go ?_
      refine Wc.seq ?_
      refine Wc.drawsS [9] ((pt tb 89 [Value.int .u8 ((t.kind : Nat) : Int), Value.int .i64 t.n, Value.int .i64 t.a, Value.int .i64 t.b]) :: (storeW s ts) :: (pt m 108 [Value.slice (some ⟨vb, 0, none⟩) n vc]) :: (slp 3 1 vb vc ((List.range n).map natV)) :: (refW r ts) :: []) (by kernel_rfl) ?_
      refine Wr.pure (v := Value.pointer (some ⟨m, 0, none⟩)) 0 rfl (by kernel_rfl) (.inr (fun _ h => st_take [0, 0, 0, 0, 0] h)) (.inl ⟨rfl, fun _ => q_move hE6_1⟩) ?_
      refine Wr.pure (v := Value.pointer (some ⟨m, 0, none⟩)) 1 rfl (by kernel_rfl) (.inr (fun _ h => st_take [0, 0, 0, 0, 0] h)) (.inl ⟨rfl, fun _ => q_nil_ptr rfl⟩) ?_
      refine Wr.pure (v := Value.pointer (some ⟨m, 0, none⟩)) 2 rfl (by kernel_rfl) (.inr (fun _ h => st_take [0, 0, 0, 0, 0] h)) (.inl ⟨rfl, fun _ => q_field (m := 0) fo_108_0 rfl rfl⟩) ?_
      refine Wr.take (v := Value.slice (some ⟨vb, 0, none⟩) n vc) 3 rfl (by kernel_rfl) (fun _ h => st_take [0, 0, 0, 0, 0] h) (.inl ⟨rfl, q_load sc_23 rfl (.cel (i := 2) rfl rfl)⟩) ?_
      refine Wr.pure (v := Value.pointer (some ⟨tb, 3, none⟩)) 4 rfl (by kernel_rfl) (.inr (fun _ h => st_take [0, 0, 0, 0, 0] h)) (.inl ⟨rfl, fun _ => q_field (m := 3) fo_89_3 rfl rfl⟩) ?_
      refine Wr.take (v := Value.int .i64 t.b) 5 rfl (by kernel_rfl) (fun _ h => st_take [0, 0, 0, 0, 0] h) (.inl ⟨rfl, q_load sc_3 rfl (.cel (i := 0) rfl rfl)⟩) ?_
      refine Wr.pure (v := Value.pointer (some ⟨vb, (t.b).toNat, none⟩)) 6 rfl (by kernel_rfl) (.inr (fun _ h => st_take [0, 0, 0, 0, 0] h)) (.inl ⟨rfl, fun _ => q_idx (m := (t.b).toNat) se_23 rfl rfl (by omega) (by omega) (by simp)⟩) ?_
      refine Wr.take (v := Value.int .i64 t.b) 7 rfl (by kernel_rfl) (fun _ h => st_take [0, 0, 0, 0, 0] h) (.inl ⟨rfl, q_load sc_3 rfl (.row (i := 3) rfl (range_at (n := n) (by omega) (by omega)))⟩) ?_
      refine Wr.pure (v := Value.pointer (some ⟨tb, 3, none⟩)) 8 rfl (by kernel_rfl) (.inr (fun _ h => st_take [0, 0, 0, 0, 0] h)) (.inl ⟨rfl, fun _ => q_field (m := 3) fo_89_3 rfl rfl⟩) ?_
      refine Wr.e 9 (by kernel_rfl) rfl (e_store (i := 0) (v := Value.int .i64 t.b) sz_3 rfl rfl (fun _ _ => rfl) rfl (by simp)) (.inl (by kernel_rfl)) (fun _ _ => ?_)
      refine Wr.imp (L' := (pt tb 89 [Value.int .u8 ((t.kind : Nat) : Int), Value.int .i64 t.n, Value.int .i64 t.a, Value.int .i64 t.b]) :: (storeW s ts) :: (pt m 108 [Value.slice (some ⟨vb, 0, none⟩) n vc]) :: (slp 3 1 vb vc ((List.range n).map natV)) :: (refW r ts) :: F) (fun _ h => h) ?_
      refine Wr.rebaseS [] ((pt tb 89 [Value.int .u8 ((t.kind : Nat) : Int), Value.int .i64 t.n, Value.int .i64 t.a, Value.int .i64 t.b]) :: (storeW s ts) :: (pt m 108 [Value.slice (some ⟨vb, 0, none⟩) n vc]) :: (slp 3 1 vb vc ((List.range n).map natV)) :: (refW r ts) :: []) (by kernel_rfl) ?_
      refine Wr.done (by kernel_rfl) ?_
      refine Wx.go ?_
      refine Wc.seq ?_
      refine Wc.region ?_
      refine Wl.q (v := Value.pointer (some ⟨r, 0, none⟩)) (q_move hE1_1) ?_
      refine Wl.q (v := Value.agg #[Value.int .u8 ((t.kind : Nat) : Int), Value.int .i64 t.n, Value.int .i64 t.a, Value.int .i64 t.b]) (q_loadAgg (vs := [Value.int .u8 ((t.kind : Nat) : Int), Value.int .i64 t.n, Value.int .i64 t.a, Value.int .i64 t.b]) ag_89 rfl (Has.of_pt (i := 0) rfl rfl)) ?_
      refine Wl.imp (L' := (refW r ts) :: (pt tb 89 [Value.int .u8 ((t.kind : Nat) : Int), Value.int .i64 t.n, Value.int .i64 t.a, Value.int .i64 t.b]) :: (storeW s ts) :: (pt m 108 [Value.slice (some ⟨vb, 0, none⟩) n vc]) :: (slp 3 1 vb vc ((List.range n).map natV)) :: F) (fun _ h => st_pull [4] h) ?_
      refine Wl.e (e_call (F := (pt tb 89 [Value.int .u8 ((t.kind : Nat) : Int), Value.int .i64 t.n, Value.int .i64 t.a, Value.int .i64 t.b]) :: (storeW s ts) :: (pt m 108 [Value.slice (some ⟨vb, 0, none⟩) n vc]) :: (slp 3 1 vb vc ((List.range n).map natV)) :: F) (args := [Value.pointer (some ⟨r, 0, none⟩), Value.agg #[Value.int .u8 ((t.kind : Nat) : Int), Value.int .i64 t.n, Value.int .i64 t.a, Value.int .i64 t.b]]) Tryz.call19 rfl (rmake_w W0 r ts ts t n _ 0 (by unfold okT; omega) hth rfl)) (fun _ _ => ?_)
      refine Wl.imp (L' := (refW r ts) :: (pt tb 89 [Value.int .u8 ((t.kind : Nat) : Int), Value.int .i64 t.n, Value.int .i64 t.a, Value.int .i64 t.b]) :: (storeW s ts) :: (pt m 108 [Value.slice (some ⟨vb, 0, none⟩) n vc]) :: (slp 3 1 vb vc ((List.range n).map natV)) :: F) (fun _ h => h) ?_
      refine Wl.q (v := Value.tuple #[Value.int .i64 ((n : Nat) : Int), Value.int .i64 0]) (q_move rfl) ?_
      refine Wl.q (v := Value.int .i64 ((n : Nat) : Int)) (q_extract (i := 0) rfl rfl) ?_
      refine Wl.q (v := Value.int .i64 0) (q_extract (i := 1) rfl rfl) ?_
      refine Wl.q (v := Value.int .i64 ((n : Nat) : Int)) (q_assign rfl) ?_
      refine Wl.q (v := Value.int .i64 0) (q_assign rfl) ?_
      refine Wl.done ?_
      refine Wx.go ?_
      refine Wc.seq ?_
      refine Wc.seq ?_
      refine Wc.region ?_
      refine Wl.q (v := Value.int .i64 0) (q_move rfl) ?_
      refine Wl.q (v := Value.bool false) (q_neq (r := true) rfl rfl (decide_eq_true (by decide))) ?_
      refine Wl.done ?_
      refine Wx.go ?_
      refine Wc.no rfl ?_
      refine Wc.skip ?_
      refine Wx.go ?_
      refine Wc.region ?_
      refine Wl.imp (L' := (sl 3 1 (Value.slice (some ⟨vb, 0, none⟩) n vc) n ((List.range n).map natV)) :: (refW r ts) :: (pt tb 89 [Value.int .u8 ((t.kind : Nat) : Int), Value.int .i64 t.n, Value.int .i64 t.a, Value.int .i64 t.b]) :: (storeW s ts) :: (pt m 108 [Value.slice (some ⟨vb, 0, none⟩) n vc]) :: F) (fun w hs => st_sl_mk (e := 3) (by simp) hcl (st_pull [4, 0, 0, 0, 0] (hs))) ?_
      refine Wl.q (v := Value.pointer (some ⟨m, 0, none⟩)) (q_move hE6_1) ?_
      refine Wl.q (v := Value.pointer (some ⟨m, 0, none⟩)) (q_move hE6_1) ?_
      refine Wl.q (v := Value.pointer (some ⟨m, 0, none⟩)) (q_nil_ptr rfl) ?_
      refine Wl.q (v := Value.pointer (some ⟨m, 0, none⟩)) (q_field (m := 0) fo_108_0 rfl rfl) ?_
      refine Wl.q (v := Value.slice (some ⟨vb, 0, none⟩) n vc) (q_load sc_23 rfl (.cel (i := 4) rfl rfl)) ?_
      refine Wl.q (v := Value.int .i64 ((n : Nat) : Int)) (q_move rfl) ?_
      refine Wl.e (e_buildSlice (cs := [Value.int .i64 ((n : Nat) : Int)]) se_23 zo_3 (by decide) (by decide) (by kernel_rfl)) (fun b4 _ => ?_)
      refine Wl.imp (L' := (pt b4 3 [Value.int .i64 ((n : Nat) : Int)]) :: (sl 3 1 (Value.slice (some ⟨vb, 0, none⟩) n vc) n ((List.range n).map natV)) :: (refW r ts) :: (pt tb 89 [Value.int .u8 ((t.kind : Nat) : Int), Value.int .i64 t.n, Value.int .i64 t.a, Value.int .i64 t.b]) :: (storeW s ts) :: (pt m 108 [Value.slice (some ⟨vb, 0, none⟩) n vc]) :: F) (fun _ h => h) ?_
      refine Wl.e (e_append (i := 1) (k := 1) (m := 1) (off := 0) (news := [Value.int .i64 ((n : Nat) : Int)]) Tryz.underlying23 sz_3 by_3 zo_3 rfl rfl rfl rfl rfl (Has.of_pt (i := 0) rfl rfl) rfl (by decide) (by simp only [maxLen]; omega) (by omega)) (fun v2 _ => ?_)
      refine Wl.imp (L' := (pt b4 3 [Value.int .i64 ((n : Nat) : Int)]) :: (sl 3 1 v2 (n + 1) (((List.range n).map natV) ++ [Value.int .i64 ((n : Nat) : Int)])) :: (refW r ts) :: (pt tb 89 [Value.int .u8 ((t.kind : Nat) : Int), Value.int .i64 t.n, Value.int .i64 t.a, Value.int .i64 t.b]) :: (storeW s ts) :: (pt m 108 [Value.slice (some ⟨vb, 0, none⟩) n vc]) :: F) (fun _ h => h) ?_
      refine Wl.q (v := Value.pointer (some ⟨m, 0, none⟩)) (q_nil_ptr rfl) ?_
      refine Wl.q (v := Value.pointer (some ⟨m, 0, none⟩)) (q_field (m := 0) fo_108_0 rfl rfl) ?_
      refine Wl.e (e_store (i := 5) (v := v2) sz_23 rfl rfl (fun _ h => sl_one (i := 1) h rfl) rfl (by simp)) (fun _ _ => ?_)
      refine Wl.imp (L' := (pt b4 3 [Value.int .i64 ((n : Nat) : Int)]) :: (sl 3 1 v2 (n + 1) (((List.range n).map natV) ++ [Value.int .i64 ((n : Nat) : Int)])) :: (refW r ts) :: (pt tb 89 [Value.int .u8 ((t.kind : Nat) : Int), Value.int .i64 t.n, Value.int .i64 t.a, Value.int .i64 t.b]) :: (storeW s ts) :: (pt m 108 [v2]) :: F) (fun _ h => h) ?_
      refine Wl.done ?_
      refine Wx.blockEnd ?_
      refine Wx.go ?_
      refine Wc.region ?_
      refine Wl.q (v := Value.int .i64 ((n : Nat) : Int)) (q_move hE7_1) ?_
      refine Wl.q (v := Value.int .i64 ((n + 1 : Nat) : Int)) (q_add (c := ((n + 1 : Nat) : Int)) rfl rfl (by rw [wrap_i64] <;> omega)) ?_
      refine Wl.q (v := Value.int .i64 ((n + 1 : Nat) : Int)) (q_assign rfl) ?_
      refine Wl.done ?_
      refine Wx.at (n + 1, v2) ⟨(by simp only; omega), rfl, hE0_1, hE1_1, hE6_1, (by simp only; omega), (by simp only; omega)⟩ (fun w hs => by rw [range_succ_V]; exact (st_pull [3, 0, 1, 0] (st_drop (st_drop (st_pull [0, 2] hs)))))
    ·
      have hne : n = ts.length + 1 := by omega
      refine Wl.q (v := Value.bool false) (q_leq (r := false) rfl rfl (decide_eq_false hlt)) ?_
      refine Wl.done ?_
      refine Wx.go ?_
      refine Wc.no rfl ?_
      refine Wc.exit ?_
      refine Wx.thenExit ?_
      refine Wx.thenExit ?_
      refine Wx.out ?_
      refine Wx.go ?_
      refine Wc.seq ?_
      refine Wc.region ?_
      refine Wl.q (v := Value.pointer (some ⟨m, 0, none⟩)) (q_move hE6_1) ?_
      refine Wl.q (v := Value.pointer (some ⟨m, 0, none⟩)) (q_assign rfl) ?_
      refine Wl.q (v := Value.bool true) (q_assign rfl) ?_
      refine Wl.done ?_
      refine Wx.go ?_
      refine Wc.ret ?_
      refine Wx.fin2 rfl (.inl rfl) (fun w hs => ?_)
      subst hne
      exact ⟨(m, v), trivial, rfl, (st_pull [1, 1, 0, 0] (hs))⟩

theorem same_w (W0 : World) (m : Nat) (v : Value) (N a : Nat) (ha : a < N) :
  Con Tryz.prog W0 30 #[Value.pointer (some ⟨m, 0, none⟩), Value.int .i64 ((a : Nat) : Int), Value.int .i64 ((a : Nat) : Int)] [pt m 108 [v], sl 3 1 v N ((List.range N).map natV)] (X := Unit) (fun _ => True) (fun _ => .bool true) (fun _ => [pt m 108 [v], sl 3 1 v N ((List.range N).map natV)]) := by
 refine Con.of (args := [Value.pointer (some ⟨m, 0, none⟩), Value.int .i64 ((a : Nat) : Int), Value.int .i64 ((a : Nat) : Int)]) Tryz.func30 rfl Tryz.ntmps30 rfl (fun F => ?_)
 show Wc _ W0 _ _ _ _ _ ((pt m 108 [v]) :: (sl 3 1 v N ((List.range N).map natV)) :: F)
 refine Wc.seq ?_
 refine Wc.region ?_
 refine Wl.q (v := Value.bool false) (q_assign rfl) ?_
 refine Wl.done ?_
 refine Wx.go ?_
 refine Wc.seq ?_
 refine Wc.seq ?_
 refine Wc.region ?_
 refine Wl.q (v := Value.int .i64 ((a : Nat) : Int)) (q_move rfl) ?_
 refine Wl.q (v := Value.bool false) (q_lss (r := false) rfl rfl (decide_eq_false (by omega))) ?_
 refine Wl.done ?_
 refine Wx.go ?_
 refine Wc.no rfl ?_
 refine Wc.skip ?_
 refine Wx.go ?_
 refine Wc.seq ?_
 refine Wc.region ?_
 refine Wl.sl (i := 1) (m := N) rfl (by omega) (fun vb vc hv hcl => ?_)
 subst hv
 refine Wl.q (v := Value.int .i64 ((a : Nat) : Int)) (q_move rfl) ?_
 refine Wl.q (v := Value.pointer (some ⟨m, 0, none⟩)) (q_move rfl) ?_
 refine Wl.q (v := Value.pointer (some ⟨m, 0, none⟩)) (q_nil_ptr rfl) ?_
 refine Wl.q (v := Value.pointer (some ⟨m, 0, none⟩)) (q_field (m := 0) fo_108_0 rfl rfl) ?_
 refine Wl.q (v := Value.slice (some ⟨vb, 0, none⟩) N vc) (q_load sc_23 rfl (.cel (i := 0) rfl rfl)) ?_
 refine Wl.q (v := Value.int .i64 ((N : Nat) : Int)) (q_len_slice Tryz.underlying23 rfl) ?_
 refine Wl.q (v := Value.bool true) (q_lss (r := true) rfl rfl (decide_eq_true (by omega))) ?_
 refine Wl.q (v := Value.bool true) (q_move rfl) ?_
 refine Wl.q (v := Value.pointer (some ⟨m, 0, none⟩)) (q_move rfl) ?_
 refine Wl.q (v := Value.pointer (some ⟨m, 0, none⟩)) (q_nil_ptr rfl) ?_
 refine Wl.q (v := Value.pointer (some ⟨m, 0, none⟩)) (q_field (m := 0) fo_108_0 rfl rfl) ?_
 refine Wl.q (v := Value.slice (some ⟨vb, 0, none⟩) N vc) (q_load sc_23 rfl (.cel (i := 0) rfl rfl)) ?_
 refine Wl.q (v := Value.int .i64 ((a : Nat) : Int)) (q_move rfl) ?_
 refine Wl.q (v := Value.pointer (some ⟨vb, a, none⟩)) (q_idx (m := a) se_23 rfl rfl (by omega) (by omega) (by simp)) ?_
 refine Wl.q (v := Value.int .i64 ((a : Nat) : Int)) (q_load sc_3 rfl (.row (i := 1) rfl (range_nat ha))) ?_
 refine Wl.q (v := Value.int .i64 ((a : Nat) : Int)) (q_move rfl) ?_
 refine Wl.q (v := Value.bool true) (q_eql (r := true) rfl rfl (decide_eq_true (rfl))) ?_
 refine Wl.q (v := Value.bool true) (q_pick (t := true) rfl rfl) ?_
 refine Wl.q (v := Value.bool true) (q_assign rfl) ?_
 refine Wl.done ?_
 refine Wx.go ?_
 refine Wc.ret ?_
 refine Wx.fin1 rfl (.inl rfl) (fun w hs => ?_)
 exact ⟨(), trivial, rfl, (fun hs => st_swap (st_sl_mk (e := 3) (by simp) hcl hs)) (st_pull [1, 0] (hs))⟩

theorem build_w (W0 : World) (vl : Value) (l : List TermR) (hl : Rd W0 vl l.length (l.flatMap termCells)) (hlm : l.length ≤ 1000000) (hlo : ∀ x ∈ l, okT x) :
  Con Tryz.prog W0 4 #[vl] [] (X := Nat × Nat) (fun _ => True) (fun y => .tuple #[.pointer (some ⟨y.1, 0, none⟩), .pointer (some ⟨y.2, 0, none⟩), .bool true]) (fun y => [storeW y.1 (build [] l), refW y.2 (build [] l)]) :=
 have hw := build_all hlo
 have hT := build_all_le l
 (build_c W0 vl l hl hlm hlo).mono fun y _ => ⟨y, trivial, rfl, fun _ _ hs => storeW_mk hw (by omega) (st_swap (refW_mk hw (by omega) (st_swap hs)))⟩

end Go.Proofs.YtjjghmkjdgogiaaGreatDoor
