/- What follows: contracts of the calls. -/
import Derived.Test.YtjjghmkjdgogiaaGreatDoorDdRf
namespace Go.Proofs.YtjjghmkjdgogiaaGreatDoor
open Go Go.SL Go.Dd Go.RowKit
set_option linter.unusedVariables false
set_option maxRecDepth 8000
theorem zo_96 : zeroOf Tryz.prog 96 = some (Value.agg #[Value.pointer none, Value.int .i64 0, Value.int .i64 0, Value.slice none 0 0]) := by kernel_rfl
theorem fo_96_3 : fieldOff Tryz.prog 96 3 = some 3 := by kernel_rfl
theorem sc_94 : scalar Tryz.prog 94 = true := by kernel_rfl
theorem se_94 : sliceElem Tryz.prog 94 = some (105, 2) := by kernel_rfl
theorem fo_105_0 : fieldOff Tryz.prog 105 0 = some 0 := by kernel_rfl
theorem fo_105_1 : fieldOff Tryz.prog 105 1 = some 1 := by kernel_rfl
theorem sz_105 : sizeIs Tryz.prog 105 = some 2 := by kernel_rfl
theorem by_105 : (Tryz.prog.info? 105).map (·.bytes) = some 16 := by kernel_rfl
theorem zo_105 : zeroOf Tryz.prog 105 = some (Value.agg #[Value.int .i64 0, Value.int .i64 0]) := by kernel_rfl
theorem sz_94 : sizeIs Tryz.prog 94 = some 1 := by kernel_rfl
theorem fo_96_2 : fieldOff Tryz.prog 96 2 = some 2 := by kernel_rfl
theorem fo_96_0 : fieldOff Tryz.prog 96 0 = some 0 := by kernel_rfl
theorem sc_25 : scalar Tryz.prog 25 = true := by kernel_rfl
theorem fo_96_1 : fieldOff Tryz.prog 96 1 = some 1 := by kernel_rfl
theorem rnew_s (W0 : World) (r : Nat) (ts : List TermR) (app x : Int) (hw : Wf ts) (ha : 1 ≤ app ∧ app ≤ (ts.length : Int)) (hx : i64R x) (hl : ts.length + 2 ≤ 1048576) :
  Con Tryz.prog W0 6 #[Value.pointer (some ⟨r, 0, none⟩), Value.int .i64 app, Value.int .i64 x] [refW r ts] (X := Nat) (fun _ => True) (fun w => .tuple #[.pointer (some ⟨w, 0, none⟩), .int .i64 0]) (fun w => [pt w 96 [.pointer (some ⟨r, 0, none⟩), .int .i64 (((startS ts app x).z : Nat) : Int), .int .i64 (((startS ts app x).nx : Nat) : Int), .slice none 0 0], sl 105 2 (.slice none 0 0) (startS ts app x).left.length (leftC (startS ts app x).left), refW r (startS ts app x).ts]) := by
 refine Con.of (args := [Value.pointer (some ⟨r, 0, none⟩), Value.int .i64 app, Value.int .i64 x]) Tryz.func6 rfl Tryz.ntmps6 rfl (fun F => ?_)
 obtain ⟨ta, hta⟩ : ∃ t, ts[(app - 1).toNat]? = some t := ⟨_, List.getElem?_eq_getElem (by omega)⟩
 show Wc _ W0 _ _ _ _ _ ((refW r ts) :: F)
 refine Wc.seq ?_
 refine Wc.region ?_
 refine Wl.q (v := Value.pointer none) (q_assign rfl) ?_
 refine Wl.q (v := Value.int .i64 0) (q_assign rfl) ?_
 refine Wl.done ?_
 refine Wx.go ?_
 refine Wc.seq ?_
 refine Wc.region ?_
 refine Wl.q (v := Value.pointer (some ⟨r, 0, none⟩)) (q_move rfl) ?_
 refine Wl.q (v := Value.int .i64 app) (q_move rfl) ?_
 refine Wl.e (e_call (F := F) (args := [Value.pointer (some ⟨r, 0, none⟩), Value.int .i64 app]) Tryz.call21 rfl (rget_w W0 r ts app ta ha.1 hta)) (fun _ _ => ?_)
 refine Wl.imp (L' := (refW r ts) :: F) (fun _ h => h) ?_
 refine Wl.q (v := Value.tuple #[Value.agg #[Value.int .u8 ((ta.kind : Nat) : Int), Value.int .i64 ta.n, Value.int .i64 ta.a, Value.int .i64 ta.b], Value.bool true]) (q_move rfl) ?_
 refine Wl.q (v := Value.agg #[Value.int .u8 ((ta.kind : Nat) : Int), Value.int .i64 ta.n, Value.int .i64 ta.a, Value.int .i64 ta.b]) (q_extract (i := 0) rfl rfl) ?_
 refine Wl.q (v := Value.bool true) (q_extract (i := 1) rfl rfl) ?_
 refine Wl.e (e_alloc (vs := [Value.int .u8 0, Value.int .i64 0, Value.int .i64 0, Value.int .i64 0]) zo_89 rfl) (fun b1 _ => ?_)
 refine Wl.imp (L' := (pt b1 89 [Value.int .u8 0, Value.int .i64 0, Value.int .i64 0, Value.int .i64 0]) :: (refW r ts) :: F) (fun _ h => h) ?_
 refine Wl.e (e_storeAgg (i := 0) (vs := [Value.int .u8 ((ta.kind : Nat) : Int), Value.int .i64 ta.n, Value.int .i64 ta.a, Value.int .i64 ta.b]) (c' := [Value.int .u8 ((ta.kind : Nat) : Int), Value.int .i64 ta.n, Value.int .i64 ta.a, Value.int .i64 ta.b]) sz_89 rfl rfl rfl rfl (by simp) rfl) (fun _ _ => ?_)
 refine Wl.imp (L' := (pt b1 89 [Value.int .u8 ((ta.kind : Nat) : Int), Value.int .i64 ta.n, Value.int .i64 ta.a, Value.int .i64 ta.b]) :: (refW r ts) :: F) (fun _ h => h) ?_
 refine Wl.q (v := Value.bool true) (q_assign rfl) ?_
 refine Wl.done ?_
 refine Wx.go ?_
 refine Wc.seq ?_
 refine Wc.seq ?_
 refine Wc.region ?_
 refine Wl.q (v := Value.bool true) (q_move rfl) ?_
 refine Wl.q (v := Value.bool false) (q_not rfl rfl) ?_
 refine Wl.done ?_
 refine Wx.go ?_
 refine Wc.no rfl ?_
 refine Wc.skip ?_
 refine Wx.go ?_
 refine Wc.seq ?_
 refine Wc.region ?_
 refine Wl.q (v := Value.pointer (some ⟨r, 0, none⟩)) (q_move rfl) ?_
 refine Wl.q (v := Value.pointer (some ⟨r, 0, none⟩)) (q_move rfl) ?_
 refine Wl.q (v := Value.int .i64 app) (q_move rfl) ?_
 refine Wl.q (v := Value.int .i64 x) (q_move rfl) ?_
 refine Wl.imp (L' := (refW r ts) :: (pt b1 89 [Value.int .u8 ((ta.kind : Nat) : Int), Value.int .i64 ta.n, Value.int .i64 ta.a, Value.int .i64 ta.b]) :: F) (fun _ h => st_pull [1] h) ?_
 refine Wl.e (e_call (F := (pt b1 89 [Value.int .u8 ((ta.kind : Nat) : Int), Value.int .i64 ta.n, Value.int .i64 ta.a, Value.int .i64 ta.b]) :: F) (args := [Value.pointer (some ⟨r, 0, none⟩), Value.int .i64 app, Value.int .i64 x]) Tryz.call22 rfl (rbegin_w W0 r ts app x hw ha hx (by omega))) (fun _ _ => ?_)
 refine Wl.imp (L' := (refW r ((beginR ts app x).1)) :: (pt b1 89 [Value.int .u8 ((ta.kind : Nat) : Int), Value.int .i64 ta.n, Value.int .i64 ta.a, Value.int .i64 ta.b]) :: F) (fun _ h => h) ?_
 refine Wl.q (v := Value.agg #[Value.pointer (some ⟨r, 0, none⟩), Value.int .i64 (((beginR ts app x).2 : Nat) : Int), Value.int .i64 0, Value.slice none 0 0]) (q_build (pl := [(0, 1), (1, 1), (2, 1), (3, 1)]) Tryz.underlying96 zo_96 (by kernel_rfl) (by kernel_rfl)) ?_
 refine Wl.e (e_box (x := .tmp 23) (vs := [Value.pointer (some ⟨r, 0, none⟩), Value.int .i64 (((beginR ts app x).2 : Nat) : Int), Value.int .i64 0, Value.slice none 0 0]) rfl) (fun wc _ => ?_)
 refine Wl.imp (L' := (pt wc 96 [Value.pointer (some ⟨r, 0, none⟩), Value.int .i64 (((beginR ts app x).2 : Nat) : Int), Value.int .i64 0, Value.slice none 0 0]) :: (refW r ((beginR ts app x).1)) :: (pt b1 89 [Value.int .u8 ((ta.kind : Nat) : Int), Value.int .i64 ta.n, Value.int .i64 ta.a, Value.int .i64 ta.b]) :: F) (fun _ h => h) ?_
 refine Wl.q (v := Value.pointer (some ⟨wc, 0, none⟩)) (q_assign rfl) ?_
 refine Wl.q (v := Value.int .i64 0) (q_assign rfl) ?_
 refine Wl.done ?_
 refine Wx.go ?_
 refine Wc.ret ?_
 refine Wx.fin2 rfl (.inl rfl) (fun w hs => ?_)
 exact ⟨wc, trivial, rfl, st_swap (st_sl_nil (st_drop (st_pull [2] hs)))⟩

theorem rnew_no (W0 : World) (r : Nat) (ts : List TermR) (app x : Int) (h : ¬ (1 ≤ app ∧ app ≤ (ts.length : Int))) :
  Con Tryz.prog W0 6 #[Value.pointer (some ⟨r, 0, none⟩), Value.int .i64 app, Value.int .i64 x] [refW r ts] (X := Unit) (fun _ => True) (fun _ => .tuple #[.pointer none, .int .i64 1]) (fun _ => [refW r ts]) := by
 refine Con.of (args := [Value.pointer (some ⟨r, 0, none⟩), Value.int .i64 app, Value.int .i64 x]) Tryz.func6 rfl Tryz.ntmps6 rfl (fun F => ?_)
 show Wc _ W0 _ _ _ _ _ ((refW r ts) :: F)
 refine Wc.seq ?_
 refine Wc.region ?_
 refine Wl.q (v := Value.pointer none) (q_assign rfl) ?_
 refine Wl.q (v := Value.int .i64 0) (q_assign rfl) ?_
 refine Wl.done ?_
 refine Wx.go ?_
 refine Wc.seq ?_
 refine Wc.region ?_
 refine Wl.q (v := Value.pointer (some ⟨r, 0, none⟩)) (q_move rfl) ?_
 refine Wl.q (v := Value.int .i64 app) (q_move rfl) ?_
 refine Wl.e (e_call (F := F) (args := [Value.pointer (some ⟨r, 0, none⟩), Value.int .i64 app]) Tryz.call21 rfl (rget_no_w W0 r ts app h)) (fun _ _ => ?_)
 refine Wl.imp (L' := (refW r ts) :: F) (fun _ h => h) ?_
 refine Wl.q (v := Value.tuple #[Value.agg #[Value.int .u8 0, Value.int .i64 0, Value.int .i64 0, Value.int .i64 0], Value.bool false]) (q_move rfl) ?_
 refine Wl.q (v := Value.agg #[Value.int .u8 0, Value.int .i64 0, Value.int .i64 0, Value.int .i64 0]) (q_extract (i := 0) rfl rfl) ?_
 refine Wl.q (v := Value.bool false) (q_extract (i := 1) rfl rfl) ?_
 refine Wl.e (e_alloc (vs := [Value.int .u8 0, Value.int .i64 0, Value.int .i64 0, Value.int .i64 0]) zo_89 rfl) (fun b1 _ => ?_)
 refine Wl.imp (L' := (pt b1 89 [Value.int .u8 0, Value.int .i64 0, Value.int .i64 0, Value.int .i64 0]) :: (refW r ts) :: F) (fun _ h => h) ?_
 refine Wl.e (e_storeAgg (i := 0) (vs := [Value.int .u8 0, Value.int .i64 0, Value.int .i64 0, Value.int .i64 0]) (c' := [Value.int .u8 0, Value.int .i64 0, Value.int .i64 0, Value.int .i64 0]) sz_89 rfl rfl rfl rfl (by simp) rfl) (fun _ _ => ?_)
 refine Wl.imp (L' := (pt b1 89 [Value.int .u8 0, Value.int .i64 0, Value.int .i64 0, Value.int .i64 0]) :: (refW r ts) :: F) (fun _ h => h) ?_
 refine Wl.q (v := Value.bool false) (q_assign rfl) ?_
 refine Wl.done ?_
 refine Wx.go ?_
 refine Wc.seq ?_
 refine Wc.seq ?_
 refine Wc.region ?_
 refine Wl.q (v := Value.bool false) (q_move rfl) ?_
 refine Wl.q (v := Value.bool true) (q_not rfl rfl) ?_
 refine Wl.done ?_
 refine Wx.go ?_
 refine Wc.yes rfl ?_
 refine Wc.seq ?_
 refine Wc.region ?_
 refine Wl.q (v := Value.pointer none) (q_assign rfl) ?_
 refine Wl.q (v := Value.int .i64 1) (q_assign rfl) ?_
 refine Wl.done ?_
 refine Wx.go ?_
 refine Wc.ret ?_
 refine Wx.thenRet ?_
 refine Wx.fin2 rfl (.inl rfl) (fun w hs => ?_)
 exact ⟨(), trivial, rfl, (st_drop (st_pull [0] hs))⟩

theorem rtake_neg (W0 : World) (wc r : Nat) (v : Value) (S : ChS) (m : Int) (hm : m < 0) :
  Con Tryz.prog W0 10 #[Value.pointer (some ⟨wc, 0, none⟩), Value.int .i64 m] [pt wc 96 [Value.pointer (some ⟨r, 0, none⟩), Value.int .i64 ((S.z : Nat) : Int), Value.int .i64 ((S.nx : Nat) : Int), v], sl 105 2 v S.left.length (leftC S.left), refW r S.ts] (X := Unit) (fun _ => True) (fun _ => .tuple #[.int .i64 0, .int .i64 1]) (fun _ => [pt wc 96 [Value.pointer (some ⟨r, 0, none⟩), Value.int .i64 ((S.z : Nat) : Int), Value.int .i64 ((S.nx : Nat) : Int), v], sl 105 2 v S.left.length (leftC S.left), refW r S.ts]) := by
 refine Con.of (args := [Value.pointer (some ⟨wc, 0, none⟩), Value.int .i64 m]) Tryz.func10 rfl Tryz.ntmps10 rfl (fun F => ?_)
 show Wc _ W0 _ _ _ _ _ ((pt wc 96 [Value.pointer (some ⟨r, 0, none⟩), Value.int .i64 ((S.z : Nat) : Int), Value.int .i64 ((S.nx : Nat) : Int), v]) :: (sl 105 2 v S.left.length (leftC S.left)) :: (refW r S.ts) :: F)
 refine Wc.seq ?_
 refine Wc.region ?_
 refine Wl.q (v := Value.int .i64 0) (q_assign rfl) ?_
 refine Wl.q (v := Value.int .i64 0) (q_assign rfl) ?_
 refine Wl.done ?_
 refine Wx.go ?_
 refine Wc.seq ?_
 refine Wc.seq ?_
 refine Wc.region ?_
 refine Wl.q (v := Value.int .i64 m) (q_move rfl) ?_
 refine Wl.q (v := Value.bool true) (q_lss (r := true) rfl rfl (decide_eq_true (hm))) ?_
 refine Wl.done ?_
 refine Wx.go ?_
 refine Wc.yes rfl ?_
 refine Wc.seq ?_
 refine Wc.region ?_
 refine Wl.q (v := Value.int .i64 0) (q_assign rfl) ?_
 refine Wl.q (v := Value.int .i64 1) (q_assign rfl) ?_
 refine Wl.done ?_
 refine Wx.go ?_
 refine Wc.ret ?_
 refine Wx.thenRet ?_
 refine Wx.fin2 rfl (.inl rfl) (fun w hs => ?_)
 exact ⟨(), trivial, rfl, hs⟩

theorem rtake_found (W0 : World) (wc r : Nat) (v : Value) (S : ChS) (hS : OkS S) (hll : S.left.length ≤ 1000) (hx : S.nx < 4611686018427387904) (m : Nat) (hm : m ≤ 9223372036854775807) (j k : Nat) (hj : S.left[j]? = some (m, k)) :
    Con Tryz.prog W0 10 #[Value.pointer (some ⟨wc, 0, none⟩), Value.int .i64 ((m : Nat) : Int)] [pt wc 96 [Value.pointer (some ⟨r, 0, none⟩), Value.int .i64 ((S.z : Nat) : Int), Value.int .i64 ((S.nx : Nat) : Int), v], sl 105 2 v S.left.length (leftC S.left), refW r S.ts] (X := Value) (fun _ => True) (fun _ => .tuple #[.int .i64 ((k : Nat) : Int), .int .i64 0]) (fun y => [pt wc 96 [Value.pointer (some ⟨r, 0, none⟩), Value.int .i64 ((S.z : Nat) : Int), Value.int .i64 ((S.nx : Nat) : Int), y], sl 105 2 y ((S.left.eraseIdx j).length) (leftC (S.left.eraseIdx j)), refW r S.ts]) := by
  refine Con.of (args := [Value.pointer (some ⟨wc, 0, none⟩), Value.int .i64 ((m : Nat) : Int)]) Tryz.func10 rfl Tryz.ntmps10 rfl (fun F => ?_)
  show Wc _ W0 _ _ _ _ _ ((pt wc 96 [Value.pointer (some ⟨r, 0, none⟩), Value.int .i64 ((S.z : Nat) : Int), Value.int .i64 ((S.nx : Nat) : Int), v]) :: (sl 105 2 v S.left.length (leftC S.left)) :: (refW r S.ts) :: F)
  refine Wc.seq ?_
  refine Wc.region ?_
  refine Wl.q (v := Value.int .i64 0) (q_assign rfl) ?_
  refine Wl.q (v := Value.int .i64 0) (q_assign rfl) ?_
  refine Wl.done ?_
  refine Wx.go ?_
  refine Wc.seq ?_
  refine Wc.seq ?_
  refine Wc.region ?_
  refine Wl.q (v := Value.int .i64 ((m : Nat) : Int)) (q_move rfl) ?_
  refine Wl.q (v := Value.bool false) (q_lss (r := false) rfl rfl (decide_eq_false (by omega))) ?_
  refine Wl.done ?_
  refine Wx.go ?_
  refine Wc.no rfl ?_
  refine Wc.skip ?_
  refine Wx.go ?_
  refine Wc.seq ?_
  refine Wc.seq ?_
  refine Wc.region ?_
  refine Wl.q (v := Value.int .i64 0) (q_assign rfl) ?_
  refine Wl.done ?_
  refine Wx.go ?_
  refine Wc.block ?_
  refine Wc.loop (X := Nat) (fun i E => E 6 = Value.int .i64 ((i : Nat) : Int) ∧ E 0 = Value.pointer (some ⟨wc, 0, none⟩) ∧ E 1 = Value.int .i64 ((m : Nat) : Int) ∧ i ≤ j) (fun i => (pt wc 96 [Value.pointer (some ⟨r, 0, none⟩), Value.int .i64 ((S.z : Nat) : Int), Value.int .i64 ((S.nx : Nat) : Int), v]) :: (sl 105 2 v S.left.length (leftC S.left)) :: (refW r S.ts) :: F) (fun i => S.left.length - i) 0 ?_ ?_ ?_
  · exact ⟨rfl, rfl, rfl, (Nat.zero_le _)⟩
  · exact fun w hs => hs
  · rintro i E2 ⟨hE6_0, hE0_0, hE1_0, hi⟩
    refine Wc.seq ?_
    refine Wc.seq ?_
    refine Wc.region ?_
    refine Wl.q (v := Value.int .i64 ((i : Nat) : Int)) (q_move hE6_0) ?_
    refine Wl.q (v := Value.pointer (some ⟨wc, 0, none⟩)) (q_move hE0_0) ?_
    refine Wl.q (v := Value.pointer (some ⟨wc, 0, none⟩)) (q_nil_ptr rfl) ?_
    refine Wl.q (v := Value.pointer (some ⟨wc, 3, none⟩)) (q_field (m := 3) fo_96_3 rfl rfl) ?_
    refine Wl.q (v := v) (q_load sc_94 rfl (.cel (i := 0) rfl rfl)) ?_
    refine Wl.q (v := Value.int .i64 ((S.left.length : Nat) : Int)) (q_len_sl (i := 1) Tryz.underlying94 rfl rfl) ?_
    by_cases hlt : ((i : Nat) : Int) < ((S.left.length : Nat) : Int)
    ·
      obtain ⟨o, hget⟩ : ∃ o, S.left[i]? = some o := ⟨S.left[i]'(by omega), List.getElem?_eq_getElem (by omega)⟩
      refine Wl.sl (i := 1) (m := S.left.length) rfl (by omega) (fun vb vc hv hcl => ?_)
      subst hv
      refine Wl.q (v := Value.bool true) (q_lss (r := true) rfl rfl (decide_eq_true hlt)) ?_
      refine Wl.done ?_
      refine Wx.go ?_
      refine Wc.yes rfl ?_
      refine Wc.skip ?_
      refine Wx.go ?_
      refine Wc.seq ?_
      refine Wc.block ?_
      refine Wc.seq ?_
      refine Wc.region ?_
      refine Wl.q (v := Value.pointer (some ⟨wc, 0, none⟩)) (q_move hE0_0) ?_
      refine Wl.q (v := Value.pointer (some ⟨wc, 0, none⟩)) (q_nil_ptr rfl) ?_
      refine Wl.q (v := Value.pointer (some ⟨wc, 3, none⟩)) (q_field (m := 3) fo_96_3 rfl rfl) ?_
      refine Wl.q (v := Value.slice (some ⟨vb, 0, none⟩) S.left.length vc) (q_load sc_94 rfl (.cel (i := 0) rfl rfl)) ?_
      refine Wl.q (v := Value.int .i64 ((i : Nat) : Int)) (q_move hE6_0) ?_
      refine Wl.q (v := Value.pointer (some ⟨vb, i * 2, none⟩)) (q_idx (m := i * 2) se_94 rfl rfl (by omega) (by omega) (by simp)) ?_
      refine Wl.q (v := Value.pointer (some ⟨vb, i * 2, none⟩)) (q_field (m := i * 2) fo_105_0 rfl rfl) ?_
      refine Wl.q (v := Value.int .i64 ((o.1 : Nat) : Int)) (q_load sc_3 rfl (.row (i := 1) rfl (leftC_0 hget))) ?_
      refine Wl.q (v := Value.int .i64 ((m : Nat) : Int)) (q_move hE1_0) ?_
      by_cases hom : ((o.1 : Nat) : Int) = ((m : Nat) : Int)
      ·
        obtain ⟨hij, ho2⟩ := left_idx hS.one hget hj (Int.ofNat.inj hom)
        subst hij
        refine Wl.q (v := Value.bool true) (q_eql (r := true) rfl rfl (decide_eq_true hom)) ?_
        refine Wl.done ?_
        refine Wx.go ?_
        refine Wc.yes rfl ?_
        refine Wc.seq ?_
        refine Wc.region ?_
        refine Wl.q (v := Value.pointer (some ⟨wc, 0, none⟩)) (q_move hE0_0) ?_
        refine Wl.q (v := Value.pointer (some ⟨wc, 0, none⟩)) (q_nil_ptr rfl) ?_
        refine Wl.q (v := Value.pointer (some ⟨wc, 3, none⟩)) (q_field (m := 3) fo_96_3 rfl rfl) ?_
        refine Wl.q (v := Value.slice (some ⟨vb, 0, none⟩) S.left.length vc) (q_load sc_94 rfl (.cel (i := 0) rfl rfl)) ?_
        refine Wl.q (v := Value.int .i64 ((i : Nat) : Int)) (q_move hE6_0) ?_
        refine Wl.q (v := Value.pointer (some ⟨vb, i * 2, none⟩)) (q_idx (m := i * 2) se_94 rfl rfl (by omega) (by omega) (by simp)) ?_
        refine Wl.q (v := Value.pointer (some ⟨vb, i * 2 + 1, none⟩)) (q_field (m := i * 2 + 1) fo_105_1 rfl rfl) ?_
        refine Wl.q (v := Value.int .i64 ((o.2 : Nat) : Int)) (q_load sc_3 rfl (.row (i := 1) rfl (leftC_1 hget))) ?_
        refine Wl.q (v := Value.int .i64 ((o.2 : Nat) : Int)) (q_assign rfl) ?_
        refine Wl.done ?_
        refine Wx.go ?_
        refine Wc.seq ?_
        refine Wc.drawsS [19] ((pt wc 96 [Value.pointer (some ⟨r, 0, none⟩), Value.int .i64 ((S.z : Nat) : Int), Value.int .i64 ((S.nx : Nat) : Int), Value.slice (some ⟨vb, 0, none⟩) S.left.length vc]) :: (slp 105 2 vb vc (leftC S.left)) :: (refW r S.ts) :: []) (by kernel_rfl) ?_
        refine Wr.pure (v := Value.pointer (some ⟨wc, 0, none⟩)) 0 rfl (by kernel_rfl) (.inr (fun _ h => st_take [0, 0, 0] h)) (.inl ⟨rfl, fun _ => q_move hE0_0⟩) ?_
        refine Wr.pure (v := Value.pointer (some ⟨wc, 0, none⟩)) 2 rfl (by kernel_rfl) (.inr (fun _ h => st_take [0, 0, 0] h)) (.inl ⟨rfl, fun _ => q_move hE0_0⟩) ?_
        refine Wr.pure (v := Value.pointer (some ⟨wc, 0, none⟩)) 3 rfl (by kernel_rfl) (.inr (fun _ h => st_take [0, 0, 0] h)) (.inl ⟨rfl, fun _ => q_nil_ptr rfl⟩) ?_
        refine Wr.pure (v := Value.pointer (some ⟨wc, 3, none⟩)) 4 rfl (by kernel_rfl) (.inr (fun _ h => st_take [0, 0, 0] h)) (.inl ⟨rfl, fun _ => q_field (m := 3) fo_96_3 rfl rfl⟩) ?_
        refine Wr.take (v := Value.slice (some ⟨vb, 0, none⟩) S.left.length vc) 5 rfl (by kernel_rfl) (fun _ h => st_take [0, 0, 0] h) (.inl ⟨rfl, q_load sc_94 rfl (.cel (i := 0) rfl rfl)⟩) ?_
        refine Wr.pure (v := Value.int .i64 ((i : Nat) : Int)) 6 rfl (by kernel_rfl) (.inr (fun _ h => st_take [0, 0, 0] h)) (.inl ⟨rfl, fun _ => q_move hE6_0⟩) ?_
        refine Wr.pure (v := Value.slice (some ⟨vb, 0, none⟩) i vc) 7 rfl (by kernel_rfl) (.inr (fun _ h => st_take [0, 0, 0] h)) (.inl ⟨rfl, fun _ => q_slice_low (h := i) se_94 rfl rfl ⟨_, rfl⟩ (by omega) (by omega)⟩) ?_
        refine Wr.pure (v := Value.pointer (some ⟨wc, 0, none⟩)) 9 rfl (by kernel_rfl) (.inr (fun _ h => st_take [0, 0, 0] h)) (.inl ⟨rfl, fun _ => q_move hE0_0⟩) ?_
        refine Wr.pure (v := Value.pointer (some ⟨wc, 0, none⟩)) 10 rfl (by kernel_rfl) (.inr (fun _ h => st_take [0, 0, 0] h)) (.inl ⟨rfl, fun _ => q_nil_ptr rfl⟩) ?_
        refine Wr.pure (v := Value.pointer (some ⟨wc, 3, none⟩)) 11 rfl (by kernel_rfl) (.inr (fun _ h => st_take [0, 0, 0] h)) (.inl ⟨rfl, fun _ => q_field (m := 3) fo_96_3 rfl rfl⟩) ?_
        refine Wr.take (v := Value.slice (some ⟨vb, 0, none⟩) S.left.length vc) 12 rfl (by kernel_rfl) (fun _ h => st_take [0, 0, 0] h) (.inl ⟨rfl, q_load sc_94 rfl (.cel (i := 0) rfl rfl)⟩) ?_
        refine Wr.pure (v := Value.int .i64 ((i : Nat) : Int)) 13 rfl (by kernel_rfl) (.inr (fun _ h => st_take [0, 0, 0] h)) (.inl ⟨rfl, fun _ => q_move hE6_0⟩) ?_
        refine Wr.pure (v := Value.int .i64 ((i + 1 : Nat) : Int)) 14 rfl (by kernel_rfl) (.inr (fun _ h => st_take [0, 0, 0] h)) (.inl ⟨rfl, fun _ => q_add (c := ((i + 1 : Nat) : Int)) rfl rfl (by rw [wrap_i64] <;> omega)⟩) ?_
        refine Wr.pure (v := Value.slice (if vc = i + 1 then some (Addr.mk vb 0 none) else some ⟨vb, 0 + (i + 1) * 2, none⟩) (S.left.length - (i + 1)) (vc - (i + 1))) 15 rfl (by kernel_rfl) (.inr (fun _ h => st_take [0, 0, 0] h)) (.inl ⟨rfl, fun _ => q_slice (l := i + 1) (h := S.left.length) se_94 rfl ⟨_, rfl⟩ rfl (by omega) (by omega) rfl⟩) ?_
        refine Wr.e 1 (by kernel_rfl) rfl (e_buildSlice0 se_94) (.inr fun _ _ _ h => st_take [1, 1, 1] h) (fun b3 _ => ?_)
        refine Wr.imp (L' := (sl 105 2 (Value.slice (some ⟨b3, 0, none⟩) 0 0) 0 []) :: (pt wc 96 [Value.pointer (some ⟨r, 0, none⟩), Value.int .i64 ((S.z : Nat) : Int), Value.int .i64 ((S.nx : Nat) : Int), Value.slice (some ⟨vb, 0, none⟩) S.left.length vc]) :: (slp 105 2 vb vc (leftC S.left)) :: (refW r S.ts) :: F) (fun _ h => h) ?_
        refine Wr.e 8 (by kernel_rfl) rfl (e_append_any (i := 0) (vy := Value.slice (some ⟨vb, 0, none⟩) i vc) (m := i) (news := leftC (S.left.take i)) Tryz.underlying94 sz_105 by_105 zo_105 rfl rfl rfl rfl ⟨_, _, rfl⟩ (fun _ => ⟨vb, 0, vc, rfl, fun j u h => .row (i := 2) rfl (leftC_take h)⟩) (by rw [leftC_len, List.length_take, Nat.min_eq_left (by omega)]) (leftC_one _) (by simp only [maxLen]; omega) (by omega)) (.inr fun _ _ _ h => st_take [1, 1, 1] h) (fun u0 _ => ?_)
        refine Wr.imp (L' := (sl 105 2 u0 (0 + i) ([] ++ leftC (S.left.take i))) :: (pt wc 96 [Value.pointer (some ⟨r, 0, none⟩), Value.int .i64 ((S.z : Nat) : Int), Value.int .i64 ((S.nx : Nat) : Int), Value.slice (some ⟨vb, 0, none⟩) S.left.length vc]) :: (slp 105 2 vb vc (leftC S.left)) :: (refW r S.ts) :: F) (fun _ h => h) ?_
        refine Wr.e 16 (by kernel_rfl) rfl (e_append_any (i := 0) (vy := Value.slice (if vc = i + 1 then some (Addr.mk vb 0 none) else some ⟨vb, 0 + (i + 1) * 2, none⟩) (S.left.length - (i + 1)) (vc - (i + 1))) (m := (S.left.length - (i + 1))) (news := leftC (S.left.drop (i + 1))) Tryz.underlying94 sz_105 by_105 zo_105 rfl rfl rfl rfl ⟨_, _, rfl⟩ (fun h0 => ⟨vb, 0 + (i + 1) * 2, vc - (i + 1), by rw [if_neg (by omega)], fun j u h => .row (i := 2) rfl (by rw [Nat.zero_add]; exact leftC_drop (by omega) h)⟩) (by rw [leftC_len, List.length_drop]) (leftC_one _) (by simp only [maxLen]; omega) (by omega)) (.inr fun _ _ _ h => st_take [1, 1, 1] h) (fun u1 _ => ?_)
        refine Wr.imp (L' := (sl 105 2 u1 ((0 + i) + (S.left.length - (i + 1))) (([] ++ leftC (S.left.take i)) ++ leftC (S.left.drop (i + 1)))) :: (pt wc 96 [Value.pointer (some ⟨r, 0, none⟩), Value.int .i64 ((S.z : Nat) : Int), Value.int .i64 ((S.nx : Nat) : Int), Value.slice (some ⟨vb, 0, none⟩) S.left.length vc]) :: (slp 105 2 vb vc (leftC S.left)) :: (refW r S.ts) :: F) (fun _ h => h) ?_
        refine Wr.pure (v := Value.pointer (some ⟨wc, 0, none⟩)) 17 rfl (by kernel_rfl) (.inr (fun _ h => st_take [1, 1, 1] h)) (.inl ⟨rfl, fun _ => q_nil_ptr rfl⟩) ?_
        refine Wr.pure (v := Value.pointer (some ⟨wc, 3, none⟩)) 18 rfl (by kernel_rfl) (.inr (fun _ h => st_take [1, 1, 1] h)) (.inl ⟨rfl, fun _ => q_field (m := 3) fo_96_3 rfl rfl⟩) ?_
        refine Wr.e 19 (by kernel_rfl) rfl (e_store (i := 1) (v := u1) sz_94 rfl rfl (fun _ h => sl_one (i := 0) h rfl) rfl (by simp)) (.inl (by kernel_rfl)) (fun _ _ => ?_)
        refine Wr.imp (L' := (sl 105 2 u1 ((0 + i) + (S.left.length - (i + 1))) (([] ++ leftC (S.left.take i)) ++ leftC (S.left.drop (i + 1)))) :: (pt wc 96 [Value.pointer (some ⟨r, 0, none⟩), Value.int .i64 ((S.z : Nat) : Int), Value.int .i64 ((S.nx : Nat) : Int), u1]) :: (slp 105 2 vb vc (leftC S.left)) :: (refW r S.ts) :: F) (fun _ h => h) ?_
        refine Wr.rebaseS [] ((sl 105 2 u1 ((0 + i) + (S.left.length - (i + 1))) (([] ++ leftC (S.left.take i)) ++ leftC (S.left.drop (i + 1)))) :: (pt wc 96 [Value.pointer (some ⟨r, 0, none⟩), Value.int .i64 ((S.z : Nat) : Int), Value.int .i64 ((S.nx : Nat) : Int), u1]) :: (slp 105 2 vb vc (leftC S.left)) :: (refW r S.ts) :: []) (by kernel_rfl) ?_
        refine Wr.done (by kernel_rfl) ?_
        refine Wx.go ?_
        refine Wc.seq ?_
        refine Wc.region ?_
        refine Wl.q (v := Value.int .i64 ((o.2 : Nat) : Int)) (q_move rfl) ?_
        refine Wl.q (v := Value.int .i64 ((o.2 : Nat) : Int)) (q_assign rfl) ?_
        refine Wl.q (v := Value.int .i64 0) (q_assign rfl) ?_
        refine Wl.done ?_
        refine Wx.go ?_
        refine Wc.ret ?_
        refine Wx.blockRet ?_
        refine Wx.thenRet ?_
        refine Wx.thenRet ?_
        refine Wx.blockRet ?_
        refine Wx.thenRet ?_
        refine Wx.fin2 rfl (.inl rfl) (fun w hs => ?_)
        refine ⟨u1, trivial, congrArg (fun x : Nat => Value.tuple #[.int .i64 (x : Int), .int .i64 0]) ho2, ?_⟩
        have he : S.left.eraseIdx i = S.left.take i ++ S.left.drop (i + 1) := List.eraseIdx_eq_take_drop_succ _ _
        have hel : (S.left.eraseIdx i).length = 0 + i + (S.left.length - (i + 1)) := by rw [he, List.length_append, List.length_take, List.length_drop]; omega
        rw [hel, he, leftC_append, ← List.nil_append (leftC (S.left.take i))]
        exact (st_pull [1, 0, 0] (st_drop (st_pull [2] hs)))
      ·
        have hne : i ≠ j := fun e => hom (by subst e; rw [hj] at hget; cases hget; rfl)
        refine Wl.q (v := Value.bool false) (q_eql (r := false) rfl rfl (decide_eq_false hom)) ?_
        refine Wl.done ?_
        refine Wx.go ?_
        refine Wc.no rfl ?_
        refine Wc.skip ?_
        refine Wx.blockEnd ?_
        refine Wx.go ?_
        refine Wc.region ?_
        refine Wl.q (v := Value.int .i64 ((i : Nat) : Int)) (q_move hE6_0) ?_
        refine Wl.q (v := Value.int .i64 ((i + 1 : Nat) : Int)) (q_add (c := ((i + 1 : Nat) : Int)) rfl rfl (by rw [wrap_i64] <;> omega)) ?_
        refine Wl.q (v := Value.int .i64 ((i + 1 : Nat) : Int)) (q_assign rfl) ?_
        refine Wl.done ?_
        refine Wx.at (i + 1) ⟨(by omega), rfl, hE0_0, hE1_0, (by omega)⟩ (fun w hs => (fun hs => st_swap (st_sl_mk (e := 105) (leftC_len _) hcl hs)) (st_pull [1, 0, 0] (hs)))
    ·
      exfalso; have := (List.getElem?_eq_some_iff.1 hj).1; omega

theorem rtake_stale (W0 : World) (wc r : Nat) (v : Value) (S : ChS) (hS : OkS S) (hll : S.left.length ≤ 1000) (hx : S.nx < 4611686018427387904) (m : Nat) (hm : m ≤ 9223372036854775807) (hno : ∀ p ∈ S.left, p.1 ≠ m) (hst : m < S.nx) :
    Con Tryz.prog W0 10 #[Value.pointer (some ⟨wc, 0, none⟩), Value.int .i64 ((m : Nat) : Int)] [pt wc 96 [Value.pointer (some ⟨r, 0, none⟩), Value.int .i64 ((S.z : Nat) : Int), Value.int .i64 ((S.nx : Nat) : Int), v], sl 105 2 v S.left.length (leftC S.left), refW r S.ts] (X := Unit) (fun _ => True) (fun _ => .tuple #[.int .i64 0, .int .i64 10]) (fun _ => [pt wc 96 [Value.pointer (some ⟨r, 0, none⟩), Value.int .i64 ((S.z : Nat) : Int), Value.int .i64 ((S.nx : Nat) : Int), v], sl 105 2 v S.left.length (leftC S.left), refW r S.ts]) := by
  refine Con.of (args := [Value.pointer (some ⟨wc, 0, none⟩), Value.int .i64 ((m : Nat) : Int)]) Tryz.func10 rfl Tryz.ntmps10 rfl (fun F => ?_)
  show Wc _ W0 _ _ _ _ _ ((pt wc 96 [Value.pointer (some ⟨r, 0, none⟩), Value.int .i64 ((S.z : Nat) : Int), Value.int .i64 ((S.nx : Nat) : Int), v]) :: (sl 105 2 v S.left.length (leftC S.left)) :: (refW r S.ts) :: F)
  refine Wc.seq ?_
  refine Wc.region ?_
  refine Wl.q (v := Value.int .i64 0) (q_assign rfl) ?_
  refine Wl.q (v := Value.int .i64 0) (q_assign rfl) ?_
  refine Wl.done ?_
  refine Wx.go ?_
  refine Wc.seq ?_
  refine Wc.seq ?_
  refine Wc.region ?_
  refine Wl.q (v := Value.int .i64 ((m : Nat) : Int)) (q_move rfl) ?_
  refine Wl.q (v := Value.bool false) (q_lss (r := false) rfl rfl (decide_eq_false (by omega))) ?_
  refine Wl.done ?_
  refine Wx.go ?_
  refine Wc.no rfl ?_
  refine Wc.skip ?_
  refine Wx.go ?_
  refine Wc.seq ?_
  refine Wc.seq ?_
  refine Wc.region ?_
  refine Wl.q (v := Value.int .i64 0) (q_assign rfl) ?_
  refine Wl.done ?_
  refine Wx.go ?_
  refine Wc.block ?_
  refine Wc.loop (X := Nat) (fun i E => E 6 = Value.int .i64 ((i : Nat) : Int) ∧ E 0 = Value.pointer (some ⟨wc, 0, none⟩) ∧ E 1 = Value.int .i64 ((m : Nat) : Int) ∧ i ≤ S.left.length) (fun i => (pt wc 96 [Value.pointer (some ⟨r, 0, none⟩), Value.int .i64 ((S.z : Nat) : Int), Value.int .i64 ((S.nx : Nat) : Int), v]) :: (sl 105 2 v S.left.length (leftC S.left)) :: (refW r S.ts) :: F) (fun i => S.left.length - i) 0 ?_ ?_ ?_
  · exact ⟨rfl, rfl, rfl, (Nat.zero_le _)⟩
  · exact fun w hs => hs
  · rintro i E2 ⟨hE6_0, hE0_0, hE1_0, hi⟩
    refine Wc.seq ?_
    refine Wc.seq ?_
    refine Wc.region ?_
    refine Wl.q (v := Value.int .i64 ((i : Nat) : Int)) (q_move hE6_0) ?_
    refine Wl.q (v := Value.pointer (some ⟨wc, 0, none⟩)) (q_move hE0_0) ?_
    refine Wl.q (v := Value.pointer (some ⟨wc, 0, none⟩)) (q_nil_ptr rfl) ?_
    refine Wl.q (v := Value.pointer (some ⟨wc, 3, none⟩)) (q_field (m := 3) fo_96_3 rfl rfl) ?_
    refine Wl.q (v := v) (q_load sc_94 rfl (.cel (i := 0) rfl rfl)) ?_
    refine Wl.q (v := Value.int .i64 ((S.left.length : Nat) : Int)) (q_len_sl (i := 1) Tryz.underlying94 rfl rfl) ?_
    by_cases hlt : ((i : Nat) : Int) < ((S.left.length : Nat) : Int)
    ·
      obtain ⟨o, hget⟩ : ∃ o, S.left[i]? = some o := ⟨S.left[i]'(by omega), List.getElem?_eq_getElem (by omega)⟩
      refine Wl.sl (i := 1) (m := S.left.length) rfl (by omega) (fun vb vc hv hcl => ?_)
      subst hv
      refine Wl.q (v := Value.bool true) (q_lss (r := true) rfl rfl (decide_eq_true hlt)) ?_
      refine Wl.done ?_
      refine Wx.go ?_
      refine Wc.yes rfl ?_
      refine Wc.skip ?_
      refine Wx.go ?_
      refine Wc.seq ?_
      refine Wc.block ?_
      refine Wc.seq ?_
      refine Wc.region ?_
      refine Wl.q (v := Value.pointer (some ⟨wc, 0, none⟩)) (q_move hE0_0) ?_
      refine Wl.q (v := Value.pointer (some ⟨wc, 0, none⟩)) (q_nil_ptr rfl) ?_
      refine Wl.q (v := Value.pointer (some ⟨wc, 3, none⟩)) (q_field (m := 3) fo_96_3 rfl rfl) ?_
      refine Wl.q (v := Value.slice (some ⟨vb, 0, none⟩) S.left.length vc) (q_load sc_94 rfl (.cel (i := 0) rfl rfl)) ?_
      refine Wl.q (v := Value.int .i64 ((i : Nat) : Int)) (q_move hE6_0) ?_
      refine Wl.q (v := Value.pointer (some ⟨vb, i * 2, none⟩)) (q_idx (m := i * 2) se_94 rfl rfl (by omega) (by omega) (by simp)) ?_
      refine Wl.q (v := Value.pointer (some ⟨vb, i * 2, none⟩)) (q_field (m := i * 2) fo_105_0 rfl rfl) ?_
      refine Wl.q (v := Value.int .i64 ((o.1 : Nat) : Int)) (q_load sc_3 rfl (.row (i := 1) rfl (leftC_0 hget))) ?_
      refine Wl.q (v := Value.int .i64 ((m : Nat) : Int)) (q_move hE1_0) ?_
      refine Wl.q (v := Value.bool false) (q_eql (r := false) rfl rfl (decide_eq_false (fun h => hno o (List.mem_of_getElem? hget) (Int.ofNat.inj h)))) ?_
      refine Wl.done ?_
      refine Wx.go ?_
      refine Wc.no rfl ?_
      refine Wc.skip ?_
      refine Wx.blockEnd ?_
      refine Wx.go ?_
      refine Wc.region ?_
      refine Wl.q (v := Value.int .i64 ((i : Nat) : Int)) (q_move hE6_0) ?_
      refine Wl.q (v := Value.int .i64 ((i + 1 : Nat) : Int)) (q_add (c := ((i + 1 : Nat) : Int)) rfl rfl (by rw [wrap_i64] <;> omega)) ?_
      refine Wl.q (v := Value.int .i64 ((i + 1 : Nat) : Int)) (q_assign rfl) ?_
      refine Wl.done ?_
      refine Wx.at (i + 1) ⟨(by omega), rfl, hE0_0, hE1_0, (by omega)⟩ (fun w hs => (fun hs => st_swap (st_sl_mk (e := 105) (leftC_len _) hcl hs)) (st_pull [1, 0, 0] (hs)))
    ·
      refine Wl.q (v := Value.bool false) (q_lss (r := false) rfl rfl (decide_eq_false hlt)) ?_
      refine Wl.done ?_
      refine Wx.go ?_
      refine Wc.no rfl ?_
      refine Wc.exit ?_
      refine Wx.thenExit ?_
      refine Wx.thenExit ?_
      refine Wx.out ?_
      refine Wx.go ?_
      refine Wc.seq ?_
      refine Wc.seq ?_
      refine Wc.region ?_
      refine Wl.q (v := Value.int .i64 ((m : Nat) : Int)) (q_move hE1_0) ?_
      refine Wl.q (v := Value.pointer (some ⟨wc, 0, none⟩)) (q_move hE0_0) ?_
      refine Wl.q (v := Value.pointer (some ⟨wc, 0, none⟩)) (q_nil_ptr rfl) ?_
      refine Wl.q (v := Value.pointer (some ⟨wc, 2, none⟩)) (q_field (m := 2) fo_96_2 rfl rfl) ?_
      refine Wl.q (v := Value.int .i64 ((S.nx : Nat) : Int)) (q_load sc_3 rfl (.cel (i := 0) rfl rfl)) ?_
      refine Wl.q (v := Value.bool true) (q_lss (r := true) rfl rfl (decide_eq_true (by omega))) ?_
      refine Wl.done ?_
      refine Wx.go ?_
      refine Wc.yes rfl ?_
      refine Wc.seq ?_
      refine Wc.region ?_
      refine Wl.q (v := Value.int .i64 0) (q_assign rfl) ?_
      refine Wl.q (v := Value.int .i64 10) (q_assign rfl) ?_
      refine Wl.done ?_
      refine Wx.go ?_
      refine Wc.ret ?_
      refine Wx.thenRet ?_
      refine Wx.fin2 rfl (.inl rfl) (fun w hs => ?_)
      exact ⟨(), trivial, rfl, hs⟩

theorem rtake_limit (W0 : World) (wc r : Nat) (v : Value) (S : ChS) (hS : OkS S) (hll : S.left.length ≤ 1000) (hx : S.nx < 4611686018427387904) (m : Nat) (hm : m ≤ 9223372036854775807) (hno : ∀ p ∈ S.left, p.1 ≠ m) (hst : S.nx ≤ m) (hnl : S.left.length ≤ S.nx) (hlim : 64 < m - S.nx + S.left.length) :
    Con Tryz.prog W0 10 #[Value.pointer (some ⟨wc, 0, none⟩), Value.int .i64 ((m : Nat) : Int)] [pt wc 96 [Value.pointer (some ⟨r, 0, none⟩), Value.int .i64 ((S.z : Nat) : Int), Value.int .i64 ((S.nx : Nat) : Int), v], sl 105 2 v S.left.length (leftC S.left), refW r S.ts] (X := Unit) (fun _ => True) (fun _ => .tuple #[.int .i64 0, .int .i64 3]) (fun _ => [pt wc 96 [Value.pointer (some ⟨r, 0, none⟩), Value.int .i64 ((S.z : Nat) : Int), Value.int .i64 ((S.nx : Nat) : Int), v], sl 105 2 v S.left.length (leftC S.left), refW r S.ts]) := by
  refine Con.of (args := [Value.pointer (some ⟨wc, 0, none⟩), Value.int .i64 ((m : Nat) : Int)]) Tryz.func10 rfl Tryz.ntmps10 rfl (fun F => ?_)
  show Wc _ W0 _ _ _ _ _ ((pt wc 96 [Value.pointer (some ⟨r, 0, none⟩), Value.int .i64 ((S.z : Nat) : Int), Value.int .i64 ((S.nx : Nat) : Int), v]) :: (sl 105 2 v S.left.length (leftC S.left)) :: (refW r S.ts) :: F)
  refine Wc.seq ?_
  refine Wc.region ?_
  refine Wl.q (v := Value.int .i64 0) (q_assign rfl) ?_
  refine Wl.q (v := Value.int .i64 0) (q_assign rfl) ?_
  refine Wl.done ?_
  refine Wx.go ?_
  refine Wc.seq ?_
  refine Wc.seq ?_
  refine Wc.region ?_
  refine Wl.q (v := Value.int .i64 ((m : Nat) : Int)) (q_move rfl) ?_
  refine Wl.q (v := Value.bool false) (q_lss (r := false) rfl rfl (decide_eq_false (by omega))) ?_
  refine Wl.done ?_
  refine Wx.go ?_
  refine Wc.no rfl ?_
  refine Wc.skip ?_
  refine Wx.go ?_
  refine Wc.seq ?_
  refine Wc.seq ?_
  refine Wc.region ?_
  refine Wl.q (v := Value.int .i64 0) (q_assign rfl) ?_
  refine Wl.done ?_
  refine Wx.go ?_
  refine Wc.block ?_
  refine Wc.loop (X := Nat) (fun i E => E 6 = Value.int .i64 ((i : Nat) : Int) ∧ E 0 = Value.pointer (some ⟨wc, 0, none⟩) ∧ E 1 = Value.int .i64 ((m : Nat) : Int) ∧ i ≤ S.left.length) (fun i => (pt wc 96 [Value.pointer (some ⟨r, 0, none⟩), Value.int .i64 ((S.z : Nat) : Int), Value.int .i64 ((S.nx : Nat) : Int), v]) :: (sl 105 2 v S.left.length (leftC S.left)) :: (refW r S.ts) :: F) (fun i => S.left.length - i) 0 ?_ ?_ ?_
  · exact ⟨rfl, rfl, rfl, (Nat.zero_le _)⟩
  · exact fun w hs => hs
  · rintro i E2 ⟨hE6_0, hE0_0, hE1_0, hi⟩
    refine Wc.seq ?_
    refine Wc.seq ?_
    refine Wc.region ?_
    refine Wl.q (v := Value.int .i64 ((i : Nat) : Int)) (q_move hE6_0) ?_
    refine Wl.q (v := Value.pointer (some ⟨wc, 0, none⟩)) (q_move hE0_0) ?_
    refine Wl.q (v := Value.pointer (some ⟨wc, 0, none⟩)) (q_nil_ptr rfl) ?_
    refine Wl.q (v := Value.pointer (some ⟨wc, 3, none⟩)) (q_field (m := 3) fo_96_3 rfl rfl) ?_
    refine Wl.q (v := v) (q_load sc_94 rfl (.cel (i := 0) rfl rfl)) ?_
    refine Wl.q (v := Value.int .i64 ((S.left.length : Nat) : Int)) (q_len_sl (i := 1) Tryz.underlying94 rfl rfl) ?_
    by_cases hlt : ((i : Nat) : Int) < ((S.left.length : Nat) : Int)
    ·
      obtain ⟨o, hget⟩ : ∃ o, S.left[i]? = some o := ⟨S.left[i]'(by omega), List.getElem?_eq_getElem (by omega)⟩
      refine Wl.sl (i := 1) (m := S.left.length) rfl (by omega) (fun vb vc hv hcl => ?_)
      subst hv
      refine Wl.q (v := Value.bool true) (q_lss (r := true) rfl rfl (decide_eq_true hlt)) ?_
      refine Wl.done ?_
      refine Wx.go ?_
      refine Wc.yes rfl ?_
      refine Wc.skip ?_
      refine Wx.go ?_
      refine Wc.seq ?_
      refine Wc.block ?_
      refine Wc.seq ?_
      refine Wc.region ?_
      refine Wl.q (v := Value.pointer (some ⟨wc, 0, none⟩)) (q_move hE0_0) ?_
      refine Wl.q (v := Value.pointer (some ⟨wc, 0, none⟩)) (q_nil_ptr rfl) ?_
      refine Wl.q (v := Value.pointer (some ⟨wc, 3, none⟩)) (q_field (m := 3) fo_96_3 rfl rfl) ?_
      refine Wl.q (v := Value.slice (some ⟨vb, 0, none⟩) S.left.length vc) (q_load sc_94 rfl (.cel (i := 0) rfl rfl)) ?_
      refine Wl.q (v := Value.int .i64 ((i : Nat) : Int)) (q_move hE6_0) ?_
      refine Wl.q (v := Value.pointer (some ⟨vb, i * 2, none⟩)) (q_idx (m := i * 2) se_94 rfl rfl (by omega) (by omega) (by simp)) ?_
      refine Wl.q (v := Value.pointer (some ⟨vb, i * 2, none⟩)) (q_field (m := i * 2) fo_105_0 rfl rfl) ?_
      refine Wl.q (v := Value.int .i64 ((o.1 : Nat) : Int)) (q_load sc_3 rfl (.row (i := 1) rfl (leftC_0 hget))) ?_
      refine Wl.q (v := Value.int .i64 ((m : Nat) : Int)) (q_move hE1_0) ?_
      refine Wl.q (v := Value.bool false) (q_eql (r := false) rfl rfl (decide_eq_false (fun h => hno o (List.mem_of_getElem? hget) (Int.ofNat.inj h)))) ?_
      refine Wl.done ?_
      refine Wx.go ?_
      refine Wc.no rfl ?_
      refine Wc.skip ?_
      refine Wx.blockEnd ?_
      refine Wx.go ?_
      refine Wc.region ?_
      refine Wl.q (v := Value.int .i64 ((i : Nat) : Int)) (q_move hE6_0) ?_
      refine Wl.q (v := Value.int .i64 ((i + 1 : Nat) : Int)) (q_add (c := ((i + 1 : Nat) : Int)) rfl rfl (by rw [wrap_i64] <;> omega)) ?_
      refine Wl.q (v := Value.int .i64 ((i + 1 : Nat) : Int)) (q_assign rfl) ?_
      refine Wl.done ?_
      refine Wx.at (i + 1) ⟨(by omega), rfl, hE0_0, hE1_0, (by omega)⟩ (fun w hs => (fun hs => st_swap (st_sl_mk (e := 105) (leftC_len _) hcl hs)) (st_pull [1, 0, 0] (hs)))
    ·
      refine Wl.q (v := Value.bool false) (q_lss (r := false) rfl rfl (decide_eq_false hlt)) ?_
      refine Wl.done ?_
      refine Wx.go ?_
      refine Wc.no rfl ?_
      refine Wc.exit ?_
      refine Wx.thenExit ?_
      refine Wx.thenExit ?_
      refine Wx.out ?_
      refine Wx.go ?_
      refine Wc.seq ?_
      refine Wc.seq ?_
      refine Wc.region ?_
      refine Wl.q (v := Value.int .i64 ((m : Nat) : Int)) (q_move hE1_0) ?_
      refine Wl.q (v := Value.pointer (some ⟨wc, 0, none⟩)) (q_move hE0_0) ?_
      refine Wl.q (v := Value.pointer (some ⟨wc, 0, none⟩)) (q_nil_ptr rfl) ?_
      refine Wl.q (v := Value.pointer (some ⟨wc, 2, none⟩)) (q_field (m := 2) fo_96_2 rfl rfl) ?_
      refine Wl.q (v := Value.int .i64 ((S.nx : Nat) : Int)) (q_load sc_3 rfl (.cel (i := 0) rfl rfl)) ?_
      refine Wl.q (v := Value.bool false) (q_lss (r := false) rfl rfl (decide_eq_false (by omega))) ?_
      refine Wl.done ?_
      refine Wx.go ?_
      refine Wc.no rfl ?_
      refine Wc.skip ?_
      refine Wx.go ?_
      refine Wc.seq ?_
      refine Wc.seq ?_
      refine Wc.drawsS [] ((pt wc 96 [Value.pointer (some ⟨r, 0, none⟩), Value.int .i64 ((S.z : Nat) : Int), Value.int .i64 ((S.nx : Nat) : Int), v]) :: (sl 105 2 v S.left.length (leftC S.left)) :: (refW r S.ts) :: []) (by kernel_rfl) ?_
      refine Wr.pure (v := Value.int .i64 ((m : Nat) : Int)) 0 rfl (by kernel_rfl) (.inr (fun _ h => st_take [0, 0, 0] h)) (.inl ⟨rfl, fun _ => q_move hE1_0⟩) ?_
      refine Wr.pure (v := Value.pointer (some ⟨wc, 0, none⟩)) 1 rfl (by kernel_rfl) (.inr (fun _ h => st_take [0, 0, 0] h)) (.inl ⟨rfl, fun _ => q_move hE0_0⟩) ?_
      refine Wr.pure (v := Value.pointer (some ⟨wc, 0, none⟩)) 2 rfl (by kernel_rfl) (.inr (fun _ h => st_take [0, 0, 0] h)) (.inl ⟨rfl, fun _ => q_nil_ptr rfl⟩) ?_
      refine Wr.pure (v := Value.pointer (some ⟨wc, 2, none⟩)) 3 rfl (by kernel_rfl) (.inr (fun _ h => st_take [0, 0, 0] h)) (.inl ⟨rfl, fun _ => q_field (m := 2) fo_96_2 rfl rfl⟩) ?_
      refine Wr.take (v := Value.int .i64 ((S.nx : Nat) : Int)) 4 rfl (by kernel_rfl) (fun _ h => st_take [0, 0, 0] h) (.inl ⟨rfl, q_load sc_3 rfl (.cel (i := 0) rfl rfl)⟩) ?_
      refine Wr.pure (v := Value.int .i64 (((m : Nat) : Int) - ((S.nx : Nat) : Int))) 5 rfl (by kernel_rfl) (.inr (fun _ h => st_take [0, 0, 0] h)) (.inl ⟨rfl, fun _ => q_sub (c := (((m : Nat) : Int) - ((S.nx : Nat) : Int))) rfl rfl (wrap_i64 (by omega) (by omega))⟩) ?_
      refine Wr.pure (v := Value.pointer (some ⟨wc, 0, none⟩)) 6 rfl (by kernel_rfl) (.inr (fun _ h => st_take [0, 0, 0] h)) (.inl ⟨rfl, fun _ => q_move hE0_0⟩) ?_
      refine Wr.pure (v := Value.pointer (some ⟨wc, 0, none⟩)) 7 rfl (by kernel_rfl) (.inr (fun _ h => st_take [0, 0, 0] h)) (.inl ⟨rfl, fun _ => q_nil_ptr rfl⟩) ?_
      refine Wr.pure (v := Value.pointer (some ⟨wc, 3, none⟩)) 8 rfl (by kernel_rfl) (.inr (fun _ h => st_take [0, 0, 0] h)) (.inl ⟨rfl, fun _ => q_field (m := 3) fo_96_3 rfl rfl⟩) ?_
      refine Wr.take (v := v) 9 rfl (by kernel_rfl) (fun _ h => st_take [0, 0, 0] h) (.inl ⟨rfl, q_load sc_94 rfl (.cel (i := 0) rfl rfl)⟩) ?_
      refine Wr.take (v := Value.int .i64 ((S.left.length : Nat) : Int)) 10 rfl (by kernel_rfl) (fun _ h => st_take [0, 0, 0] h) (.inl ⟨rfl, q_len_sl (i := 1) Tryz.underlying94 rfl rfl⟩) ?_
      refine Wr.pure (v := Value.int .i64 ((((m : Nat) : Int) - ((S.nx : Nat) : Int)) + ((S.left.length : Nat) : Int))) 11 rfl (by kernel_rfl) (.inr (fun _ h => st_take [0, 0, 0] h)) (.inl ⟨rfl, fun _ => q_add (c := ((((m : Nat) : Int) - ((S.nx : Nat) : Int)) + ((S.left.length : Nat) : Int))) rfl rfl (wrap_i64 (by omega) (by omega))⟩) ?_
      refine Wr.pure (v := Value.bool true) 12 rfl (by kernel_rfl) (.inr (fun _ h => st_take [0, 0, 0] h)) (.inl ⟨rfl, fun _ => q_gtr (r := true) rfl rfl (decide_eq_true (by omega))⟩) ?_
      refine Wr.done (by kernel_rfl) ?_
      refine Wx.go ?_
      refine Wc.yes rfl ?_
      refine Wc.seq ?_
      refine Wc.region ?_
      refine Wl.q (v := Value.int .i64 0) (q_assign rfl) ?_
      refine Wl.q (v := Value.int .i64 3) (q_assign rfl) ?_
      refine Wl.done ?_
      refine Wx.go ?_
      refine Wc.ret ?_
      refine Wx.thenRet ?_
      refine Wx.fin2 rfl (.inl rfl) (fun w hs => ?_)
      exact ⟨(), trivial, rfl, hs⟩

theorem rtake_go (W0 : World) (wc r : Nat) (v : Value) (S : ChS) (hS : OkS S) (hll : S.left.length ≤ 1000) (hx : S.nx < 4611686018427387904) (m : Nat) (hm : m ≤ 9223372036854775807) (hno : ∀ p ∈ S.left, p.1 ≠ m) (hst : S.nx ≤ m) (hlim : m - S.nx + S.left.length ≤ 64) (hl : S.ts.length + 2 * (m - S.nx) + 2 ≤ 1048576) :
    Con Tryz.prog W0 10 #[Value.pointer (some ⟨wc, 0, none⟩), Value.int .i64 ((m : Nat) : Int)] [pt wc 96 [Value.pointer (some ⟨r, 0, none⟩), Value.int .i64 ((S.z : Nat) : Int), Value.int .i64 ((S.nx : Nat) : Int), v], sl 105 2 v S.left.length (leftC S.left), refW r S.ts] (X := Value) (fun _ => True) (fun _ => .tuple #[.int .i64 ((keyN (runS S (m - S.nx)) : Nat) : Int), .int .i64 0]) (fun y => [pt wc 96 [Value.pointer (some ⟨r, 0, none⟩), Value.int .i64 (((stepS (runS S (m - S.nx))).z : Nat) : Int), Value.int .i64 (((stepS (runS S (m - S.nx))).nx : Nat) : Int), y], sl 105 2 y (((stepS (runS S (m - S.nx))).left).length) (leftC ((stepS (runS S (m - S.nx))).left)), refW r ((stepS (runS S (m - S.nx))).ts)]) := by
  refine Con.of (args := [Value.pointer (some ⟨wc, 0, none⟩), Value.int .i64 ((m : Nat) : Int)]) Tryz.func10 rfl Tryz.ntmps10 rfl (fun F => ?_)
  show Wc _ W0 _ _ _ _ _ ((pt wc 96 [Value.pointer (some ⟨r, 0, none⟩), Value.int .i64 ((S.z : Nat) : Int), Value.int .i64 ((S.nx : Nat) : Int), v]) :: (sl 105 2 v S.left.length (leftC S.left)) :: (refW r S.ts) :: F)
  refine Wc.seq ?_
  refine Wc.region ?_
  refine Wl.q (v := Value.int .i64 0) (q_assign rfl) ?_
  refine Wl.q (v := Value.int .i64 0) (q_assign rfl) ?_
  refine Wl.done ?_
  refine Wx.go ?_
  refine Wc.seq ?_
  refine Wc.seq ?_
  refine Wc.region ?_
  refine Wl.q (v := Value.int .i64 ((m : Nat) : Int)) (q_move rfl) ?_
  refine Wl.q (v := Value.bool false) (q_lss (r := false) rfl rfl (decide_eq_false (by omega))) ?_
  refine Wl.done ?_
  refine Wx.go ?_
  refine Wc.no rfl ?_
  refine Wc.skip ?_
  refine Wx.go ?_
  refine Wc.seq ?_
  refine Wc.seq ?_
  refine Wc.region ?_
  refine Wl.q (v := Value.int .i64 0) (q_assign rfl) ?_
  refine Wl.done ?_
  refine Wx.go ?_
  refine Wc.block ?_
  refine Wc.loop (X := Nat) (fun i E => E 6 = Value.int .i64 ((i : Nat) : Int) ∧ E 0 = Value.pointer (some ⟨wc, 0, none⟩) ∧ E 1 = Value.int .i64 ((m : Nat) : Int) ∧ i ≤ S.left.length) (fun i => (pt wc 96 [Value.pointer (some ⟨r, 0, none⟩), Value.int .i64 ((S.z : Nat) : Int), Value.int .i64 ((S.nx : Nat) : Int), v]) :: (sl 105 2 v S.left.length (leftC S.left)) :: (refW r S.ts) :: F) (fun i => S.left.length - i) 0 ?_ ?_ ?_
  · exact ⟨rfl, rfl, rfl, (Nat.zero_le _)⟩
  · exact fun w hs => hs
  · rintro i E2 ⟨hE6_0, hE0_0, hE1_0, hi⟩
    refine Wc.seq ?_
    refine Wc.seq ?_
    refine Wc.region ?_
    refine Wl.q (v := Value.int .i64 ((i : Nat) : Int)) (q_move hE6_0) ?_
    refine Wl.q (v := Value.pointer (some ⟨wc, 0, none⟩)) (q_move hE0_0) ?_
    refine Wl.q (v := Value.pointer (some ⟨wc, 0, none⟩)) (q_nil_ptr rfl) ?_
    refine Wl.q (v := Value.pointer (some ⟨wc, 3, none⟩)) (q_field (m := 3) fo_96_3 rfl rfl) ?_
    refine Wl.q (v := v) (q_load sc_94 rfl (.cel (i := 0) rfl rfl)) ?_
    refine Wl.q (v := Value.int .i64 ((S.left.length : Nat) : Int)) (q_len_sl (i := 1) Tryz.underlying94 rfl rfl) ?_
    by_cases hlt : ((i : Nat) : Int) < ((S.left.length : Nat) : Int)
    ·
      obtain ⟨o, hget⟩ : ∃ o, S.left[i]? = some o := ⟨S.left[i]'(by omega), List.getElem?_eq_getElem (by omega)⟩
      refine Wl.sl (i := 1) (m := S.left.length) rfl (by omega) (fun vb vc hv hcl => ?_)
      subst hv
      refine Wl.q (v := Value.bool true) (q_lss (r := true) rfl rfl (decide_eq_true hlt)) ?_
      refine Wl.done ?_
      refine Wx.go ?_
      refine Wc.yes rfl ?_
      refine Wc.skip ?_
      refine Wx.go ?_
      refine Wc.seq ?_
      refine Wc.block ?_
      refine Wc.seq ?_
      refine Wc.region ?_
      refine Wl.q (v := Value.pointer (some ⟨wc, 0, none⟩)) (q_move hE0_0) ?_
      refine Wl.q (v := Value.pointer (some ⟨wc, 0, none⟩)) (q_nil_ptr rfl) ?_
      refine Wl.q (v := Value.pointer (some ⟨wc, 3, none⟩)) (q_field (m := 3) fo_96_3 rfl rfl) ?_
      refine Wl.q (v := Value.slice (some ⟨vb, 0, none⟩) S.left.length vc) (q_load sc_94 rfl (.cel (i := 0) rfl rfl)) ?_
      refine Wl.q (v := Value.int .i64 ((i : Nat) : Int)) (q_move hE6_0) ?_
      refine Wl.q (v := Value.pointer (some ⟨vb, i * 2, none⟩)) (q_idx (m := i * 2) se_94 rfl rfl (by omega) (by omega) (by simp)) ?_
      refine Wl.q (v := Value.pointer (some ⟨vb, i * 2, none⟩)) (q_field (m := i * 2) fo_105_0 rfl rfl) ?_
      refine Wl.q (v := Value.int .i64 ((o.1 : Nat) : Int)) (q_load sc_3 rfl (.row (i := 1) rfl (leftC_0 hget))) ?_
      refine Wl.q (v := Value.int .i64 ((m : Nat) : Int)) (q_move hE1_0) ?_
      refine Wl.q (v := Value.bool false) (q_eql (r := false) rfl rfl (decide_eq_false (fun h => hno o (List.mem_of_getElem? hget) (Int.ofNat.inj h)))) ?_
      refine Wl.done ?_
      refine Wx.go ?_
      refine Wc.no rfl ?_
      refine Wc.skip ?_
      refine Wx.blockEnd ?_
      refine Wx.go ?_
      refine Wc.region ?_
      refine Wl.q (v := Value.int .i64 ((i : Nat) : Int)) (q_move hE6_0) ?_
      refine Wl.q (v := Value.int .i64 ((i + 1 : Nat) : Int)) (q_add (c := ((i + 1 : Nat) : Int)) rfl rfl (by rw [wrap_i64] <;> omega)) ?_
      refine Wl.q (v := Value.int .i64 ((i + 1 : Nat) : Int)) (q_assign rfl) ?_
      refine Wl.done ?_
      refine Wx.at (i + 1) ⟨(by omega), rfl, hE0_0, hE1_0, (by omega)⟩ (fun w hs => (fun hs => st_swap (st_sl_mk (e := 105) (leftC_len _) hcl hs)) (st_pull [1, 0, 0] (hs)))
    ·
      refine Wl.q (v := Value.bool false) (q_lss (r := false) rfl rfl (decide_eq_false hlt)) ?_
      refine Wl.done ?_
      refine Wx.go ?_
      refine Wc.no rfl ?_
      refine Wc.exit ?_
      refine Wx.thenExit ?_
      refine Wx.thenExit ?_
      refine Wx.out ?_
      refine Wx.go ?_
      refine Wc.seq ?_
      refine Wc.seq ?_
      refine Wc.region ?_
      refine Wl.q (v := Value.int .i64 ((m : Nat) : Int)) (q_move hE1_0) ?_
      refine Wl.q (v := Value.pointer (some ⟨wc, 0, none⟩)) (q_move hE0_0) ?_
      refine Wl.q (v := Value.pointer (some ⟨wc, 0, none⟩)) (q_nil_ptr rfl) ?_
      refine Wl.q (v := Value.pointer (some ⟨wc, 2, none⟩)) (q_field (m := 2) fo_96_2 rfl rfl) ?_
      refine Wl.q (v := Value.int .i64 ((S.nx : Nat) : Int)) (q_load sc_3 rfl (.cel (i := 0) rfl rfl)) ?_
      refine Wl.q (v := Value.bool false) (q_lss (r := false) rfl rfl (decide_eq_false (by omega))) ?_
      refine Wl.done ?_
      refine Wx.go ?_
      refine Wc.no rfl ?_
      refine Wc.skip ?_
      refine Wx.go ?_
      refine Wc.seq ?_
      refine Wc.seq ?_
      refine Wc.drawsS [] ((pt wc 96 [Value.pointer (some ⟨r, 0, none⟩), Value.int .i64 ((S.z : Nat) : Int), Value.int .i64 ((S.nx : Nat) : Int), v]) :: (sl 105 2 v S.left.length (leftC S.left)) :: (refW r S.ts) :: []) (by kernel_rfl) ?_
      refine Wr.pure (v := Value.int .i64 ((m : Nat) : Int)) 0 rfl (by kernel_rfl) (.inr (fun _ h => st_take [0, 0, 0] h)) (.inl ⟨rfl, fun _ => q_move hE1_0⟩) ?_
      refine Wr.pure (v := Value.pointer (some ⟨wc, 0, none⟩)) 1 rfl (by kernel_rfl) (.inr (fun _ h => st_take [0, 0, 0] h)) (.inl ⟨rfl, fun _ => q_move hE0_0⟩) ?_
      refine Wr.pure (v := Value.pointer (some ⟨wc, 0, none⟩)) 2 rfl (by kernel_rfl) (.inr (fun _ h => st_take [0, 0, 0] h)) (.inl ⟨rfl, fun _ => q_nil_ptr rfl⟩) ?_
      refine Wr.pure (v := Value.pointer (some ⟨wc, 2, none⟩)) 3 rfl (by kernel_rfl) (.inr (fun _ h => st_take [0, 0, 0] h)) (.inl ⟨rfl, fun _ => q_field (m := 2) fo_96_2 rfl rfl⟩) ?_
      refine Wr.take (v := Value.int .i64 ((S.nx : Nat) : Int)) 4 rfl (by kernel_rfl) (fun _ h => st_take [0, 0, 0] h) (.inl ⟨rfl, q_load sc_3 rfl (.cel (i := 0) rfl rfl)⟩) ?_
      refine Wr.pure (v := Value.int .i64 (((m : Nat) : Int) - ((S.nx : Nat) : Int))) 5 rfl (by kernel_rfl) (.inr (fun _ h => st_take [0, 0, 0] h)) (.inl ⟨rfl, fun _ => q_sub (c := (((m : Nat) : Int) - ((S.nx : Nat) : Int))) rfl rfl (wrap_i64 (by omega) (by omega))⟩) ?_
      refine Wr.pure (v := Value.pointer (some ⟨wc, 0, none⟩)) 6 rfl (by kernel_rfl) (.inr (fun _ h => st_take [0, 0, 0] h)) (.inl ⟨rfl, fun _ => q_move hE0_0⟩) ?_
      refine Wr.pure (v := Value.pointer (some ⟨wc, 0, none⟩)) 7 rfl (by kernel_rfl) (.inr (fun _ h => st_take [0, 0, 0] h)) (.inl ⟨rfl, fun _ => q_nil_ptr rfl⟩) ?_
      refine Wr.pure (v := Value.pointer (some ⟨wc, 3, none⟩)) 8 rfl (by kernel_rfl) (.inr (fun _ h => st_take [0, 0, 0] h)) (.inl ⟨rfl, fun _ => q_field (m := 3) fo_96_3 rfl rfl⟩) ?_
      refine Wr.take (v := v) 9 rfl (by kernel_rfl) (fun _ h => st_take [0, 0, 0] h) (.inl ⟨rfl, q_load sc_94 rfl (.cel (i := 0) rfl rfl)⟩) ?_
      refine Wr.take (v := Value.int .i64 ((S.left.length : Nat) : Int)) 10 rfl (by kernel_rfl) (fun _ h => st_take [0, 0, 0] h) (.inl ⟨rfl, q_len_sl (i := 1) Tryz.underlying94 rfl rfl⟩) ?_
      refine Wr.pure (v := Value.int .i64 ((((m : Nat) : Int) - ((S.nx : Nat) : Int)) + ((S.left.length : Nat) : Int))) 11 rfl (by kernel_rfl) (.inr (fun _ h => st_take [0, 0, 0] h)) (.inl ⟨rfl, fun _ => q_add (c := ((((m : Nat) : Int) - ((S.nx : Nat) : Int)) + ((S.left.length : Nat) : Int))) rfl rfl (wrap_i64 (by omega) (by omega))⟩) ?_
      refine Wr.pure (v := Value.bool false) 12 rfl (by kernel_rfl) (.inr (fun _ h => st_take [0, 0, 0] h)) (.inl ⟨rfl, fun _ => q_gtr (r := false) rfl rfl (decide_eq_false (by omega))⟩) ?_
      refine Wr.done (by kernel_rfl) ?_
      refine Wx.go ?_
      refine Wc.no rfl ?_
      refine Wc.skip ?_
      refine Wx.go ?_
      refine Wc.seq ?_
      refine Wc.block ?_
      refine Wc.loop (X := Nat × Value) (fun (i, v) E => E 0 = Value.pointer (some ⟨wc, 0, none⟩) ∧ E 1 = Value.int .i64 ((m : Nat) : Int) ∧ i ≤ m - S.nx) (fun (i, v) => (pt wc 96 [Value.pointer (some ⟨r, 0, none⟩), Value.int .i64 (((runS S i).z : Nat) : Int), Value.int .i64 (((runS S i).nx : Nat) : Int), v]) :: (sl 105 2 v (((runS S i).left).length) (leftC ((runS S i).left))) :: (refW r ((runS S i).ts)) :: F) (fun (i, v) => m - S.nx - i) (0, v) ?_ ?_ ?_
      · exact ⟨hE0_0, hE1_0, (Nat.zero_le _)⟩
      · exact fun w hs => hs
      · rintro ⟨i, v⟩ E4 ⟨hE0_2, hE1_2, hi2⟩
        dsimp only at *
        obtain ⟨hT, hTn, hTl, hTt, hTe⟩ := runS_ok hS i (by omega)
        have hTp := hT.pos
        obtain ⟨ok1, e1, a1, I1⟩ := kdf_made (l := 11) (a := ((runS S i).z : Int)) (b := 0) hT.wf (by decide) (by omega) (.inr rfl) (by omega)
        have I1l := I1.len
        have I1e := I1.ext.len
        simp only at I1l I1e
        obtain ⟨ok2, e2, a2, I2⟩ := kdf_made (l := 10) (a := ((runS S i).z : Int)) (b := 0) I1.wf (by decide) (by simp only; omega) (.inr rfl) (by simp only; omega)
        refine Wc.seq ?_
        refine Wc.seq ?_
        refine Wc.region ?_
        refine Wl.q (v := Value.pointer (some ⟨wc, 0, none⟩)) (q_move hE0_2) ?_
        refine Wl.q (v := Value.pointer (some ⟨wc, 0, none⟩)) (q_nil_ptr rfl) ?_
        refine Wl.q (v := Value.pointer (some ⟨wc, 2, none⟩)) (q_field (m := 2) fo_96_2 rfl rfl) ?_
        refine Wl.q (v := Value.int .i64 (((runS S i).nx : Nat) : Int)) (q_load sc_3 rfl (.cel (i := 0) rfl rfl)) ?_
        refine Wl.q (v := Value.int .i64 ((m : Nat) : Int)) (q_move hE1_2) ?_
        by_cases hlt2 : (((runS S i).nx : Nat) : Int) < ((m : Nat) : Int)
        ·
          refine Wl.q (v := Value.bool true) (q_lss (r := true) rfl rfl (decide_eq_true hlt2)) ?_
          refine Wl.done ?_
          refine Wx.go ?_
          refine Wc.yes rfl ?_
          refine Wc.skip ?_
          refine Wx.go ?_
          refine Wc.block ?_
          refine Wc.seq ?_
          refine Wc.drawsS [23] ((pt wc 96 [Value.pointer (some ⟨r, 0, none⟩), Value.int .i64 (((runS S i).z : Nat) : Int), Value.int .i64 (((runS S i).nx : Nat) : Int), v]) :: []) (by kernel_rfl) ?_
          refine Wr.pure (v := Value.pointer (some ⟨wc, 0, none⟩)) 0 rfl (by kernel_rfl) (.inr (fun _ h => st_take [0] h)) (.inl ⟨rfl, fun _ => q_move hE0_2⟩) ?_
          refine Wr.pure (v := Value.pointer (some ⟨wc, 0, none⟩)) 1 rfl (by kernel_rfl) (.inr (fun _ h => st_take [0] h)) (.inl ⟨rfl, fun _ => q_move hE0_2⟩) ?_
          refine Wr.pure (v := Value.pointer (some ⟨wc, 0, none⟩)) 2 rfl (by kernel_rfl) (.inr (fun _ h => st_take [0] h)) (.inl ⟨rfl, fun _ => q_nil_ptr rfl⟩) ?_
          refine Wr.pure (v := Value.pointer (some ⟨wc, 3, none⟩)) 3 rfl (by kernel_rfl) (.inr (fun _ h => st_take [0] h)) (.inl ⟨rfl, fun _ => q_field (m := 3) fo_96_3 rfl rfl⟩) ?_
          refine Wr.take (v := v) 4 rfl (by kernel_rfl) (fun _ h => st_take [0] h) (.inl ⟨rfl, q_load sc_94 rfl (.cel (i := 0) rfl rfl)⟩) ?_
          refine Wr.pure (v := Value.pointer (some ⟨wc, 0, none⟩)) 5 rfl (by kernel_rfl) (.inr (fun _ h => st_take [0] h)) (.inl ⟨rfl, fun _ => q_move hE0_2⟩) ?_
          refine Wr.pure (v := Value.pointer (some ⟨wc, 0, none⟩)) 6 rfl (by kernel_rfl) (.inr (fun _ h => st_take [0] h)) (.inl ⟨rfl, fun _ => q_nil_ptr rfl⟩) ?_
          refine Wr.pure (v := Value.pointer (some ⟨wc, 2, none⟩)) 7 rfl (by kernel_rfl) (.inr (fun _ h => st_take [0] h)) (.inl ⟨rfl, fun _ => q_field (m := 2) fo_96_2 rfl rfl⟩) ?_
          refine Wr.take (v := Value.int .i64 (((runS S i).nx : Nat) : Int)) 8 rfl (by kernel_rfl) (fun _ h => st_take [0] h) (.inl ⟨rfl, q_load sc_3 rfl (.cel (i := 0) rfl rfl)⟩) ?_
          refine Wr.pure (v := Value.pointer (some ⟨wc, 0, none⟩)) 9 rfl (by kernel_rfl) (.inr (fun _ h => st_take [0] h)) (.inl ⟨rfl, fun _ => q_move hE0_2⟩) ?_
          refine Wr.pure (v := Value.pointer (some ⟨wc, 0, none⟩)) 10 rfl (by kernel_rfl) (.inr (fun _ h => st_take [0] h)) (.inl ⟨rfl, fun _ => q_nil_ptr rfl⟩) ?_
          refine Wr.pure (v := Value.pointer (some ⟨wc, 0, none⟩)) 11 rfl (by kernel_rfl) (.inr (fun _ h => st_take [0] h)) (.inl ⟨rfl, fun _ => q_field (m := 0) fo_96_0 rfl rfl⟩) ?_
          refine Wr.take (v := Value.pointer (some ⟨r, 0, none⟩)) 12 rfl (by kernel_rfl) (fun _ h => st_take [0] h) (.inl ⟨rfl, q_load sc_25 rfl (.cel (i := 0) rfl rfl)⟩) ?_
          refine Wr.pure (v := Value.pointer (some ⟨wc, 0, none⟩)) 13 rfl (by kernel_rfl) (.inr (fun _ h => st_take [0] h)) (.inl ⟨rfl, fun _ => q_move hE0_2⟩) ?_
          refine Wr.pure (v := Value.pointer (some ⟨wc, 0, none⟩)) 14 rfl (by kernel_rfl) (.inr (fun _ h => st_take [0] h)) (.inl ⟨rfl, fun _ => q_nil_ptr rfl⟩) ?_
          refine Wr.pure (v := Value.pointer (some ⟨wc, 1, none⟩)) 15 rfl (by kernel_rfl) (.inr (fun _ h => st_take [0] h)) (.inl ⟨rfl, fun _ => q_field (m := 1) fo_96_1 rfl rfl⟩) ?_
          refine Wr.take (v := Value.int .i64 (((runS S i).z : Nat) : Int)) 16 rfl (by kernel_rfl) (fun _ h => st_take [0] h) (.inl ⟨rfl, q_load sc_3 rfl (.cel (i := 0) rfl rfl)⟩) ?_
          refine Wr.imp (L' := (refW r ((runS S i).ts)) :: (pt wc 96 [Value.pointer (some ⟨r, 0, none⟩), Value.int .i64 (((runS S i).z : Nat) : Int), Value.int .i64 (((runS S i).nx : Nat) : Int), v]) :: (sl 105 2 v (((runS S i).left).length) (leftC ((runS S i).left))) :: F) (fun _ h => st_pull [2] h) ?_
          refine Wr.e 17 (by kernel_rfl) rfl (e_call (F := (pt wc 96 [Value.pointer (some ⟨r, 0, none⟩), Value.int .i64 (((runS S i).z : Nat) : Int), Value.int .i64 (((runS S i).nx : Nat) : Int), v]) :: (sl 105 2 v (((runS S i).left).length) (leftC ((runS S i).left))) :: F) (args := [Value.pointer (some ⟨r, 0, none⟩), Value.int .i64 11, Value.int .i64 (((runS S i).z : Nat) : Int), Value.int .i64 0]) Tryz.call27 rfl (rkdf_w W0 r ((runS S i).ts) (mk ((runS S i).ts) ⟨4, 11, (((runS S i).z : Nat) : Int), 0⟩).1 11 (((runS S i).z : Nat) : Int) 0 (mk ((runS S i).ts) ⟨4, 11, (((runS S i).z : Nat) : Int), 0⟩).2.1 ok1 e1)) (.inr fun _ _ _ h => st_take [1] h) (fun _ _ => ?_)
          refine Wr.imp (L' := (refW r ((mk ((runS S i).ts) ⟨4, 11, (((runS S i).z : Nat) : Int), 0⟩).1)) :: (pt wc 96 [Value.pointer (some ⟨r, 0, none⟩), Value.int .i64 (((runS S i).z : Nat) : Int), Value.int .i64 (((runS S i).nx : Nat) : Int), v]) :: (sl 105 2 v (((runS S i).left).length) (leftC ((runS S i).left))) :: F) (fun _ h => h) ?_
          refine Wr.pure (v := Value.agg #[Value.int .i64 (((runS S i).nx : Nat) : Int), Value.int .i64 (((mk ((runS S i).ts) ⟨4, 11, (((runS S i).z : Nat) : Int), 0⟩).2.1 : Nat) : Int)]) 18 rfl (by kernel_rfl) (.inr (fun _ h => st_take [1] h)) (.inl ⟨rfl, fun _ => q_build (pl := [(0, 1), (1, 1)]) Tryz.underlying105 zo_105 (by kernel_rfl) (by kernel_rfl)⟩) ?_
          refine Wr.e 19 (by kernel_rfl) rfl (e_buildSlice (cs := [Value.int .i64 (((runS S i).nx : Nat) : Int), Value.int .i64 (((mk ((runS S i).ts) ⟨4, 11, (((runS S i).z : Nat) : Int), 0⟩).2.1 : Nat) : Int)]) se_94 zo_105 (by decide) (by decide) (by kernel_rfl)) (.inr fun _ _ _ h => st_take [2] h) (fun b5 _ => ?_)
          refine Wr.imp (L' := (pt b5 105 [Value.int .i64 (((runS S i).nx : Nat) : Int), Value.int .i64 (((mk ((runS S i).ts) ⟨4, 11, (((runS S i).z : Nat) : Int), 0⟩).2.1 : Nat) : Int)]) :: (refW r ((mk ((runS S i).ts) ⟨4, 11, (((runS S i).z : Nat) : Int), 0⟩).1)) :: (pt wc 96 [Value.pointer (some ⟨r, 0, none⟩), Value.int .i64 (((runS S i).z : Nat) : Int), Value.int .i64 (((runS S i).nx : Nat) : Int), v]) :: (sl 105 2 v (((runS S i).left).length) (leftC ((runS S i).left))) :: F) (fun _ h => h) ?_
          refine Wr.more (S' := (pt b5 105 [Value.int .i64 (((runS S i).nx : Nat) : Int), Value.int .i64 (((mk ((runS S i).ts) ⟨4, 11, (((runS S i).z : Nat) : Int), 0⟩).2.1 : Nat) : Int)]) :: (pt wc 96 [Value.pointer (some ⟨r, 0, none⟩), Value.int .i64 (((runS S i).z : Nat) : Int), Value.int .i64 (((runS S i).nx : Nat) : Int), v]) :: []) (fun _ h => st_drop h) ?_
          refine Wr.e 20 (by kernel_rfl) rfl (e_append (i := 3) (k := 2) (m := 1) (off := 0) (news := [Value.int .i64 (((runS S i).nx : Nat) : Int), Value.int .i64 (((mk ((runS S i).ts) ⟨4, 11, (((runS S i).z : Nat) : Int), 0⟩).2.1 : Nat) : Int)]) Tryz.underlying94 sz_105 by_105 zo_105 rfl rfl rfl rfl rfl (Has.of_pt (i := 0) rfl rfl) rfl (by decide) (by simp only [maxLen]; omega) (by omega)) (.inr fun _ _ _ h => st_take [0, 1] h) (fun v2 _ => ?_)
          refine Wr.imp (L' := (pt b5 105 [Value.int .i64 (((runS S i).nx : Nat) : Int), Value.int .i64 (((mk ((runS S i).ts) ⟨4, 11, (((runS S i).z : Nat) : Int), 0⟩).2.1 : Nat) : Int)]) :: (refW r ((mk ((runS S i).ts) ⟨4, 11, (((runS S i).z : Nat) : Int), 0⟩).1)) :: (pt wc 96 [Value.pointer (some ⟨r, 0, none⟩), Value.int .i64 (((runS S i).z : Nat) : Int), Value.int .i64 (((runS S i).nx : Nat) : Int), v]) :: (sl 105 2 v2 ((((runS S i).left).length) + 1) ((leftC ((runS S i).left)) ++ [Value.int .i64 (((runS S i).nx : Nat) : Int), Value.int .i64 (((mk ((runS S i).ts) ⟨4, 11, (((runS S i).z : Nat) : Int), 0⟩).2.1 : Nat) : Int)])) :: F) (fun _ h => h) ?_
          refine Wr.pure (v := Value.pointer (some ⟨wc, 0, none⟩)) 21 rfl (by kernel_rfl) (.inr (fun _ h => st_take [0, 1] h)) (.inl ⟨rfl, fun _ => q_nil_ptr rfl⟩) ?_
          refine Wr.pure (v := Value.pointer (some ⟨wc, 3, none⟩)) 22 rfl (by kernel_rfl) (.inr (fun _ h => st_take [0, 1] h)) (.inl ⟨rfl, fun _ => q_field (m := 3) fo_96_3 rfl rfl⟩) ?_
          refine Wr.e 23 (by kernel_rfl) rfl (e_store (i := 2) (v := v2) sz_94 rfl rfl (fun _ h => sl_one (i := 3) h rfl) rfl (by simp)) (.inl (by kernel_rfl)) (fun _ _ => ?_)
          refine Wr.imp (L' := (pt b5 105 [Value.int .i64 (((runS S i).nx : Nat) : Int), Value.int .i64 (((mk ((runS S i).ts) ⟨4, 11, (((runS S i).z : Nat) : Int), 0⟩).2.1 : Nat) : Int)]) :: (refW r ((mk ((runS S i).ts) ⟨4, 11, (((runS S i).z : Nat) : Int), 0⟩).1)) :: (pt wc 96 [Value.pointer (some ⟨r, 0, none⟩), Value.int .i64 (((runS S i).z : Nat) : Int), Value.int .i64 (((runS S i).nx : Nat) : Int), v2]) :: (sl 105 2 v2 ((((runS S i).left).length) + 1) ((leftC ((runS S i).left)) ++ [Value.int .i64 (((runS S i).nx : Nat) : Int), Value.int .i64 (((mk ((runS S i).ts) ⟨4, 11, (((runS S i).z : Nat) : Int), 0⟩).2.1 : Nat) : Int)])) :: F) (fun _ h => h) ?_
          refine Wr.rebaseS [] ((pt b5 105 [Value.int .i64 (((runS S i).nx : Nat) : Int), Value.int .i64 (((mk ((runS S i).ts) ⟨4, 11, (((runS S i).z : Nat) : Int), 0⟩).2.1 : Nat) : Int)]) :: (refW r ((mk ((runS S i).ts) ⟨4, 11, (((runS S i).z : Nat) : Int), 0⟩).1)) :: (pt wc 96 [Value.pointer (some ⟨r, 0, none⟩), Value.int .i64 (((runS S i).z : Nat) : Int), Value.int .i64 (((runS S i).nx : Nat) : Int), v2]) :: (sl 105 2 v2 ((((runS S i).left).length) + 1) ((leftC ((runS S i).left)) ++ [Value.int .i64 (((runS S i).nx : Nat) : Int), Value.int .i64 (((mk ((runS S i).ts) ⟨4, 11, (((runS S i).z : Nat) : Int), 0⟩).2.1 : Nat) : Int)])) :: []) (by kernel_rfl) ?_
          refine Wr.done (by kernel_rfl) ?_
          refine Wx.go ?_
          refine Wc.seq ?_
          refine Wc.drawsS [12] ((pt b5 105 [Value.int .i64 (((runS S i).nx : Nat) : Int), Value.int .i64 (((mk ((runS S i).ts) ⟨4, 11, (((runS S i).z : Nat) : Int), 0⟩).2.1 : Nat) : Int)]) :: (pt wc 96 [Value.pointer (some ⟨r, 0, none⟩), Value.int .i64 (((runS S i).z : Nat) : Int), Value.int .i64 (((runS S i).nx : Nat) : Int), v2]) :: []) (by kernel_rfl) ?_
          refine Wr.pure (v := Value.pointer (some ⟨wc, 0, none⟩)) 0 rfl (by kernel_rfl) (.inr (fun _ h => st_take [0, 1] h)) (.inl ⟨rfl, fun _ => q_move hE0_2⟩) ?_
          refine Wr.pure (v := Value.pointer (some ⟨wc, 0, none⟩)) 1 rfl (by kernel_rfl) (.inr (fun _ h => st_take [0, 1] h)) (.inl ⟨rfl, fun _ => q_move hE0_2⟩) ?_
          refine Wr.pure (v := Value.pointer (some ⟨wc, 0, none⟩)) 2 rfl (by kernel_rfl) (.inr (fun _ h => st_take [0, 1] h)) (.inl ⟨rfl, fun _ => q_nil_ptr rfl⟩) ?_
          refine Wr.pure (v := Value.pointer (some ⟨wc, 0, none⟩)) 3 rfl (by kernel_rfl) (.inr (fun _ h => st_take [0, 1] h)) (.inl ⟨rfl, fun _ => q_field (m := 0) fo_96_0 rfl rfl⟩) ?_
          refine Wr.take (v := Value.pointer (some ⟨r, 0, none⟩)) 4 rfl (by kernel_rfl) (fun _ h => st_take [0, 1] h) (.inl ⟨rfl, q_load sc_25 rfl (.cel (i := 1) rfl rfl)⟩) ?_
          refine Wr.pure (v := Value.pointer (some ⟨wc, 0, none⟩)) 5 rfl (by kernel_rfl) (.inr (fun _ h => st_take [0, 1] h)) (.inl ⟨rfl, fun _ => q_move hE0_2⟩) ?_
          refine Wr.pure (v := Value.pointer (some ⟨wc, 0, none⟩)) 6 rfl (by kernel_rfl) (.inr (fun _ h => st_take [0, 1] h)) (.inl ⟨rfl, fun _ => q_nil_ptr rfl⟩) ?_
          refine Wr.pure (v := Value.pointer (some ⟨wc, 1, none⟩)) 7 rfl (by kernel_rfl) (.inr (fun _ h => st_take [0, 1] h)) (.inl ⟨rfl, fun _ => q_field (m := 1) fo_96_1 rfl rfl⟩) ?_
          refine Wr.take (v := Value.int .i64 (((runS S i).z : Nat) : Int)) 8 rfl (by kernel_rfl) (fun _ h => st_take [0, 1] h) (.inl ⟨rfl, q_load sc_3 rfl (.cel (i := 1) rfl rfl)⟩) ?_
          refine Wr.imp (L' := (refW r ((mk ((runS S i).ts) ⟨4, 11, (((runS S i).z : Nat) : Int), 0⟩).1)) :: (pt b5 105 [Value.int .i64 (((runS S i).nx : Nat) : Int), Value.int .i64 (((mk ((runS S i).ts) ⟨4, 11, (((runS S i).z : Nat) : Int), 0⟩).2.1 : Nat) : Int)]) :: (pt wc 96 [Value.pointer (some ⟨r, 0, none⟩), Value.int .i64 (((runS S i).z : Nat) : Int), Value.int .i64 (((runS S i).nx : Nat) : Int), v2]) :: (sl 105 2 v2 ((((runS S i).left).length) + 1) ((leftC ((runS S i).left)) ++ [Value.int .i64 (((runS S i).nx : Nat) : Int), Value.int .i64 (((mk ((runS S i).ts) ⟨4, 11, (((runS S i).z : Nat) : Int), 0⟩).2.1 : Nat) : Int)])) :: F) (fun _ h => st_pull [1] h) ?_
          refine Wr.e 9 (by kernel_rfl) rfl (e_call (F := (pt b5 105 [Value.int .i64 (((runS S i).nx : Nat) : Int), Value.int .i64 (((mk ((runS S i).ts) ⟨4, 11, (((runS S i).z : Nat) : Int), 0⟩).2.1 : Nat) : Int)]) :: (pt wc 96 [Value.pointer (some ⟨r, 0, none⟩), Value.int .i64 (((runS S i).z : Nat) : Int), Value.int .i64 (((runS S i).nx : Nat) : Int), v2]) :: (sl 105 2 v2 ((((runS S i).left).length) + 1) ((leftC ((runS S i).left)) ++ [Value.int .i64 (((runS S i).nx : Nat) : Int), Value.int .i64 (((mk ((runS S i).ts) ⟨4, 11, (((runS S i).z : Nat) : Int), 0⟩).2.1 : Nat) : Int)])) :: F) (args := [Value.pointer (some ⟨r, 0, none⟩), Value.int .i64 10, Value.int .i64 (((runS S i).z : Nat) : Int), Value.int .i64 0]) Tryz.call27 rfl (rkdf_w W0 r ((mk ((runS S i).ts) ⟨4, 11, (((runS S i).z : Nat) : Int), 0⟩).1) (mk ((mk ((runS S i).ts) ⟨4, 11, (((runS S i).z : Nat) : Int), 0⟩).1) ⟨4, 10, (((runS S i).z : Nat) : Int), 0⟩).1 10 (((runS S i).z : Nat) : Int) 0 (mk ((mk ((runS S i).ts) ⟨4, 11, (((runS S i).z : Nat) : Int), 0⟩).1) ⟨4, 10, (((runS S i).z : Nat) : Int), 0⟩).2.1 ok2 e2)) (.inr fun _ _ _ h => st_take [1, 1] h) (fun _ _ => ?_)
          refine Wr.imp (L' := (refW r ((mk ((mk ((runS S i).ts) ⟨4, 11, (((runS S i).z : Nat) : Int), 0⟩).1) ⟨4, 10, (((runS S i).z : Nat) : Int), 0⟩).1)) :: (pt b5 105 [Value.int .i64 (((runS S i).nx : Nat) : Int), Value.int .i64 (((mk ((runS S i).ts) ⟨4, 11, (((runS S i).z : Nat) : Int), 0⟩).2.1 : Nat) : Int)]) :: (pt wc 96 [Value.pointer (some ⟨r, 0, none⟩), Value.int .i64 (((runS S i).z : Nat) : Int), Value.int .i64 (((runS S i).nx : Nat) : Int), v2]) :: (sl 105 2 v2 ((((runS S i).left).length) + 1) ((leftC ((runS S i).left)) ++ [Value.int .i64 (((runS S i).nx : Nat) : Int), Value.int .i64 (((mk ((runS S i).ts) ⟨4, 11, (((runS S i).z : Nat) : Int), 0⟩).2.1 : Nat) : Int)])) :: F) (fun _ h => h) ?_
          refine Wr.pure (v := Value.pointer (some ⟨wc, 0, none⟩)) 10 rfl (by kernel_rfl) (.inr (fun _ h => st_take [1, 1] h)) (.inl ⟨rfl, fun _ => q_nil_ptr rfl⟩) ?_
          refine Wr.pure (v := Value.pointer (some ⟨wc, 1, none⟩)) 11 rfl (by kernel_rfl) (.inr (fun _ h => st_take [1, 1] h)) (.inl ⟨rfl, fun _ => q_field (m := 1) fo_96_1 rfl rfl⟩) ?_
          refine Wr.e 12 (by kernel_rfl) rfl (e_store (i := 2) (v := Value.int .i64 (((mk ((mk ((runS S i).ts) ⟨4, 11, (((runS S i).z : Nat) : Int), 0⟩).1) ⟨4, 10, (((runS S i).z : Nat) : Int), 0⟩).2.1 : Nat) : Int)) sz_3 rfl rfl (fun _ _ => rfl) rfl (by simp)) (.inl (by kernel_rfl)) (fun _ _ => ?_)
          refine Wr.imp (L' := (refW r ((mk ((mk ((runS S i).ts) ⟨4, 11, (((runS S i).z : Nat) : Int), 0⟩).1) ⟨4, 10, (((runS S i).z : Nat) : Int), 0⟩).1)) :: (pt b5 105 [Value.int .i64 (((runS S i).nx : Nat) : Int), Value.int .i64 (((mk ((runS S i).ts) ⟨4, 11, (((runS S i).z : Nat) : Int), 0⟩).2.1 : Nat) : Int)]) :: (pt wc 96 [Value.pointer (some ⟨r, 0, none⟩), Value.int .i64 (((mk ((mk ((runS S i).ts) ⟨4, 11, (((runS S i).z : Nat) : Int), 0⟩).1) ⟨4, 10, (((runS S i).z : Nat) : Int), 0⟩).2.1 : Nat) : Int), Value.int .i64 (((runS S i).nx : Nat) : Int), v2]) :: (sl 105 2 v2 ((((runS S i).left).length) + 1) ((leftC ((runS S i).left)) ++ [Value.int .i64 (((runS S i).nx : Nat) : Int), Value.int .i64 (((mk ((runS S i).ts) ⟨4, 11, (((runS S i).z : Nat) : Int), 0⟩).2.1 : Nat) : Int)])) :: F) (fun _ h => h) ?_
          refine Wr.rebaseS [] ((refW r ((mk ((mk ((runS S i).ts) ⟨4, 11, (((runS S i).z : Nat) : Int), 0⟩).1) ⟨4, 10, (((runS S i).z : Nat) : Int), 0⟩).1)) :: (pt b5 105 [Value.int .i64 (((runS S i).nx : Nat) : Int), Value.int .i64 (((mk ((runS S i).ts) ⟨4, 11, (((runS S i).z : Nat) : Int), 0⟩).2.1 : Nat) : Int)]) :: (pt wc 96 [Value.pointer (some ⟨r, 0, none⟩), Value.int .i64 (((mk ((mk ((runS S i).ts) ⟨4, 11, (((runS S i).z : Nat) : Int), 0⟩).1) ⟨4, 10, (((runS S i).z : Nat) : Int), 0⟩).2.1 : Nat) : Int), Value.int .i64 (((runS S i).nx : Nat) : Int), v2]) :: (sl 105 2 v2 ((((runS S i).left).length) + 1) ((leftC ((runS S i).left)) ++ [Value.int .i64 (((runS S i).nx : Nat) : Int), Value.int .i64 (((mk ((runS S i).ts) ⟨4, 11, (((runS S i).z : Nat) : Int), 0⟩).2.1 : Nat) : Int)])) :: []) (by kernel_rfl) ?_
          refine Wr.done (by kernel_rfl) ?_
          refine Wx.go ?_
          refine Wc.region ?_
          refine Wl.q (v := Value.pointer (some ⟨wc, 0, none⟩)) (q_move hE0_2) ?_
          refine Wl.q (v := Value.pointer (some ⟨wc, 0, none⟩)) (q_nil_ptr rfl) ?_
          refine Wl.q (v := Value.pointer (some ⟨wc, 2, none⟩)) (q_field (m := 2) fo_96_2 rfl rfl) ?_
          refine Wl.q (v := Value.int .i64 (((runS S i).nx : Nat) : Int)) (q_load sc_3 rfl (.cel (i := 2) rfl rfl)) ?_
          refine Wl.q (v := Value.int .i64 ((((runS S i).nx) + 1 : Nat) : Int)) (q_add (c := ((((runS S i).nx) + 1 : Nat) : Int)) rfl rfl (by rw [wrap_i64] <;> omega)) ?_
          refine Wl.q (v := Value.pointer (some ⟨wc, 0, none⟩)) (q_nil_ptr rfl) ?_
          refine Wl.q (v := Value.pointer (some ⟨wc, 2, none⟩)) (q_field (m := 2) fo_96_2 rfl rfl) ?_
          refine Wl.e (e_store (i := 2) (v := Value.int .i64 ((((runS S i).nx) + 1 : Nat) : Int)) sz_3 rfl rfl (fun _ _ => rfl) rfl (by simp)) (fun _ _ => ?_)
          refine Wl.imp (L' := (refW r ((mk ((mk ((runS S i).ts) ⟨4, 11, (((runS S i).z : Nat) : Int), 0⟩).1) ⟨4, 10, (((runS S i).z : Nat) : Int), 0⟩).1)) :: (pt b5 105 [Value.int .i64 (((runS S i).nx : Nat) : Int), Value.int .i64 (((mk ((runS S i).ts) ⟨4, 11, (((runS S i).z : Nat) : Int), 0⟩).2.1 : Nat) : Int)]) :: (pt wc 96 [Value.pointer (some ⟨r, 0, none⟩), Value.int .i64 (((mk ((mk ((runS S i).ts) ⟨4, 11, (((runS S i).z : Nat) : Int), 0⟩).1) ⟨4, 10, (((runS S i).z : Nat) : Int), 0⟩).2.1 : Nat) : Int), Value.int .i64 ((((runS S i).nx) + 1 : Nat) : Int), v2]) :: (sl 105 2 v2 ((((runS S i).left).length) + 1) ((leftC ((runS S i).left)) ++ [Value.int .i64 (((runS S i).nx : Nat) : Int), Value.int .i64 (((mk ((runS S i).ts) ⟨4, 11, (((runS S i).z : Nat) : Int), 0⟩).2.1 : Nat) : Int)])) :: F) (fun _ h => h) ?_
          refine Wl.done ?_
          refine Wx.blockEnd ?_
          refine Wx.at (i + 1, v2) ⟨(by simp only; omega), hE0_2, hE1_2, (by simp only; omega)⟩ (fun w hs => by have h2 : st W0 w ((pt wc 96 [Value.pointer (some ⟨r, 0, none⟩), Value.int .i64 (((runS S (i + 1)).z : Nat) : Int), Value.int .i64 (((runS S (i + 1)).nx : Nat) : Int), v2]) :: (sl 105 2 v2 (((runS S (i + 1)).left).length) (leftC ((runS S (i + 1)).left))) :: (refW r ((runS S (i + 1)).ts)) :: F) := (by rw [show (runS S (i + 1)).left = (runS S i).left ++ [((runS S i).nx, keyN (runS S i))] from rfl, leftC_snoc, List.length_append]; exact (st_pull [1, 1, 0] (st_drop (st_pull [1] hs)))); exact h2)
        ·
          have he : i = m - S.nx := by omega
          refine Wl.q (v := Value.bool false) (q_lss (r := false) rfl rfl (decide_eq_false hlt2)) ?_
          refine Wl.done ?_
          refine Wx.go ?_
          refine Wc.no rfl ?_
          refine Wc.exit ?_
          refine Wx.thenExit ?_
          refine Wx.thenExit ?_
          refine Wx.out ?_
          refine Wx.go ?_
          refine Wc.seq ?_
          refine Wc.drawsS [8] ((pt wc 96 [Value.pointer (some ⟨r, 0, none⟩), Value.int .i64 (((runS S i).z : Nat) : Int), Value.int .i64 (((runS S i).nx : Nat) : Int), v]) :: (sl 105 2 v (((runS S i).left).length) (leftC ((runS S i).left))) :: (refW r ((runS S i).ts)) :: []) (by kernel_rfl) ?_
          refine Wr.pure (v := Value.pointer (some ⟨wc, 0, none⟩)) 0 rfl (by kernel_rfl) (.inr (fun _ h => st_take [0, 0, 0] h)) (.inl ⟨rfl, fun _ => q_move hE0_2⟩) ?_
          refine Wr.pure (v := Value.pointer (some ⟨wc, 0, none⟩)) 1 rfl (by kernel_rfl) (.inr (fun _ h => st_take [0, 0, 0] h)) (.inl ⟨rfl, fun _ => q_nil_ptr rfl⟩) ?_
          refine Wr.pure (v := Value.pointer (some ⟨wc, 0, none⟩)) 2 rfl (by kernel_rfl) (.inr (fun _ h => st_take [0, 0, 0] h)) (.inl ⟨rfl, fun _ => q_field (m := 0) fo_96_0 rfl rfl⟩) ?_
          refine Wr.take (v := Value.pointer (some ⟨r, 0, none⟩)) 3 rfl (by kernel_rfl) (fun _ h => st_take [0, 0, 0] h) (.inl ⟨rfl, q_load sc_25 rfl (.cel (i := 0) rfl rfl)⟩) ?_
          refine Wr.pure (v := Value.pointer (some ⟨wc, 0, none⟩)) 4 rfl (by kernel_rfl) (.inr (fun _ h => st_take [0, 0, 0] h)) (.inl ⟨rfl, fun _ => q_move hE0_2⟩) ?_
          refine Wr.pure (v := Value.pointer (some ⟨wc, 0, none⟩)) 5 rfl (by kernel_rfl) (.inr (fun _ h => st_take [0, 0, 0] h)) (.inl ⟨rfl, fun _ => q_nil_ptr rfl⟩) ?_
          refine Wr.pure (v := Value.pointer (some ⟨wc, 1, none⟩)) 6 rfl (by kernel_rfl) (.inr (fun _ h => st_take [0, 0, 0] h)) (.inl ⟨rfl, fun _ => q_field (m := 1) fo_96_1 rfl rfl⟩) ?_
          refine Wr.take (v := Value.int .i64 (((runS S i).z : Nat) : Int)) 7 rfl (by kernel_rfl) (fun _ h => st_take [0, 0, 0] h) (.inl ⟨rfl, q_load sc_3 rfl (.cel (i := 0) rfl rfl)⟩) ?_
          refine Wr.imp (L' := (refW r ((runS S i).ts)) :: (pt wc 96 [Value.pointer (some ⟨r, 0, none⟩), Value.int .i64 (((runS S i).z : Nat) : Int), Value.int .i64 (((runS S i).nx : Nat) : Int), v]) :: (sl 105 2 v (((runS S i).left).length) (leftC ((runS S i).left))) :: F) (fun _ h => st_pull [2] h) ?_
          refine Wr.e 8 (by kernel_rfl) rfl (e_call (F := (pt wc 96 [Value.pointer (some ⟨r, 0, none⟩), Value.int .i64 (((runS S i).z : Nat) : Int), Value.int .i64 (((runS S i).nx : Nat) : Int), v]) :: (sl 105 2 v (((runS S i).left).length) (leftC ((runS S i).left))) :: F) (args := [Value.pointer (some ⟨r, 0, none⟩), Value.int .i64 11, Value.int .i64 (((runS S i).z : Nat) : Int), Value.int .i64 0]) Tryz.call27 rfl (rkdf_w W0 r ((runS S i).ts) (mk ((runS S i).ts) ⟨4, 11, (((runS S i).z : Nat) : Int), 0⟩).1 11 (((runS S i).z : Nat) : Int) 0 (mk ((runS S i).ts) ⟨4, 11, (((runS S i).z : Nat) : Int), 0⟩).2.1 ok1 e1)) (.inl (by kernel_rfl)) (fun _ _ => ?_)
          refine Wr.imp (L' := (refW r ((mk ((runS S i).ts) ⟨4, 11, (((runS S i).z : Nat) : Int), 0⟩).1)) :: (pt wc 96 [Value.pointer (some ⟨r, 0, none⟩), Value.int .i64 (((runS S i).z : Nat) : Int), Value.int .i64 (((runS S i).nx : Nat) : Int), v]) :: (sl 105 2 v (((runS S i).left).length) (leftC ((runS S i).left))) :: F) (fun _ h => h) ?_
          refine Wr.rebaseS [] ((refW r ((mk ((runS S i).ts) ⟨4, 11, (((runS S i).z : Nat) : Int), 0⟩).1)) :: (pt wc 96 [Value.pointer (some ⟨r, 0, none⟩), Value.int .i64 (((runS S i).z : Nat) : Int), Value.int .i64 (((runS S i).nx : Nat) : Int), v]) :: (sl 105 2 v (((runS S i).left).length) (leftC ((runS S i).left))) :: []) (by kernel_rfl) ?_
          refine Wr.pure (v := Value.int .i64 (((mk ((runS S i).ts) ⟨4, 11, (((runS S i).z : Nat) : Int), 0⟩).2.1 : Nat) : Int)) 9 rfl (by kernel_rfl) (.inr (fun _ h => st_take [0, 0, 0] h)) (.inl ⟨rfl, fun _ => q_assign rfl⟩) ?_
          refine Wr.done (by kernel_rfl) ?_
          refine Wx.go ?_
          refine Wc.seq ?_
          refine Wc.drawsS [12] ((pt wc 96 [Value.pointer (some ⟨r, 0, none⟩), Value.int .i64 (((runS S i).z : Nat) : Int), Value.int .i64 (((runS S i).nx : Nat) : Int), v]) :: []) (by kernel_rfl) ?_
          refine Wr.pure (v := Value.pointer (some ⟨wc, 0, none⟩)) 0 rfl (by kernel_rfl) (.inr (fun _ h => st_take [1] h)) (.inl ⟨rfl, fun _ => q_move hE0_2⟩) ?_
          refine Wr.pure (v := Value.pointer (some ⟨wc, 0, none⟩)) 1 rfl (by kernel_rfl) (.inr (fun _ h => st_take [1] h)) (.inl ⟨rfl, fun _ => q_move hE0_2⟩) ?_
          refine Wr.pure (v := Value.pointer (some ⟨wc, 0, none⟩)) 2 rfl (by kernel_rfl) (.inr (fun _ h => st_take [1] h)) (.inl ⟨rfl, fun _ => q_nil_ptr rfl⟩) ?_
          refine Wr.pure (v := Value.pointer (some ⟨wc, 0, none⟩)) 3 rfl (by kernel_rfl) (.inr (fun _ h => st_take [1] h)) (.inl ⟨rfl, fun _ => q_field (m := 0) fo_96_0 rfl rfl⟩) ?_
          refine Wr.take (v := Value.pointer (some ⟨r, 0, none⟩)) 4 rfl (by kernel_rfl) (fun _ h => st_take [1] h) (.inl ⟨rfl, q_load sc_25 rfl (.cel (i := 0) rfl rfl)⟩) ?_
          refine Wr.pure (v := Value.pointer (some ⟨wc, 0, none⟩)) 5 rfl (by kernel_rfl) (.inr (fun _ h => st_take [1] h)) (.inl ⟨rfl, fun _ => q_move hE0_2⟩) ?_
          refine Wr.pure (v := Value.pointer (some ⟨wc, 0, none⟩)) 6 rfl (by kernel_rfl) (.inr (fun _ h => st_take [1] h)) (.inl ⟨rfl, fun _ => q_nil_ptr rfl⟩) ?_
          refine Wr.pure (v := Value.pointer (some ⟨wc, 1, none⟩)) 7 rfl (by kernel_rfl) (.inr (fun _ h => st_take [1] h)) (.inl ⟨rfl, fun _ => q_field (m := 1) fo_96_1 rfl rfl⟩) ?_
          refine Wr.take (v := Value.int .i64 (((runS S i).z : Nat) : Int)) 8 rfl (by kernel_rfl) (fun _ h => st_take [1] h) (.inl ⟨rfl, q_load sc_3 rfl (.cel (i := 0) rfl rfl)⟩) ?_
          refine Wr.e 9 (by kernel_rfl) rfl (e_call (F := (pt wc 96 [Value.pointer (some ⟨r, 0, none⟩), Value.int .i64 (((runS S i).z : Nat) : Int), Value.int .i64 (((runS S i).nx : Nat) : Int), v]) :: (sl 105 2 v (((runS S i).left).length) (leftC ((runS S i).left))) :: F) (args := [Value.pointer (some ⟨r, 0, none⟩), Value.int .i64 10, Value.int .i64 (((runS S i).z : Nat) : Int), Value.int .i64 0]) Tryz.call27 rfl (rkdf_w W0 r ((mk ((runS S i).ts) ⟨4, 11, (((runS S i).z : Nat) : Int), 0⟩).1) (mk ((mk ((runS S i).ts) ⟨4, 11, (((runS S i).z : Nat) : Int), 0⟩).1) ⟨4, 10, (((runS S i).z : Nat) : Int), 0⟩).1 10 (((runS S i).z : Nat) : Int) 0 (mk ((mk ((runS S i).ts) ⟨4, 11, (((runS S i).z : Nat) : Int), 0⟩).1) ⟨4, 10, (((runS S i).z : Nat) : Int), 0⟩).2.1 ok2 e2)) (.inr fun _ _ _ h => st_take [1] h) (fun _ _ => ?_)
          refine Wr.imp (L' := (refW r ((mk ((mk ((runS S i).ts) ⟨4, 11, (((runS S i).z : Nat) : Int), 0⟩).1) ⟨4, 10, (((runS S i).z : Nat) : Int), 0⟩).1)) :: (pt wc 96 [Value.pointer (some ⟨r, 0, none⟩), Value.int .i64 (((runS S i).z : Nat) : Int), Value.int .i64 (((runS S i).nx : Nat) : Int), v]) :: (sl 105 2 v (((runS S i).left).length) (leftC ((runS S i).left))) :: F) (fun _ h => h) ?_
          refine Wr.pure (v := Value.pointer (some ⟨wc, 0, none⟩)) 10 rfl (by kernel_rfl) (.inr (fun _ h => st_take [1] h)) (.inl ⟨rfl, fun _ => q_nil_ptr rfl⟩) ?_
          refine Wr.pure (v := Value.pointer (some ⟨wc, 1, none⟩)) 11 rfl (by kernel_rfl) (.inr (fun _ h => st_take [1] h)) (.inl ⟨rfl, fun _ => q_field (m := 1) fo_96_1 rfl rfl⟩) ?_
          refine Wr.e 12 (by kernel_rfl) rfl (e_store (i := 1) (v := Value.int .i64 (((mk ((mk ((runS S i).ts) ⟨4, 11, (((runS S i).z : Nat) : Int), 0⟩).1) ⟨4, 10, (((runS S i).z : Nat) : Int), 0⟩).2.1 : Nat) : Int)) sz_3 rfl rfl (fun _ _ => rfl) rfl (by simp)) (.inl (by kernel_rfl)) (fun _ _ => ?_)
          refine Wr.imp (L' := (refW r ((mk ((mk ((runS S i).ts) ⟨4, 11, (((runS S i).z : Nat) : Int), 0⟩).1) ⟨4, 10, (((runS S i).z : Nat) : Int), 0⟩).1)) :: (pt wc 96 [Value.pointer (some ⟨r, 0, none⟩), Value.int .i64 (((mk ((mk ((runS S i).ts) ⟨4, 11, (((runS S i).z : Nat) : Int), 0⟩).1) ⟨4, 10, (((runS S i).z : Nat) : Int), 0⟩).2.1 : Nat) : Int), Value.int .i64 (((runS S i).nx : Nat) : Int), v]) :: (sl 105 2 v (((runS S i).left).length) (leftC ((runS S i).left))) :: F) (fun _ h => h) ?_
          refine Wr.rebaseS [] ((refW r ((mk ((mk ((runS S i).ts) ⟨4, 11, (((runS S i).z : Nat) : Int), 0⟩).1) ⟨4, 10, (((runS S i).z : Nat) : Int), 0⟩).1)) :: (pt wc 96 [Value.pointer (some ⟨r, 0, none⟩), Value.int .i64 (((mk ((mk ((runS S i).ts) ⟨4, 11, (((runS S i).z : Nat) : Int), 0⟩).1) ⟨4, 10, (((runS S i).z : Nat) : Int), 0⟩).2.1 : Nat) : Int), Value.int .i64 (((runS S i).nx : Nat) : Int), v]) :: (sl 105 2 v (((runS S i).left).length) (leftC ((runS S i).left))) :: []) (by kernel_rfl) ?_
          refine Wr.done (by kernel_rfl) ?_
          refine Wx.go ?_
          refine Wc.seq ?_
          refine Wc.region ?_
          refine Wl.q (v := Value.pointer (some ⟨wc, 0, none⟩)) (q_move hE0_2) ?_
          refine Wl.q (v := Value.pointer (some ⟨wc, 0, none⟩)) (q_nil_ptr rfl) ?_
          refine Wl.q (v := Value.pointer (some ⟨wc, 2, none⟩)) (q_field (m := 2) fo_96_2 rfl rfl) ?_
          refine Wl.q (v := Value.int .i64 (((runS S i).nx : Nat) : Int)) (q_load sc_3 rfl (.cel (i := 1) rfl rfl)) ?_
          refine Wl.q (v := Value.int .i64 ((((runS S i).nx) + 1 : Nat) : Int)) (q_add (c := ((((runS S i).nx) + 1 : Nat) : Int)) rfl rfl (by rw [wrap_i64] <;> omega)) ?_
          refine Wl.q (v := Value.pointer (some ⟨wc, 0, none⟩)) (q_nil_ptr rfl) ?_
          refine Wl.q (v := Value.pointer (some ⟨wc, 2, none⟩)) (q_field (m := 2) fo_96_2 rfl rfl) ?_
          refine Wl.e (e_store (i := 1) (v := Value.int .i64 ((((runS S i).nx) + 1 : Nat) : Int)) sz_3 rfl rfl (fun _ _ => rfl) rfl (by simp)) (fun _ _ => ?_)
          refine Wl.imp (L' := (refW r ((mk ((mk ((runS S i).ts) ⟨4, 11, (((runS S i).z : Nat) : Int), 0⟩).1) ⟨4, 10, (((runS S i).z : Nat) : Int), 0⟩).1)) :: (pt wc 96 [Value.pointer (some ⟨r, 0, none⟩), Value.int .i64 (((mk ((mk ((runS S i).ts) ⟨4, 11, (((runS S i).z : Nat) : Int), 0⟩).1) ⟨4, 10, (((runS S i).z : Nat) : Int), 0⟩).2.1 : Nat) : Int), Value.int .i64 ((((runS S i).nx) + 1 : Nat) : Int), v]) :: (sl 105 2 v (((runS S i).left).length) (leftC ((runS S i).left))) :: F) (fun _ h => h) ?_
          refine Wl.done ?_
          refine Wx.go ?_
          refine Wc.seq ?_
          refine Wc.region ?_
          refine Wl.q (v := Value.int .i64 (((mk ((runS S i).ts) ⟨4, 11, (((runS S i).z : Nat) : Int), 0⟩).2.1 : Nat) : Int)) (q_move rfl) ?_
          refine Wl.q (v := Value.int .i64 (((mk ((runS S i).ts) ⟨4, 11, (((runS S i).z : Nat) : Int), 0⟩).2.1 : Nat) : Int)) (q_assign rfl) ?_
          refine Wl.q (v := Value.int .i64 0) (q_assign rfl) ?_
          refine Wl.done ?_
          refine Wx.go ?_
          refine Wc.ret ?_
          refine Wx.fin2 rfl (.inl rfl) (fun w hs => ?_)
          rw [← he]
          exact ⟨v, trivial, rfl, (st_pull [1, 1, 0] (hs))⟩

theorem rtake_w (W0 : World) (wc r : Nat) (v : Value) {app sd : Int} {b cn : Nat} (S : ChS) (I : ChI app sd b cn S) (hnl : S.left.length ≤ S.nx) (hb : b + 2 * cn + 300 ≤ 1048576) (m : Int) (hm : i64R m) :
  Con Tryz.prog W0 10 #[Value.pointer (some ⟨wc, 0, none⟩), .int .i64 m] [pt wc 96 [Value.pointer (some ⟨r, 0, none⟩), Value.int .i64 ((S.z : Nat) : Int), Value.int .i64 ((S.nx : Nat) : Int), v], sl 105 2 v S.left.length (leftC S.left), refW r S.ts] (X := Value) (fun _ => True) (fun _ => .tuple #[.int .i64 (((takeR S m).2.1 : Nat) : Int), .int .i64 (((takeR S m).2.2 : Nat) : Int)]) (fun y => [pt wc 96 [Value.pointer (some ⟨r, 0, none⟩), Value.int .i64 (((takeR S m).1.z : Nat) : Int), Value.int .i64 (((takeR S m).1.nx : Nat) : Int), y], sl 105 2 y (((takeR S m).1.left).length) (leftC ((takeR S m).1.left)), refW r ((takeR S m).1.ts)]) := by
 have hll := I.ll
 have hnx := I.nxc
 have hlen := I.len
 have hp := I.ok.pos
 unfold i64R at hm
 by_cases hneg : m < 0
 · rw [takeR_neg hneg]; exact (rtake_neg W0 wc r v S m hneg).mono fun _ _ => ⟨v, trivial, rfl, fun _ _ h => h⟩
 obtain ⟨m, rfl⟩ : ∃ n : Nat, m = (n : Int) := ⟨m.toNat, by omega⟩
 cases hf : findN S.left m with
 | some j =>
  obtain ⟨k, hj⟩ := findN_some hf
  rw [takeR_found hf hj]; exact rtake_found W0 wc r v S I.ok (by omega) (by omega) m (by omega) j k hj
 | none =>
  have hno := findN_none hf
  by_cases hst : m < S.nx
  · rw [takeR_stale hf hst]; exact (rtake_stale W0 wc r v S I.ok (by omega) (by omega) m (by omega) hno hst).mono fun _ _ => ⟨v, trivial, rfl, fun _ _ h => h⟩
  by_cases hlim : 64 < m - S.nx + S.left.length
  · rw [takeR_limit hf hst hlim]; exact (rtake_limit W0 wc r v S I.ok (by omega) (by omega) m (by omega) hno (by omega) hnl hlim).mono fun _ _ => ⟨v, trivial, rfl, fun _ _ h => h⟩
  · rw [takeR_go hf hst hlim]; exact rtake_go W0 wc r v S I.ok (by omega) (by omega) m (by omega) hno (by omega) (by omega) (by omega)

end Go.Proofs.YtjjghmkjdgogiaaGreatDoor
