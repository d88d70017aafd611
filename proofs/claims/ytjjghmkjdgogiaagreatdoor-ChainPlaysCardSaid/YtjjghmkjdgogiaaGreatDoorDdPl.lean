/- What follows: contracts of the calls. -/
import Derived.Test.YtjjghmkjdgogiaaGreatDoorDdRh
import Derived.Test.YtjjghmkjdgogiaaGreatDoorDdBo
import Derived.Test.YtjjghmkjdgogiaaGreatDoorChQ
import Derived.Test.YtjjghmkjdgogiaaGreatDoorDdLv
namespace Go.Proofs.YtjjghmkjdgogiaaGreatDoor
open Go Go.SL Go.Dd Go.RowKit
set_option linter.unusedVariables false
set_option maxRecDepth 8000
theorem zo_81 : zeroOf Tryz.prog 81 = some (Value.agg #[Value.int .i64 0, Value.slice none 0 0, Value.slice none 0 0, Value.slice none 0 0, Value.slice none 0 0, Value.slice none 0 0, Value.slice none 0 0, Value.slice none 0 0, Value.slice none 0 0, Value.slice none 0 0, Value.slice none 0 0, Value.slice none 0 0, Value.slice none 0 0, Value.slice none 0 0, Value.slice none 0 0, Value.slice none 0 0, Value.slice none 0 0, Value.slice none 0 0, Value.slice none 0 0, Value.slice none 0 0, Value.slice none 0 0, Value.slice none 0 0, Value.slice none 0 0, Value.slice none 0 0, Value.slice none 0 0, Value.slice none 0 0, Value.slice none 0 0, Value.slice none 0 0, Value.slice none 0 0, Value.slice none 0 0, Value.slice none 0 0, Value.slice none 0 0, Value.slice none 0 0, Value.slice none 0 0, Value.slice none 0 0]) := by kernel_rfl
theorem numbers_w (W0 : World) (m : Nat) (mv va vb : Value) (n : Nat) (l : List Nat) (hn : ∀ x ∈ l, x < n) (hl : l.length ≤ 100000) :
    Con Tryz.prog W0 12 #[Value.pointer (some ⟨m, 0, none⟩), va, vb] [pt m 108 [mv], sl 3 1 mv n ((List.range n).map natV), sl 3 1 va l.length (l.map natV), sl 3 1 vb l.length (l.map natV)] (X := Unit) (fun _ => True) (fun _ => .bool true) (fun _ => [pt m 108 [mv], sl 3 1 mv n ((List.range n).map natV), sl 3 1 va l.length (l.map natV), sl 3 1 vb l.length (l.map natV)]) := by
  refine Con.of (args := [Value.pointer (some ⟨m, 0, none⟩), va, vb]) Tryz.func12 rfl Tryz.ntmps12 rfl (fun F => ?_)
  show Wc _ W0 _ _ _ _ _ ((pt m 108 [mv]) :: (sl 3 1 mv n ((List.range n).map natV)) :: (sl 3 1 va l.length (l.map natV)) :: (sl 3 1 vb l.length (l.map natV)) :: F)
  refine Wc.seq ?_
  refine Wc.region ?_
  refine Wl.q (v := Value.bool false) (q_assign rfl) ?_
  refine Wl.done ?_
  refine Wx.go ?_
  refine Wc.seq ?_
  refine Wc.seq ?_
  refine Wc.region ?_
  refine Wl.q (v := va) (q_move rfl) ?_
  refine Wl.q (v := Value.int .i64 ((l.length : Nat) : Int)) (q_len_sl (i := 2) Tryz.underlying23 rfl rfl) ?_
  refine Wl.q (v := vb) (q_move rfl) ?_
  refine Wl.q (v := Value.int .i64 ((l.length : Nat) : Int)) (q_len_sl (i := 3) Tryz.underlying23 rfl rfl) ?_
  refine Wl.q (v := Value.bool false) (q_neq (r := true) rfl rfl (decide_eq_true (rfl))) ?_
  refine Wl.done ?_
  refine Wx.go ?_
  refine Wc.no rfl ?_
  refine Wc.skip ?_
  refine Wx.go ?_
  refine Wc.seq ?_
  refine Wc.seq ?_
  refine Wc.region ?_
  refine Wl.q (v := Value.int .i64 0) (q_assign rfl) ?_
  refine Wl.done ?_
  refine Wx.go ?_
  refine Wc.block ?_
  refine Wc.loop (X := Nat) (fun i E => E 7 = Value.int .i64 ((i : Nat) : Int) ∧ E 0 = Value.pointer (some ⟨m, 0, none⟩) ∧ E 1 = va ∧ E 2 = vb ∧ i ≤ l.length) (fun i => (pt m 108 [mv]) :: (sl 3 1 mv n ((List.range n).map natV)) :: (sl 3 1 va l.length (l.map natV)) :: (sl 3 1 vb l.length (l.map natV)) :: F) (fun i => l.length - i) 0 ?_ ?_ ?_
  · exact ⟨rfl, rfl, rfl, rfl, (Nat.zero_le _)⟩
  · exact fun w hs => hs
  · rintro i E2 ⟨hE7_0, hE0_0, hE1_0, hE2_0, hi⟩
    refine Wc.seq ?_
    refine Wc.seq ?_
    refine Wc.region ?_
    refine Wl.q (v := Value.int .i64 ((i : Nat) : Int)) (q_move hE7_0) ?_
    refine Wl.q (v := va) (q_move hE1_0) ?_
    refine Wl.q (v := Value.int .i64 ((l.length : Nat) : Int)) (q_len_sl (i := 2) Tryz.underlying23 rfl rfl) ?_
    by_cases hlt : ((i : Nat) : Int) < ((l.length : Nat) : Int)
    ·
      obtain ⟨y, hy⟩ : ∃ y, l[i]? = some y := ⟨l[i]'(by omega), List.getElem?_eq_getElem (by omega)⟩
      have hyn := hn y (List.mem_of_getElem? hy)
      refine Wl.sl (i := 2) (m := l.length) rfl (by omega) (fun ba ca hva hca => ?_)
      subst hva
      refine Wl.sl (i := 3) (m := l.length) rfl (by omega) (fun bb cb hvb hcb => ?_)
      subst hvb
      refine Wl.q (v := Value.bool true) (q_lss (r := true) rfl rfl (decide_eq_true hlt)) ?_
      refine Wl.done ?_
      refine Wx.go ?_
      refine Wc.yes rfl ?_
      refine Wc.skip ?_
      refine Wx.go ?_
      refine Wc.seq ?_
      refine Wc.block ?_
      refine Wc.seq ?_
      refine Wc.drawsS [9] ((pt m 108 [mv]) :: (sl 3 1 mv n ((List.range n).map natV)) :: (slp 3 1 ba ca (l.map natV)) :: (slp 3 1 bb cb (l.map natV)) :: []) (by kernel_rfl) ?_
      refine Wr.pure (v := Value.pointer (some ⟨m, 0, none⟩)) 0 rfl (by kernel_rfl) (.inr (fun _ h => st_take [0, 0, 0, 0] h)) (.inl ⟨rfl, fun _ => q_move hE0_0⟩) ?_
      refine Wr.pure (v := Value.slice (some ⟨ba, 0, none⟩) l.length ca) 1 rfl (by kernel_rfl) (.inr (fun _ h => st_take [0, 0, 0, 0] h)) (.inl ⟨rfl, fun _ => q_move hE1_0⟩) ?_
      refine Wr.pure (v := Value.int .i64 ((i : Nat) : Int)) 2 rfl (by kernel_rfl) (.inr (fun _ h => st_take [0, 0, 0, 0] h)) (.inl ⟨rfl, fun _ => q_move hE7_0⟩) ?_
      refine Wr.pure (v := Value.pointer (some ⟨ba, i, none⟩)) 3 rfl (by kernel_rfl) (.inr (fun _ h => st_take [0, 0, 0, 0] h)) (.inl ⟨rfl, fun _ => q_idx (m := i) se_23 rfl rfl (by omega) (by omega) (by simp)⟩) ?_
      refine Wr.take (v := Value.int .i64 ((y : Nat) : Int)) 4 rfl (by kernel_rfl) (fun _ h => st_take [0, 0, 0, 0] h) (.inl ⟨rfl, q_load sc_3 rfl (.row (i := 2) rfl (map_at hy))⟩) ?_
      refine Wr.pure (v := Value.slice (some ⟨bb, 0, none⟩) l.length cb) 5 rfl (by kernel_rfl) (.inr (fun _ h => st_take [0, 0, 0, 0] h)) (.inl ⟨rfl, fun _ => q_move hE2_0⟩) ?_
      refine Wr.pure (v := Value.int .i64 ((i : Nat) : Int)) 6 rfl (by kernel_rfl) (.inr (fun _ h => st_take [0, 0, 0, 0] h)) (.inl ⟨rfl, fun _ => q_move hE7_0⟩) ?_
      refine Wr.pure (v := Value.pointer (some ⟨bb, i, none⟩)) 7 rfl (by kernel_rfl) (.inr (fun _ h => st_take [0, 0, 0, 0] h)) (.inl ⟨rfl, fun _ => q_idx (m := i) se_23 rfl rfl (by omega) (by omega) (by simp)⟩) ?_
      refine Wr.take (v := Value.int .i64 ((y : Nat) : Int)) 8 rfl (by kernel_rfl) (fun _ h => st_take [0, 0, 0, 0] h) (.inl ⟨rfl, q_load sc_3 rfl (.row (i := 3) rfl (map_at hy))⟩) ?_
      refine Wr.e 9 (by kernel_rfl) rfl (e_call (F := (slp 3 1 ba ca (l.map natV)) :: (slp 3 1 bb cb (l.map natV)) :: F) (args := [Value.pointer (some ⟨m, 0, none⟩), Value.int .i64 ((y : Nat) : Int), Value.int .i64 ((y : Nat) : Int)]) Tryz.call30 rfl (same_w W0 m mv n y hyn)) (.inl (by kernel_rfl)) (fun _ _ => ?_)
      refine Wr.imp (L' := (pt m 108 [mv]) :: (sl 3 1 mv n ((List.range n).map natV)) :: (slp 3 1 ba ca (l.map natV)) :: (slp 3 1 bb cb (l.map natV)) :: F) (fun _ h => h) ?_
      refine Wr.rebaseS [] ((pt m 108 [mv]) :: (sl 3 1 mv n ((List.range n).map natV)) :: (slp 3 1 ba ca (l.map natV)) :: (slp 3 1 bb cb (l.map natV)) :: []) (by kernel_rfl) ?_
      refine Wr.pure (v := Value.bool false) 10 rfl (by kernel_rfl) (.inr (fun _ h => st_take [0, 0, 0, 0] h)) (.inl ⟨rfl, fun _ => q_not rfl rfl⟩) ?_
      refine Wr.done (by kernel_rfl) ?_
      refine Wx.go ?_
      refine Wc.no rfl ?_
      refine Wc.skip ?_
      refine Wx.blockEnd ?_
      refine Wx.go ?_
      refine Wc.region ?_
      refine Wl.q (v := Value.int .i64 ((i : Nat) : Int)) (q_move hE7_0) ?_
      refine Wl.q (v := Value.int .i64 ((i + 1 : Nat) : Int)) (q_add (c := ((i + 1 : Nat) : Int)) rfl rfl (by rw [wrap_i64] <;> omega)) ?_
      refine Wl.q (v := Value.int .i64 ((i + 1 : Nat) : Int)) (q_assign rfl) ?_
      refine Wl.done ?_
      refine Wx.at (i + 1) ⟨(by omega), rfl, hE0_0, hE1_0, hE2_0, (by omega)⟩ (fun w hs => (fun hs => st_pull [2, 2, 1, 0] (st_sl_mk (e := 3) (by simp) hcb (st_swap (st_sl_mk (e := 3) (by simp) hca hs)))) (st_pull [2, 2, 0, 0] (hs)))
    ·
      refine Wl.q (v := Value.bool false) (q_lss (r := false) rfl rfl (decide_eq_false hlt)) ?_
      refine Wl.done ?_
      refine Wx.go ?_
      refine Wc.no rfl ?_
      refine Wc.exit ?_
      refine Wx.thenExit ?_
      refine Wx.thenExit ?_
      refine Wx.out ?_
      refine Wx.go ?_
      refine Wc.seq ?_
      refine Wc.region ?_
      refine Wl.q (v := Value.bool true) (q_assign rfl) ?_
      refine Wl.done ?_
      refine Wx.go ?_
      refine Wc.ret ?_
      refine Wx.fin1 rfl (.inl rfl) (fun w hs => ?_)
      exact ⟨(), trivial, rfl, hs⟩

theorem take_nil (W0 : World) (m : Int) :
  Con Tryz.prog W0 7 #[Value.pointer none, Value.int .i64 m] [] (X := Unit) (fun _ => True) (fun _ => .tuple #[.int .i64 0, .int .i64 2]) (fun _ => []) := by
 refine Con.of (args := [Value.pointer none, Value.int .i64 m]) Tryz.func7 rfl Tryz.ntmps7 rfl (fun F => ?_)
 show Wc _ W0 _ _ _ _ _ (F)
 refine Wc.seq ?_
 refine Wc.region ?_
 refine Wl.q (v := Value.int .i64 0) (q_assign rfl) ?_
 refine Wl.q (v := Value.int .i64 0) (q_assign rfl) ?_
 refine Wl.done ?_
 refine Wx.go ?_
 refine Wc.seq ?_
 refine Wc.seq ?_
 refine Wc.region ?_
 refine Wl.q (v := Value.pointer none) (q_move rfl) ?_
 refine Wl.q (v := Value.bool true) (q_eql_nil (r := true) rfl rfl Tryz.underlying28 rfl) ?_
 refine Wl.q (v := Value.bool true) (q_move rfl) ?_
 refine Wl.no ?_
 refine Wl.no ?_
 refine Wl.no ?_
 refine Wl.no ?_
 refine Wl.no ?_
 refine Wl.q (v := Value.bool true) (q_pick (t := true) rfl rfl) ?_
 refine Wl.done ?_
 refine Wx.go ?_
 refine Wc.yes rfl ?_
 refine Wc.seq ?_
 refine Wc.region ?_
 refine Wl.q (v := Value.int .i64 0) (q_assign rfl) ?_
 refine Wl.q (v := Value.int .i64 2) (q_assign rfl) ?_
 refine Wl.done ?_
 refine Wx.go ?_
 refine Wc.ret ?_
 refine Wx.thenRet ?_
 refine Wx.fin2 rfl (.inl rfl) (fun w hs => ?_)
 exact ⟨(), trivial, rfl, hs⟩

theorem take_none (W0 : World) (c : Nat) (m : Int) :
  Con Tryz.prog W0 7 #[Value.pointer (some ⟨c, 0, none⟩), Value.int .i64 m] [pt c 39 [Value.pointer none, Value.int .i64 0, Value.int .i64 0, Value.map none]] (X := Unit) (fun _ => True) (fun _ => .tuple #[.int .i64 0, .int .i64 2]) (fun _ => []) := by
 refine Con.of (args := [Value.pointer (some ⟨c, 0, none⟩), Value.int .i64 m]) Tryz.func7 rfl Tryz.ntmps7 rfl (fun F => ?_)
 show Wc _ W0 _ _ _ _ _ ((pt c 39 [Value.pointer none, Value.int .i64 0, Value.int .i64 0, Value.map none]) :: F)
 refine Wc.seq ?_
 refine Wc.region ?_
 refine Wl.q (v := Value.int .i64 0) (q_assign rfl) ?_
 refine Wl.q (v := Value.int .i64 0) (q_assign rfl) ?_
 refine Wl.done ?_
 refine Wx.go ?_
 refine Wc.seq ?_
 refine Wc.seq ?_
 refine Wc.region ?_
 refine Wl.q (v := Value.pointer (some ⟨c, 0, none⟩)) (q_move rfl) ?_
 refine Wl.q (v := Value.bool false) (q_eql_nil (r := false) rfl rfl Tryz.underlying28 rfl) ?_
 refine Wl.q (v := Value.bool false) (q_move rfl) ?_
 refine Wl.q (v := Value.pointer (some ⟨c, 0, none⟩)) (q_move rfl) ?_
 refine Wl.q (v := Value.pointer (some ⟨c, 0, none⟩)) (q_nil_ptr rfl) ?_
 refine Wl.q (v := Value.pointer (some ⟨c, 0, none⟩)) (q_field (m := 0) fo_39_0 rfl rfl) ?_
 refine Wl.q (v := Value.pointer none) (q_load sc_24 rfl (.cel (i := 0) rfl rfl)) ?_
 refine Wl.q (v := Value.bool true) (q_eql_nil (r := true) rfl rfl Tryz.underlying24 rfl) ?_
 refine Wl.q (v := Value.bool true) (q_pick (t := false) rfl rfl) ?_
 refine Wl.done ?_
 refine Wx.go ?_
 refine Wc.yes rfl ?_
 refine Wc.seq ?_
 refine Wc.region ?_
 refine Wl.q (v := Value.int .i64 0) (q_assign rfl) ?_
 refine Wl.q (v := Value.int .i64 2) (q_assign rfl) ?_
 refine Wl.done ?_
 refine Wx.go ?_
 refine Wc.ret ?_
 refine Wx.thenRet ?_
 refine Wx.fin2 rfl (.inl rfl) (fun w hs => ?_)
 exact ⟨(), trivial, rfl, (st_drop (st_pull [0] hs))⟩

theorem has_nil (W0 : World)  :
  Con Tryz.prog W0 8 #[Value.pointer none] [] (X := Unit) (fun _ => True) (fun _ => .slice none 0 0) (fun _ => []) := by
 refine Con.of (args := [Value.pointer none]) Tryz.func8 rfl Tryz.ntmps8 rfl (fun F => ?_)
 show Wc _ W0 _ _ _ _ _ (F)
 refine Wc.seq ?_
 refine Wc.region ?_
 refine Wl.q (v := Value.slice none 0 0) (q_assign rfl) ?_
 refine Wl.done ?_
 refine Wx.go ?_
 refine Wc.seq ?_
 refine Wc.seq ?_
 refine Wc.region ?_
 refine Wl.q (v := Value.pointer none) (q_move rfl) ?_
 refine Wl.q (v := Value.bool true) (q_eql_nil (r := true) rfl rfl Tryz.underlying28 rfl) ?_
 refine Wl.q (v := Value.bool true) (q_move rfl) ?_
 refine Wl.no ?_
 refine Wl.no ?_
 refine Wl.no ?_
 refine Wl.no ?_
 refine Wl.no ?_
 refine Wl.q (v := Value.bool true) (q_pick (t := true) rfl rfl) ?_
 refine Wl.done ?_
 refine Wx.go ?_
 refine Wc.yes rfl ?_
 refine Wc.seq ?_
 refine Wc.region ?_
 refine Wl.q (v := Value.slice none 0 0) (q_assign rfl) ?_
 refine Wl.done ?_
 refine Wx.go ?_
 refine Wc.ret ?_
 refine Wx.thenRet ?_
 refine Wx.fin1 rfl (.inl rfl) (fun w hs => ?_)
 exact ⟨(), trivial, rfl, hs⟩

theorem begin_no (W0 : World) (s : Nat) (ts : List TermR) (app x : Int) (h : ¬ (1 ≤ app ∧ app ≤ (ts.length : Int))) :
  Con Tryz.prog W0 20 #[Value.pointer (some ⟨s, 0, none⟩), Value.int .i64 app, Value.int .i64 x] [storeW s ts] (X := Unit) (fun _ => True) (fun _ => .tuple #[.int .i64 0, .int .i64 1]) (fun _ => [storeW s ts]) := by
 refine Con.of (args := [Value.pointer (some ⟨s, 0, none⟩), Value.int .i64 app, Value.int .i64 x]) Tryz.func20 rfl Tryz.ntmps20 rfl (fun F => ?_)
 show Wc _ W0 _ _ _ _ _ ((storeW s ts) :: F)
 refine Wc.seq ?_
 refine Wc.region ?_
 refine Wl.q (v := Value.int .i64 0) (q_assign rfl) ?_
 refine Wl.q (v := Value.int .i64 0) (q_assign rfl) ?_
 refine Wl.done ?_
 refine Wx.go ?_
 refine Wc.seq ?_
 refine Wc.seq ?_
 refine Wc.region ?_
 refine Wl.q (v := Value.pointer (some ⟨s, 0, none⟩)) (q_move rfl) ?_
 refine Wl.e (e_call (F := F) (args := [Value.pointer (some ⟨s, 0, none⟩), Value.slice none 0 0]) Tryz.call135 rfl (list0_w W0 s ts)) (fun _ _ => ?_)
 refine Wl.imp (L' := (storeW s ts) :: F) (fun _ h => h) ?_
 refine Wl.q (v := Value.tuple #[Value.int .i64 0, Value.int .i64 0]) (q_move rfl) ?_
 refine Wl.q (v := Value.int .i64 0) (q_extract (i := 0) rfl rfl) ?_
 refine Wl.q (v := Value.int .i64 0) (q_extract (i := 1) rfl rfl) ?_
 refine Wl.q (v := Value.int .i64 0) (q_assign rfl) ?_
 refine Wl.q (v := Value.int .i64 0) (q_assign rfl) ?_
 refine Wl.done ?_
 refine Wx.go ?_
 refine Wc.seq ?_
 refine Wc.region ?_
 refine Wl.q (v := Value.int .i64 0) (q_move rfl) ?_
 refine Wl.q (v := Value.bool false) (q_eql (r := false) rfl rfl (decide_eq_false (by decide))) ?_
 refine Wl.done ?_
 refine Wx.go ?_
 refine Wc.no rfl ?_
 refine Wc.skip ?_
 refine Wx.go ?_
 refine Wc.seq ?_
 refine Wc.seq ?_
 refine Wc.region ?_
 refine Wl.q (v := Value.pointer (some ⟨s, 0, none⟩)) (q_move rfl) ?_
 refine Wl.q (v := Value.int .i64 app) (q_move rfl) ?_
 refine Wl.e (e_call (F := F) (args := [Value.pointer (some ⟨s, 0, none⟩), Value.int .i64 app]) Tryz.call29 rfl (get_no_w W0 s ts app h)) (fun _ _ => ?_)
 refine Wl.imp (L' := (storeW s ts) :: F) (fun _ h => h) ?_
 refine Wl.q (v := Value.tuple #[Value.agg #[Value.int .u8 0, Value.int .i64 0, Value.int .i64 0, Value.int .i64 0], Value.bool false]) (q_move rfl) ?_
 refine Wl.q (v := Value.agg #[Value.int .u8 0, Value.int .i64 0, Value.int .i64 0, Value.int .i64 0]) (q_extract (i := 0) rfl rfl) ?_
 refine Wl.q (v := Value.bool false) (q_extract (i := 1) rfl rfl) ?_
 refine Wl.e (e_alloc (vs := [Value.int .u8 0, Value.int .i64 0, Value.int .i64 0, Value.int .i64 0]) zo_89 rfl) (fun b1 _ => ?_)
 refine Wl.imp (L' := (pt b1 89 [Value.int .u8 0, Value.int .i64 0, Value.int .i64 0, Value.int .i64 0]) :: (storeW s ts) :: F) (fun _ h => h) ?_
 refine Wl.e (e_storeAgg (i := 0) (vs := [Value.int .u8 0, Value.int .i64 0, Value.int .i64 0, Value.int .i64 0]) (c' := [Value.int .u8 0, Value.int .i64 0, Value.int .i64 0, Value.int .i64 0]) sz_89 rfl rfl rfl rfl (by simp) rfl) (fun _ _ => ?_)
 refine Wl.imp (L' := (pt b1 89 [Value.int .u8 0, Value.int .i64 0, Value.int .i64 0, Value.int .i64 0]) :: (storeW s ts) :: F) (fun _ h => h) ?_
 refine Wl.q (v := Value.bool false) (q_assign rfl) ?_
 refine Wl.done ?_
 refine Wx.go ?_
 refine Wc.seq ?_
 refine Wc.region ?_
 refine Wl.q (v := Value.bool false) (q_move rfl) ?_
 refine Wl.q (v := Value.bool true) (q_not rfl rfl) ?_
 refine Wl.done ?_
 refine Wx.go ?_
 refine Wc.yes rfl ?_
 refine Wc.seq ?_
 refine Wc.region ?_
 refine Wl.q (v := Value.int .i64 0) (q_assign rfl) ?_
 refine Wl.q (v := Value.int .i64 1) (q_assign rfl) ?_
 refine Wl.done ?_
 refine Wx.go ?_
 refine Wc.ret ?_
 refine Wx.thenRet ?_
 refine Wx.fin2 rfl (.inl rfl) (fun w hs => ?_)
 exact ⟨(), trivial, rfl, (st_drop (st_pull [0] hs))⟩

theorem new_no (W0 : World) (s : Nat) (ts : List TermR) (app x : Int) (h : ¬ (1 ≤ app ∧ app ≤ (ts.length : Int))) :
  Con Tryz.prog W0 5 #[Value.pointer (some ⟨s, 0, none⟩), Value.int .i64 app, Value.int .i64 x] [storeW s ts] (X := Unit) (fun _ => True) (fun _ => .tuple #[.pointer none, .int .i64 1]) (fun _ => [storeW s ts]) := by
 refine Con.of (args := [Value.pointer (some ⟨s, 0, none⟩), Value.int .i64 app, Value.int .i64 x]) Tryz.func5 rfl Tryz.ntmps5 rfl (fun F => ?_)
 show Wc _ W0 _ _ _ _ _ ((storeW s ts) :: F)
 refine Wc.seq ?_
 refine Wc.region ?_
 refine Wl.q (v := Value.pointer none) (q_assign rfl) ?_
 refine Wl.q (v := Value.int .i64 0) (q_assign rfl) ?_
 refine Wl.done ?_
 refine Wx.go ?_
 refine Wc.seq ?_
 refine Wc.region ?_
 refine Wl.q (v := Value.pointer (some ⟨s, 0, none⟩)) (q_move rfl) ?_
 refine Wl.q (v := Value.int .i64 app) (q_move rfl) ?_
 refine Wl.q (v := Value.int .i64 x) (q_move rfl) ?_
 refine Wl.e (e_call (F := F) (args := [Value.pointer (some ⟨s, 0, none⟩), Value.int .i64 app, Value.int .i64 x]) Tryz.call20 rfl (begin_no W0 s ts app x h)) (fun _ _ => ?_)
 refine Wl.imp (L' := (storeW s ts) :: F) (fun _ h => h) ?_
 refine Wl.q (v := Value.tuple #[Value.int .i64 0, Value.int .i64 1]) (q_move rfl) ?_
 refine Wl.q (v := Value.int .i64 0) (q_extract (i := 0) rfl rfl) ?_
 refine Wl.q (v := Value.int .i64 1) (q_extract (i := 1) rfl rfl) ?_
 refine Wl.q (v := Value.int .i64 0) (q_assign rfl) ?_
 refine Wl.q (v := Value.int .i64 1) (q_assign rfl) ?_
 refine Wl.done ?_
 refine Wx.go ?_
 refine Wc.seq ?_
 refine Wc.seq ?_
 refine Wc.region ?_
 refine Wl.q (v := Value.int .i64 1) (q_move rfl) ?_
 refine Wl.q (v := Value.bool true) (q_neq (r := false) rfl rfl (decide_eq_false (by decide))) ?_
 refine Wl.done ?_
 refine Wx.go ?_
 refine Wc.yes rfl ?_
 refine Wc.seq ?_
 refine Wc.region ?_
 refine Wl.q (v := Value.int .i64 1) (q_move rfl) ?_
 refine Wl.q (v := Value.pointer none) (q_assign rfl) ?_
 refine Wl.q (v := Value.int .i64 1) (q_assign rfl) ?_
 refine Wl.done ?_
 refine Wx.go ?_
 refine Wc.ret ?_
 refine Wx.thenRet ?_
 refine Wx.fin2 rfl (.inl rfl) (fun w hs => ?_)
 exact ⟨(), trivial, rfl, hs⟩

theorem plays_no (W0 : World) (vl : Value) (l : List TermR) (hl : Rd W0 vl l.length (l.flatMap termCells)) (hlo : ∀ x ∈ l, okT x) (app sd : Int) (vt : Value) (tk : List Int) (ht : Rd W0 vt tk.length (tk.flatMap int1)) (hto : ∀ x ∈ tk, i64R x) (hl2 : l.length ≤ 2000) (htm : tk.length ≤ 300) (hs0 : i64R sd) (h : ¬ (1 ≤ app ∧ app ≤ ((build [] l).length : Int))) :
  Con Tryz.prog W0 3 #[vl, Value.int .i64 app, Value.int .i64 sd, vt] [] (X := Unit) (fun _ => True) (fun _ => .bool true) (fun _ => []) := by
 refine Con.of (args := [vl, Value.int .i64 app, Value.int .i64 sd, vt]) Tryz.func3 rfl Tryz.ntmps3 rfl (fun F => ?_)
 have hw := build_all hlo
 have hT := build_all_le l
 show Wc _ W0 _ _ _ _ _ (F)
 refine Wc.seq ?_
 refine Wc.region ?_
 refine Wl.q (v := Value.bool false) (q_assign rfl) ?_
 refine Wl.done ?_
 refine Wx.go ?_
 refine Wc.seq ?_
 refine Wc.seq ?_
 refine Wc.region ?_
 refine Wl.q (v := vl) (q_move rfl) ?_
 refine Wl.q (v := Value.int .i64 ((l.length : Nat) : Int)) (q_len_is Tryz.underlying22 rfl hl.shape) ?_
 refine Wl.q (v := Value.bool false) (q_gtr (r := false) rfl rfl (decide_eq_false (by omega))) ?_
 refine Wl.q (v := Value.bool false) (q_move rfl) ?_
 refine Wl.q (v := vt) (q_move rfl) ?_
 refine Wl.q (v := Value.int .i64 ((tk.length : Nat) : Int)) (q_len_is Tryz.underlying23 rfl ht.shape) ?_
 refine Wl.q (v := Value.bool false) (q_gtr (r := false) rfl rfl (decide_eq_false (by omega))) ?_
 refine Wl.q (v := Value.bool false) (q_pick (t := false) rfl rfl) ?_
 refine Wl.done ?_
 refine Wx.go ?_
 refine Wc.no rfl ?_
 refine Wc.skip ?_
 refine Wx.go ?_
 refine Wc.seq ?_
 refine Wc.region ?_
 refine Wl.q (v := vl) (q_move rfl) ?_
 refine Wl.e (e_call (F := F) (args := [vl]) Tryz.call4 rfl (build_w W0 vl l hl (by omega) hlo)) (fun ⟨s, r⟩ _ => ?_)
 refine Wl.imp (L' := (storeW s (build [] l)) :: (refW r (build [] l)) :: F) (fun _ h => h) ?_
 refine Wl.q (v := Value.tuple #[Value.pointer (some ⟨s, 0, none⟩), Value.pointer (some ⟨r, 0, none⟩), Value.bool true]) (q_move rfl) ?_
 refine Wl.q (v := Value.pointer (some ⟨s, 0, none⟩)) (q_extract (i := 0) rfl rfl) ?_
 refine Wl.q (v := Value.pointer (some ⟨r, 0, none⟩)) (q_extract (i := 1) rfl rfl) ?_
 refine Wl.q (v := Value.bool true) (q_extract (i := 2) rfl rfl) ?_
 refine Wl.q (v := Value.pointer (some ⟨s, 0, none⟩)) (q_assign rfl) ?_
 refine Wl.q (v := Value.pointer (some ⟨r, 0, none⟩)) (q_assign rfl) ?_
 refine Wl.q (v := Value.bool true) (q_assign rfl) ?_
 refine Wl.done ?_
 refine Wx.go ?_
 refine Wc.seq ?_
 refine Wc.seq ?_
 refine Wc.region ?_
 refine Wl.q (v := Value.bool true) (q_move rfl) ?_
 refine Wl.q (v := Value.bool false) (q_not rfl rfl) ?_
 refine Wl.done ?_
 refine Wx.go ?_
 refine Wc.no rfl ?_
 refine Wc.skip ?_
 refine Wx.go ?_
 refine Wc.seq ?_
 refine Wc.region ?_
 refine Wl.q (v := Value.pointer (some ⟨s, 0, none⟩)) (q_move rfl) ?_
 refine Wl.q (v := Value.int .i64 app) (q_move rfl) ?_
 refine Wl.q (v := Value.int .i64 sd) (q_move rfl) ?_
 refine Wl.e (e_call (F := (refW r (build [] l)) :: F) (args := [Value.pointer (some ⟨s, 0, none⟩), Value.int .i64 app, Value.int .i64 sd]) Tryz.call5 rfl (new_no W0 s (build [] l) app sd h)) (fun _ _ => ?_)
 refine Wl.imp (L' := (storeW s (build [] l)) :: (refW r (build [] l)) :: F) (fun _ h => h) ?_
 refine Wl.q (v := Value.tuple #[Value.pointer none, Value.int .i64 1]) (q_move rfl) ?_
 refine Wl.q (v := Value.pointer none) (q_extract (i := 0) rfl rfl) ?_
 refine Wl.q (v := Value.int .i64 1) (q_extract (i := 1) rfl rfl) ?_
 refine Wl.q (v := Value.pointer none) (q_assign rfl) ?_
 refine Wl.q (v := Value.int .i64 1) (q_assign rfl) ?_
 refine Wl.done ?_
 refine Wx.go ?_
 refine Wc.seq ?_
 refine Wc.region ?_
 refine Wl.q (v := Value.pointer (some ⟨r, 0, none⟩)) (q_move rfl) ?_
 refine Wl.q (v := Value.int .i64 app) (q_move rfl) ?_
 refine Wl.q (v := Value.int .i64 sd) (q_move rfl) ?_
 refine Wl.imp (L' := (refW r (build [] l)) :: (storeW s (build [] l)) :: F) (fun _ h => st_pull [1] h) ?_
 refine Wl.e (e_call (F := (storeW s (build [] l)) :: F) (args := [Value.pointer (some ⟨r, 0, none⟩), Value.int .i64 app, Value.int .i64 sd]) Tryz.call6 rfl (rnew_no W0 r (build [] l) app sd h)) (fun _ _ => ?_)
 refine Wl.imp (L' := (refW r (build [] l)) :: (storeW s (build [] l)) :: F) (fun _ h => h) ?_
 refine Wl.q (v := Value.tuple #[Value.pointer none, Value.int .i64 1]) (q_move rfl) ?_
 refine Wl.q (v := Value.pointer none) (q_extract (i := 0) rfl rfl) ?_
 refine Wl.q (v := Value.int .i64 1) (q_extract (i := 1) rfl rfl) ?_
 refine Wl.q (v := Value.pointer none) (q_assign rfl) ?_
 refine Wl.q (v := Value.int .i64 1) (q_assign rfl) ?_
 refine Wl.done ?_
 refine Wx.go ?_
 refine Wc.seq ?_
 refine Wc.seq ?_
 refine Wc.region ?_
 refine Wl.q (v := Value.int .i64 1) (q_move rfl) ?_
 refine Wl.q (v := Value.int .i64 1) (q_move rfl) ?_
 refine Wl.q (v := Value.bool false) (q_neq (r := true) rfl rfl (decide_eq_true (by decide))) ?_
 refine Wl.q (v := Value.bool false) (q_move rfl) ?_
 refine Wl.q (v := Value.pointer none) (q_move rfl) ?_
 refine Wl.q (v := Value.bool true) (q_eql_nil (r := true) rfl rfl Tryz.underlying28 rfl) ?_
 refine Wl.q (v := Value.int .i64 1) (q_move rfl) ?_
 refine Wl.q (v := Value.bool true) (q_neq (r := false) rfl rfl (decide_eq_false (by decide))) ?_
 refine Wl.q (v := Value.bool false) (q_neq_bool (r := true) rfl rfl Tryz.underlying4 rfl) ?_
 refine Wl.q (v := Value.bool false) (q_pick (t := false) rfl rfl) ?_
 refine Wl.done ?_
 refine Wx.go ?_
 refine Wc.no rfl ?_
 refine Wc.skip ?_
 refine Wx.go ?_
 refine Wc.seq ?_
 refine Wc.seq ?_
 refine Wc.region ?_
 refine Wl.q (v := Value.pointer none) (q_move rfl) ?_
 refine Wl.q (v := Value.bool true) (q_eql_nil (r := true) rfl rfl Tryz.underlying28 rfl) ?_
 refine Wl.done ?_
 refine Wx.go ?_
 refine Wc.yes rfl ?_
 refine Wc.seq ?_
 refine Wc.region ?_
 refine Wl.q (v := Value.pointer none) (q_move rfl) ?_
 refine Wl.e (e_call (F := (refW r (build [] l)) :: (storeW s (build [] l)) :: F) (args := [Value.pointer none, Value.int .i64 0]) Tryz.call7 rfl (take_nil W0 0)) (fun _ _ => ?_)
 refine Wl.imp (L' := (refW r (build [] l)) :: (storeW s (build [] l)) :: F) (fun _ h => h) ?_
 refine Wl.q (v := Value.tuple #[Value.int .i64 0, Value.int .i64 2]) (q_move rfl) ?_
 refine Wl.q (v := Value.int .i64 0) (q_extract (i := 0) rfl rfl) ?_
 refine Wl.q (v := Value.int .i64 2) (q_extract (i := 1) rfl rfl) ?_
 refine Wl.q (v := Value.int .i64 0) (q_assign rfl) ?_
 refine Wl.q (v := Value.int .i64 2) (q_assign rfl) ?_
 refine Wl.done ?_
 refine Wx.go ?_
 refine Wc.seq ?_
 refine Wc.region ?_
 refine Wl.q (v := Value.agg #[Value.pointer none, Value.int .i64 0, Value.int .i64 0, Value.map none]) (q_build (pl := [(0, 1), (1, 1), (2, 1), (3, 1)]) Tryz.underlying39 zo_39 (by kernel_rfl) (by kernel_rfl)) ?_
 refine Wl.e (e_box (x := .tmp 80) (vs := [Value.pointer none, Value.int .i64 0, Value.int .i64 0, Value.map none]) rfl) (fun c _ => ?_)
 refine Wl.imp (L' := (pt c 39 [Value.pointer none, Value.int .i64 0, Value.int .i64 0, Value.map none]) :: (refW r (build [] l)) :: (storeW s (build [] l)) :: F) (fun _ h => h) ?_
 refine Wl.e (e_call (F := (refW r (build [] l)) :: (storeW s (build [] l)) :: F) (args := [Value.pointer (some ⟨c, 0, none⟩), Value.int .i64 0]) Tryz.call7 rfl (take_none W0 c 0)) (fun _ _ => ?_)
 refine Wl.imp (L' := (refW r (build [] l)) :: (storeW s (build [] l)) :: F) (fun _ h => h) ?_
 refine Wl.q (v := Value.tuple #[Value.int .i64 0, Value.int .i64 2]) (q_move rfl) ?_
 refine Wl.q (v := Value.int .i64 0) (q_extract (i := 0) rfl rfl) ?_
 refine Wl.q (v := Value.int .i64 2) (q_extract (i := 1) rfl rfl) ?_
 refine Wl.q (v := Value.int .i64 0) (q_assign rfl) ?_
 refine Wl.q (v := Value.int .i64 2) (q_assign rfl) ?_
 refine Wl.done ?_
 refine Wx.go ?_
 refine Wc.seq ?_
 refine Wc.region ?_
 refine Wl.q (v := Value.int .i64 2) (q_move rfl) ?_
 refine Wl.q (v := Value.bool true) (q_eql (r := true) rfl rfl (decide_eq_true (by decide))) ?_
 refine Wl.q (v := Value.bool true) (q_move rfl) ?_
 refine Wl.q (v := Value.int .i64 2) (q_move rfl) ?_
 refine Wl.q (v := Value.bool true) (q_eql (r := true) rfl rfl (decide_eq_true (by decide))) ?_
 refine Wl.q (v := Value.bool true) (q_pick (t := true) rfl rfl) ?_
 refine Wl.q (v := Value.bool true) (q_move rfl) ?_
 refine Wl.q (v := Value.pointer none) (q_move rfl) ?_
 refine Wl.e (e_call (F := (refW r (build [] l)) :: (storeW s (build [] l)) :: F) (args := [Value.pointer none]) Tryz.call8 rfl (has_nil W0)) (fun _ _ => ?_)
 refine Wl.imp (L' := (refW r (build [] l)) :: (storeW s (build [] l)) :: F) (fun _ h => h) ?_
 refine Wl.q (v := Value.int .i64 0) (q_len_slice Tryz.underlying23 rfl) ?_
 refine Wl.q (v := Value.bool true) (q_eql (r := true) rfl rfl (decide_eq_true (by decide))) ?_
 refine Wl.q (v := Value.bool true) (q_pick (t := true) rfl rfl) ?_
 refine Wl.q (v := Value.bool true) (q_move rfl) ?_
 refine Wl.e (e_call (F := (refW r (build [] l)) :: (storeW s (build [] l)) :: F) (args := []) Tryz.call9 rfl (lives_c W0)) (fun _ _ => ?_)
 refine Wl.imp (L' := (refW r (build [] l)) :: (storeW s (build [] l)) :: F) (fun _ h => h) ?_
 refine Wl.q (v := Value.bool true) (q_pick (t := true) rfl rfl) ?_
 refine Wl.q (v := Value.bool true) (q_assign rfl) ?_
 refine Wl.done ?_
 refine Wx.go ?_
 refine Wc.ret ?_
 refine Wx.thenRet ?_
 refine Wx.fin1 rfl (.inl rfl) (fun w hs => ?_)
 exact ⟨(), trivial, rfl, (st_drop (st_drop (st_pull [0, 0] hs)))⟩

theorem plays_out (W0 : World) (vl : Value) (l : List TermR) (hl : Rd W0 vl l.length (l.flatMap termCells)) (hlo : ∀ x ∈ l, okT x) (app sd : Int) (vt : Value) (tk : List Int) (ht : Rd W0 vt tk.length (tk.flatMap int1)) (hto : ∀ x ∈ tk, i64R x) (h : 2000 < l.length ∨ 300 < tk.length) :
  Con Tryz.prog W0 3 #[vl, Value.int .i64 app, Value.int .i64 sd, vt] [] (X := Unit) (fun _ => True) (fun _ => .bool true) (fun _ => []) := by
 refine Con.of (args := [vl, Value.int .i64 app, Value.int .i64 sd, vt]) Tryz.func3 rfl Tryz.ntmps3 rfl (fun F => ?_)
 show Wc _ W0 _ _ _ _ _ (F)
 refine Wc.seq ?_
 refine Wc.region ?_
 refine Wl.q (v := Value.bool false) (q_assign rfl) ?_
 refine Wl.done ?_
 refine Wx.go ?_
 refine Wc.seq ?_
 refine Wc.seq ?_
 refine Wc.region ?_
 refine Wl.q (v := vl) (q_move rfl) ?_
 refine Wl.q (v := Value.int .i64 ((l.length : Nat) : Int)) (q_len_is Tryz.underlying22 rfl hl.shape) ?_
 by_cases h2 : ((l.length : Nat) : Int) > 2000
 ·
  refine Wl.q (v := Value.bool true) (q_gtr (r := true) rfl rfl (decide_eq_true h2)) ?_
  refine Wl.q (v := Value.bool true) (q_move rfl) ?_
  refine Wl.no ?_
  refine Wl.no ?_
  refine Wl.no ?_
  refine Wl.q (v := Value.bool true) (q_pick (t := true) rfl rfl) ?_
  refine Wl.done ?_
  refine Wx.go ?_
  refine Wc.yes rfl ?_
  refine Wc.seq ?_
  refine Wc.region ?_
  refine Wl.q (v := Value.bool true) (q_assign rfl) ?_
  refine Wl.done ?_
  refine Wx.go ?_
  refine Wc.ret ?_
  refine Wx.thenRet ?_
  refine Wx.fin1 rfl (.inl rfl) (fun w hs => ?_)
  exact ⟨(), trivial, rfl, hs⟩
 ·
  refine Wl.q (v := Value.bool false) (q_gtr (r := false) rfl rfl (decide_eq_false h2)) ?_
  refine Wl.q (v := Value.bool false) (q_move rfl) ?_
  refine Wl.q (v := vt) (q_move rfl) ?_
  refine Wl.q (v := Value.int .i64 ((tk.length : Nat) : Int)) (q_len_is Tryz.underlying23 rfl ht.shape) ?_
  by_cases h6 : ((tk.length : Nat) : Int) > 300
  ·
   refine Wl.q (v := Value.bool true) (q_gtr (r := true) rfl rfl (decide_eq_true h6)) ?_
   refine Wl.q (v := Value.bool true) (q_pick (t := false) rfl rfl) ?_
   refine Wl.done ?_
   refine Wx.go ?_
   refine Wc.yes rfl ?_
   refine Wc.seq ?_
   refine Wc.region ?_
   refine Wl.q (v := Value.bool true) (q_assign rfl) ?_
   refine Wl.done ?_
   refine Wx.go ?_
   refine Wc.ret ?_
   refine Wx.thenRet ?_
   refine Wx.fin1 rfl (.inl rfl) (fun w hs => ?_)
   exact ⟨(), trivial, rfl, hs⟩
  ·
   exfalso; omega

set_option maxRecDepth 8000 in
set_option maxHeartbeats 4000000 in
theorem plays_ok (W0 : World) (vl : Value) (l : List TermR) (hl : Rd W0 vl l.length (l.flatMap termCells)) (hlo : ∀ x ∈ l, okT x) (app sd : Int) (vt : Value) (tk : List Int) (ht : Rd W0 vt tk.length (tk.flatMap int1)) (hto : ∀ x ∈ tk, i64R x) (hl2 : l.length ≤ 2000) (htm : tk.length ≤ 300) (hs0 : i64R sd) (ha : 1 ≤ app ∧ app ≤ ((build [] l).length : Int)) :
    Con Tryz.prog W0 3 #[vl, Value.int .i64 app, Value.int .i64 sd, vt] [] (X := Unit) (fun _ => True) (fun _ => .bool true) (fun _ => []) := by
  refine Con.of (args := [vl, Value.int .i64 app, Value.int .i64 sd, vt]) Tryz.func3 rfl Tryz.ntmps3 rfl (fun F => ?_)
  have hw := build_all hlo
  have hT := build_all_le l
  have hI0 : ChI app sd ((build [] l).length + 2) 0 (startS (build [] l) app sd) := ChI.start hw ha hs0 (by omega)
  show Wc _ W0 _ _ _ _ _ (F)
  refine Wc.seq ?_
  refine Wc.region ?_
  refine Wl.q (v := Value.bool false) (q_assign rfl) ?_
  refine Wl.done ?_
  refine Wx.go ?_
  refine Wc.seq ?_
  refine Wc.seq ?_
  refine Wc.region ?_
  refine Wl.q (v := vl) (q_move rfl) ?_
  refine Wl.q (v := Value.int .i64 ((l.length : Nat) : Int)) (q_len_is Tryz.underlying22 rfl hl.shape) ?_
  refine Wl.q (v := Value.bool false) (q_gtr (r := false) rfl rfl (decide_eq_false (by omega))) ?_
  refine Wl.q (v := Value.bool false) (q_move rfl) ?_
  refine Wl.q (v := vt) (q_move rfl) ?_
  refine Wl.q (v := Value.int .i64 ((tk.length : Nat) : Int)) (q_len_is Tryz.underlying23 rfl ht.shape) ?_
  refine Wl.q (v := Value.bool false) (q_gtr (r := false) rfl rfl (decide_eq_false (by omega))) ?_
  refine Wl.q (v := Value.bool false) (q_pick (t := false) rfl rfl) ?_
  refine Wl.done ?_
  refine Wx.go ?_
  refine Wc.no rfl ?_
  refine Wc.skip ?_
  refine Wx.go ?_
  refine Wc.seq ?_
  refine Wc.region ?_
  refine Wl.q (v := vl) (q_move rfl) ?_
  refine Wl.e (e_call (F := F) (args := [vl]) Tryz.call4 rfl (build_w W0 vl l hl (by omega) hlo)) (fun ⟨s, r⟩ _ => ?_)
  refine Wl.imp (L' := (storeW s (build [] l)) :: (refW r (build [] l)) :: F) (fun _ h => h) ?_
  refine Wl.q (v := Value.tuple #[Value.pointer (some ⟨s, 0, none⟩), Value.pointer (some ⟨r, 0, none⟩), Value.bool true]) (q_move rfl) ?_
  refine Wl.q (v := Value.pointer (some ⟨s, 0, none⟩)) (q_extract (i := 0) rfl rfl) ?_
  refine Wl.q (v := Value.pointer (some ⟨r, 0, none⟩)) (q_extract (i := 1) rfl rfl) ?_
  refine Wl.q (v := Value.bool true) (q_extract (i := 2) rfl rfl) ?_
  refine Wl.q (v := Value.pointer (some ⟨s, 0, none⟩)) (q_assign rfl) ?_
  refine Wl.q (v := Value.pointer (some ⟨r, 0, none⟩)) (q_assign rfl) ?_
  refine Wl.q (v := Value.bool true) (q_assign rfl) ?_
  refine Wl.done ?_
  refine Wx.go ?_
  refine Wc.seq ?_
  refine Wc.seq ?_
  refine Wc.region ?_
  refine Wl.q (v := Value.bool true) (q_move rfl) ?_
  refine Wl.q (v := Value.bool false) (q_not rfl rfl) ?_
  refine Wl.done ?_
  refine Wx.go ?_
  refine Wc.no rfl ?_
  refine Wc.skip ?_
  refine Wx.go ?_
  refine Wc.seq ?_
  refine Wc.region ?_
  refine Wl.q (v := Value.pointer (some ⟨s, 0, none⟩)) (q_move rfl) ?_
  refine Wl.q (v := Value.int .i64 app) (q_move rfl) ?_
  refine Wl.q (v := Value.int .i64 sd) (q_move rfl) ?_
  refine Wl.e (e_call (F := (refW r (build [] l)) :: F) (args := [Value.pointer (some ⟨s, 0, none⟩), Value.int .i64 app, Value.int .i64 sd]) Tryz.call5 rfl (new_s W0 s (build [] l) app sd hw ha hs0 (by omega))) (fun ⟨c, mb⟩ _ => ?_)
  refine Wl.imp (L' := (pt c 39 ([Value.pointer (some ⟨s, 0, none⟩), Value.int .i64 (((startS (build [] l) app sd).z : Nat) : Int), Value.int .i64 (((startS (build [] l) app sd).nx : Nat) : Int), Value.map (some mb)])) :: (mp mb (leftV ((startS (build [] l) app sd).left))) :: (storeW s ((startS (build [] l) app sd).ts)) :: (refW r (build [] l)) :: F) (fun _ h => h) ?_
  refine Wl.q (v := Value.tuple #[Value.pointer (some ⟨c, 0, none⟩), Value.int .i64 0]) (q_move rfl) ?_
  refine Wl.q (v := Value.pointer (some ⟨c, 0, none⟩)) (q_extract (i := 0) rfl rfl) ?_
  refine Wl.q (v := Value.int .i64 0) (q_extract (i := 1) rfl rfl) ?_
  refine Wl.q (v := Value.pointer (some ⟨c, 0, none⟩)) (q_assign rfl) ?_
  refine Wl.q (v := Value.int .i64 0) (q_assign rfl) ?_
  refine Wl.done ?_
  refine Wx.go ?_
  refine Wc.seq ?_
  refine Wc.region ?_
  refine Wl.q (v := Value.pointer (some ⟨r, 0, none⟩)) (q_move rfl) ?_
  refine Wl.q (v := Value.int .i64 app) (q_move rfl) ?_
  refine Wl.q (v := Value.int .i64 sd) (q_move rfl) ?_
  refine Wl.imp (L' := (refW r (build [] l)) :: (pt c 39 ([Value.pointer (some ⟨s, 0, none⟩), Value.int .i64 (((startS (build [] l) app sd).z : Nat) : Int), Value.int .i64 (((startS (build [] l) app sd).nx : Nat) : Int), Value.map (some mb)])) :: (mp mb (leftV ((startS (build [] l) app sd).left))) :: (storeW s ((startS (build [] l) app sd).ts)) :: F) (fun _ h => st_pull [3] h) ?_
  refine Wl.e (e_call (F := (pt c 39 ([Value.pointer (some ⟨s, 0, none⟩), Value.int .i64 (((startS (build [] l) app sd).z : Nat) : Int), Value.int .i64 (((startS (build [] l) app sd).nx : Nat) : Int), Value.map (some mb)])) :: (mp mb (leftV ((startS (build [] l) app sd).left))) :: (storeW s ((startS (build [] l) app sd).ts)) :: F) (args := [Value.pointer (some ⟨r, 0, none⟩), Value.int .i64 app, Value.int .i64 sd]) Tryz.call6 rfl (rnew_s W0 r (build [] l) app sd hw ha hs0 (by omega))) (fun wc _ => ?_)
  refine Wl.imp (L' := (pt wc 96 ([Value.pointer (some ⟨r, 0, none⟩), Value.int .i64 (((startS (build [] l) app sd).z : Nat) : Int), Value.int .i64 (((startS (build [] l) app sd).nx : Nat) : Int), Value.slice none 0 0])) :: (sl 105 2 (Value.slice none 0 0) (((startS (build [] l) app sd).left).length) (leftC ((startS (build [] l) app sd).left))) :: (refW r ((startS (build [] l) app sd).ts)) :: (pt c 39 ([Value.pointer (some ⟨s, 0, none⟩), Value.int .i64 (((startS (build [] l) app sd).z : Nat) : Int), Value.int .i64 (((startS (build [] l) app sd).nx : Nat) : Int), Value.map (some mb)])) :: (mp mb (leftV ((startS (build [] l) app sd).left))) :: (storeW s ((startS (build [] l) app sd).ts)) :: F) (fun _ h => h) ?_
  refine Wl.q (v := Value.tuple #[Value.pointer (some ⟨wc, 0, none⟩), Value.int .i64 0]) (q_move rfl) ?_
  refine Wl.q (v := Value.pointer (some ⟨wc, 0, none⟩)) (q_extract (i := 0) rfl rfl) ?_
  refine Wl.q (v := Value.int .i64 0) (q_extract (i := 1) rfl rfl) ?_
  refine Wl.q (v := Value.pointer (some ⟨wc, 0, none⟩)) (q_assign rfl) ?_
  refine Wl.q (v := Value.int .i64 0) (q_assign rfl) ?_
  refine Wl.done ?_
  refine Wx.go ?_
  refine Wc.seq ?_
  refine Wc.seq ?_
  refine Wc.region ?_
  refine Wl.q (v := Value.int .i64 0) (q_move rfl) ?_
  refine Wl.q (v := Value.int .i64 0) (q_move rfl) ?_
  refine Wl.q (v := Value.bool false) (q_neq (r := true) rfl rfl (decide_eq_true (by decide))) ?_
  refine Wl.q (v := Value.bool false) (q_move rfl) ?_
  refine Wl.q (v := Value.pointer (some ⟨c, 0, none⟩)) (q_move rfl) ?_
  refine Wl.q (v := Value.bool false) (q_eql_nil (r := false) rfl rfl Tryz.underlying28 rfl) ?_
  refine Wl.q (v := Value.int .i64 0) (q_move rfl) ?_
  refine Wl.q (v := Value.bool false) (q_neq (r := true) rfl rfl (decide_eq_true (by decide))) ?_
  refine Wl.q (v := Value.bool false) (q_neq_bool (r := true) rfl rfl Tryz.underlying4 rfl) ?_
  refine Wl.q (v := Value.bool false) (q_pick (t := false) rfl rfl) ?_
  refine Wl.done ?_
  refine Wx.go ?_
  refine Wc.no rfl ?_
  refine Wc.skip ?_
  refine Wx.go ?_
  refine Wc.seq ?_
  refine Wc.seq ?_
  refine Wc.region ?_
  refine Wl.q (v := Value.pointer (some ⟨c, 0, none⟩)) (q_move rfl) ?_
  refine Wl.q (v := Value.bool false) (q_eql_nil (r := false) rfl rfl Tryz.underlying28 rfl) ?_
  refine Wl.done ?_
  refine Wx.go ?_
  refine Wc.no rfl ?_
  refine Wc.skip ?_
  refine Wx.go ?_
  refine Wc.seq ?_
  refine Wc.region ?_
  refine Wl.q (v := Value.slice none 0 0) (q_assign rfl) ?_
  refine Wl.q (v := Value.slice none 0 0) (q_assign rfl) ?_
  refine Wl.done ?_
  refine Wx.go ?_
  refine Wc.seq ?_
  refine Wc.seq ?_
  refine Wc.region ?_
  refine Wl.q (v := Value.int .i64 0) (q_assign rfl) ?_
  refine Wl.done ?_
  refine Wx.go ?_
  refine Wc.block ?_
  refine Wc.loop (X := Nat × ChS × List Nat × Value × Value × Value) (fun (i, S, l1, va, vb, rv) E => E 22 = Value.int .i64 ((i : Nat) : Int) ∧ E 20 = va ∧ E 21 = vb ∧ E 3 = vt ∧ E 9 = Value.pointer (some ⟨s, 0, none⟩) ∧ E 10 = Value.pointer (some ⟨r, 0, none⟩) ∧ E 12 = Value.pointer (some ⟨c, 0, none⟩) ∧ E 14 = Value.pointer (some ⟨wc, 0, none⟩) ∧ i ≤ tk.length ∧ ChI app sd ((build [] l).length + 2) i S ∧ (∀ x ∈ l1, x < S.ts.length + 1) ∧ l1.length ≤ i) (fun (i, S, l1, va, vb, rv) => (sl 3 1 va l1.length (l1.map natV)) :: (sl 3 1 vb l1.length (l1.map natV)) :: (pt c 39 [Value.pointer (some ⟨s, 0, none⟩), Value.int .i64 ((S.z : Nat) : Int), Value.int .i64 ((S.nx : Nat) : Int), Value.map (some mb)]) :: (mp mb (leftV S.left)) :: (storeW s S.ts) :: (pt wc 96 [Value.pointer (some ⟨r, 0, none⟩), Value.int .i64 ((S.z : Nat) : Int), Value.int .i64 ((S.nx : Nat) : Int), rv]) :: (sl 105 2 rv S.left.length (leftC S.left)) :: (refW r S.ts) :: F) (fun (i, S, l1, va, vb, rv) => tk.length - i) (0, (startS (build [] l) app sd), [], Value.slice none 0 0, Value.slice none 0 0, Value.slice none 0 0) ?_ ?_ ?_
  · exact ⟨rfl, rfl, rfl, rfl, rfl, rfl, rfl, rfl, (Nat.zero_le _), hI0, (fun x hx => by cases hx), (Nat.le_refl _)⟩
  · exact fun w hs => st_sl_nil (st_sl_nil (st_pull [3, 3, 3, 0, 0, 0] (hs)))
  · rintro ⟨i, S, l1, va, vb, rv⟩ E2 ⟨hE22_0, hE20_0, hE21_0, hE3_0, hE9_0, hE10_0, hE12_0, hE14_0, hi, hI, hbd, hl1⟩
    dsimp only at *
    have hIc := hI.ll
    have hIn := hI.nxc
    have hIl := hI.len
    have hnl := left_le hI.ok
    refine Wc.seq ?_
    refine Wc.seq ?_
    refine Wc.region ?_
    refine Wl.q (v := Value.int .i64 ((i : Nat) : Int)) (q_move hE22_0) ?_
    refine Wl.q (v := vt) (q_move hE3_0) ?_
    refine Wl.q (v := Value.int .i64 ((tk.length : Nat) : Int)) (q_len_is Tryz.underlying23 rfl ht.shape) ?_
    by_cases hlt : ((i : Nat) : Int) < ((tk.length : Nat) : Int)
    ·
      obtain ⟨o, hget⟩ : ∃ o, tk[i]? = some o := ⟨tk[i]'(by omega), List.getElem?_eq_getElem (by omega)⟩
      have ho := hto o (List.mem_of_getElem? hget)
      have TI := take_I hI (by omega) o
      refine Wl.q (v := Value.bool true) (q_lss (r := true) rfl rfl (decide_eq_true hlt)) ?_
      refine Wl.done ?_
      refine Wx.go ?_
      refine Wc.yes rfl ?_
      refine Wc.skip ?_
      refine Wx.go ?_
      refine Wc.seq ?_
      refine Wc.block ?_
      refine Wc.seq ?_
      refine Wc.region ?_
      refine Wl.q (v := Value.pointer (some ⟨c, 0, none⟩)) (q_move hE12_0) ?_
      refine Wl.q (v := vt) (q_move hE3_0) ?_
      refine Wl.q (v := Value.int .i64 ((i : Nat) : Int)) (q_move hE22_0) ?_
      refine Wl.q (v := Value.pointer (some ⟨(rb vt), ro vt + i, none⟩)) (q_idx_is (m := ro vt + i) se_23 rfl (ht.some_ (by omega)) rfl (by omega) (by omega) (by simp)) ?_
      refine Wl.q (v := Value.int .i64 o) (q_load sc_3 rfl (.old (rd1 ht hget))) ?_
      refine Wl.imp (L' := (pt c 39 [Value.pointer (some ⟨s, 0, none⟩), Value.int .i64 ((S.z : Nat) : Int), Value.int .i64 ((S.nx : Nat) : Int), Value.map (some mb)]) :: (mp mb (leftV S.left)) :: (storeW s S.ts) :: (sl 3 1 va l1.length (l1.map natV)) :: (sl 3 1 vb l1.length (l1.map natV)) :: (pt wc 96 [Value.pointer (some ⟨r, 0, none⟩), Value.int .i64 ((S.z : Nat) : Int), Value.int .i64 ((S.nx : Nat) : Int), rv]) :: (sl 105 2 rv S.left.length (leftC S.left)) :: (refW r S.ts) :: F) (fun _ h => st_pull [2, 2, 2] h) ?_
      refine Wl.e (e_call (F := (sl 3 1 va l1.length (l1.map natV)) :: (sl 3 1 vb l1.length (l1.map natV)) :: (pt wc 96 [Value.pointer (some ⟨r, 0, none⟩), Value.int .i64 ((S.z : Nat) : Int), Value.int .i64 ((S.nx : Nat) : Int), rv]) :: (sl 105 2 rv S.left.length (leftC S.left)) :: (refW r S.ts) :: F) (args := [Value.pointer (some ⟨c, 0, none⟩), Value.int .i64 o]) Tryz.call7 rfl (take_w W0 c mb s S hI (by omega) o ho)) (fun _ _ => ?_)
      refine Wl.imp (L' := (pt c 39 [Value.pointer (some ⟨s, 0, none⟩), Value.int .i64 (((takeR S o).1.z : Nat) : Int), Value.int .i64 (((takeR S o).1.nx : Nat) : Int), Value.map (some mb)]) :: (mp mb (leftV ((takeR S o).1.left))) :: (storeW s ((takeR S o).1.ts)) :: (sl 3 1 va l1.length (l1.map natV)) :: (sl 3 1 vb l1.length (l1.map natV)) :: (pt wc 96 [Value.pointer (some ⟨r, 0, none⟩), Value.int .i64 ((S.z : Nat) : Int), Value.int .i64 ((S.nx : Nat) : Int), rv]) :: (sl 105 2 rv S.left.length (leftC S.left)) :: (refW r S.ts) :: F) (fun _ h => h) ?_
      refine Wl.q (v := Value.tuple #[Value.int .i64 (((takeR S o).2.1 : Nat) : Int), Value.int .i64 (((takeR S o).2.2 : Nat) : Int)]) (q_move rfl) ?_
      refine Wl.q (v := Value.int .i64 (((takeR S o).2.1 : Nat) : Int)) (q_extract (i := 0) rfl rfl) ?_
      refine Wl.q (v := Value.int .i64 (((takeR S o).2.2 : Nat) : Int)) (q_extract (i := 1) rfl rfl) ?_
      refine Wl.q (v := Value.int .i64 (((takeR S o).2.1 : Nat) : Int)) (q_assign rfl) ?_
      refine Wl.q (v := Value.int .i64 (((takeR S o).2.2 : Nat) : Int)) (q_assign rfl) ?_
      refine Wl.done ?_
      refine Wx.go ?_
      refine Wc.seq ?_
      refine Wc.region ?_
      refine Wl.q (v := Value.pointer (some ⟨wc, 0, none⟩)) (q_move hE14_0) ?_
      refine Wl.q (v := vt) (q_move hE3_0) ?_
      refine Wl.q (v := Value.int .i64 ((i : Nat) : Int)) (q_move hE22_0) ?_
      refine Wl.q (v := Value.pointer (some ⟨(rb vt), ro vt + i, none⟩)) (q_idx_is (m := ro vt + i) se_23 rfl (ht.some_ (by omega)) rfl (by omega) (by omega) (by simp)) ?_
      refine Wl.q (v := Value.int .i64 o) (q_load sc_3 rfl (.old (rd1 ht hget))) ?_
      refine Wl.imp (L' := (pt wc 96 [Value.pointer (some ⟨r, 0, none⟩), Value.int .i64 ((S.z : Nat) : Int), Value.int .i64 ((S.nx : Nat) : Int), rv]) :: (sl 105 2 rv S.left.length (leftC S.left)) :: (refW r S.ts) :: (pt c 39 [Value.pointer (some ⟨s, 0, none⟩), Value.int .i64 (((takeR S o).1.z : Nat) : Int), Value.int .i64 (((takeR S o).1.nx : Nat) : Int), Value.map (some mb)]) :: (mp mb (leftV ((takeR S o).1.left))) :: (storeW s ((takeR S o).1.ts)) :: (sl 3 1 va l1.length (l1.map natV)) :: (sl 3 1 vb l1.length (l1.map natV)) :: F) (fun _ h => st_pull [5, 5, 5] h) ?_
      refine Wl.e (e_call (F := (pt c 39 [Value.pointer (some ⟨s, 0, none⟩), Value.int .i64 (((takeR S o).1.z : Nat) : Int), Value.int .i64 (((takeR S o).1.nx : Nat) : Int), Value.map (some mb)]) :: (mp mb (leftV ((takeR S o).1.left))) :: (storeW s ((takeR S o).1.ts)) :: (sl 3 1 va l1.length (l1.map natV)) :: (sl 3 1 vb l1.length (l1.map natV)) :: F) (args := [Value.pointer (some ⟨wc, 0, none⟩), Value.int .i64 o]) Tryz.call10 rfl (rtake_w W0 wc r rv S hI hnl (by omega) o ho)) (fun rv2 _ => ?_)
      refine Wl.imp (L' := (pt wc 96 [Value.pointer (some ⟨r, 0, none⟩), Value.int .i64 (((takeR S o).1.z : Nat) : Int), Value.int .i64 (((takeR S o).1.nx : Nat) : Int), rv2]) :: (sl 105 2 rv2 (((takeR S o).1.left).length) (leftC ((takeR S o).1.left))) :: (refW r ((takeR S o).1.ts)) :: (pt c 39 [Value.pointer (some ⟨s, 0, none⟩), Value.int .i64 (((takeR S o).1.z : Nat) : Int), Value.int .i64 (((takeR S o).1.nx : Nat) : Int), Value.map (some mb)]) :: (mp mb (leftV ((takeR S o).1.left))) :: (storeW s ((takeR S o).1.ts)) :: (sl 3 1 va l1.length (l1.map natV)) :: (sl 3 1 vb l1.length (l1.map natV)) :: F) (fun _ h => h) ?_
      refine Wl.q (v := Value.tuple #[Value.int .i64 (((takeR S o).2.1 : Nat) : Int), Value.int .i64 (((takeR S o).2.2 : Nat) : Int)]) (q_move rfl) ?_
      refine Wl.q (v := Value.int .i64 (((takeR S o).2.1 : Nat) : Int)) (q_extract (i := 0) rfl rfl) ?_
      refine Wl.q (v := Value.int .i64 (((takeR S o).2.2 : Nat) : Int)) (q_extract (i := 1) rfl rfl) ?_
      refine Wl.q (v := Value.int .i64 (((takeR S o).2.1 : Nat) : Int)) (q_assign rfl) ?_
      refine Wl.q (v := Value.int .i64 (((takeR S o).2.2 : Nat) : Int)) (q_assign rfl) ?_
      refine Wl.done ?_
      refine Wx.go ?_
      refine Wc.seq ?_
      refine Wc.seq ?_
      refine Wc.region ?_
      refine Wl.q (v := Value.int .i64 (((takeR S o).2.2 : Nat) : Int)) (q_move rfl) ?_
      refine Wl.q (v := Value.int .i64 (((takeR S o).2.2 : Nat) : Int)) (q_move rfl) ?_
      refine Wl.q (v := Value.bool false) (q_neq (r := true) rfl rfl (decide_eq_true (rfl))) ?_
      refine Wl.done ?_
      refine Wx.go ?_
      refine Wc.no rfl ?_
      refine Wc.skip ?_
      refine Wx.go ?_
      refine Wc.seq ?_
      refine Wc.region ?_
      refine Wl.q (v := va) (q_move hE20_0) ?_
      refine Wl.q (v := Value.int .i64 (((takeR S o).2.1 : Nat) : Int)) (q_move rfl) ?_
      refine Wl.e (e_buildSlice (cs := [Value.int .i64 (((takeR S o).2.1 : Nat) : Int)]) se_23 zo_3 (by decide) (by decide) (by kernel_rfl)) (fun b3 _ => ?_)
      refine Wl.imp (L' := (pt b3 3 [Value.int .i64 (((takeR S o).2.1 : Nat) : Int)]) :: (pt wc 96 [Value.pointer (some ⟨r, 0, none⟩), Value.int .i64 (((takeR S o).1.z : Nat) : Int), Value.int .i64 (((takeR S o).1.nx : Nat) : Int), rv2]) :: (sl 105 2 rv2 (((takeR S o).1.left).length) (leftC ((takeR S o).1.left))) :: (refW r ((takeR S o).1.ts)) :: (pt c 39 [Value.pointer (some ⟨s, 0, none⟩), Value.int .i64 (((takeR S o).1.z : Nat) : Int), Value.int .i64 (((takeR S o).1.nx : Nat) : Int), Value.map (some mb)]) :: (mp mb (leftV ((takeR S o).1.left))) :: (storeW s ((takeR S o).1.ts)) :: (sl 3 1 va l1.length (l1.map natV)) :: (sl 3 1 vb l1.length (l1.map natV)) :: F) (fun _ h => h) ?_
      refine Wl.e (e_append (i := 7) (k := 1) (m := 1) (off := 0) (news := [Value.int .i64 (((takeR S o).2.1 : Nat) : Int)]) Tryz.underlying23 sz_3 by_3 zo_3 rfl rfl rfl rfl rfl (Has.of_pt (i := 0) rfl rfl) rfl (by decide) (by simp only [maxLen]; omega) (by omega)) (fun va2 _ => ?_)
      refine Wl.imp (L' := (pt b3 3 [Value.int .i64 (((takeR S o).2.1 : Nat) : Int)]) :: (pt wc 96 [Value.pointer (some ⟨r, 0, none⟩), Value.int .i64 (((takeR S o).1.z : Nat) : Int), Value.int .i64 (((takeR S o).1.nx : Nat) : Int), rv2]) :: (sl 105 2 rv2 (((takeR S o).1.left).length) (leftC ((takeR S o).1.left))) :: (refW r ((takeR S o).1.ts)) :: (pt c 39 [Value.pointer (some ⟨s, 0, none⟩), Value.int .i64 (((takeR S o).1.z : Nat) : Int), Value.int .i64 (((takeR S o).1.nx : Nat) : Int), Value.map (some mb)]) :: (mp mb (leftV ((takeR S o).1.left))) :: (storeW s ((takeR S o).1.ts)) :: (sl 3 1 va2 (l1.length + 1) ((l1.map natV) ++ [Value.int .i64 (((takeR S o).2.1 : Nat) : Int)])) :: (sl 3 1 vb l1.length (l1.map natV)) :: F) (fun _ h => h) ?_
      refine Wl.q (v := va2) (q_assign rfl) ?_
      refine Wl.done ?_
      refine Wx.go ?_
      refine Wc.region ?_
      refine Wl.q (v := vb) (q_move hE21_0) ?_
      refine Wl.q (v := Value.int .i64 (((takeR S o).2.1 : Nat) : Int)) (q_move rfl) ?_
      refine Wl.e (e_buildSlice (cs := [Value.int .i64 (((takeR S o).2.1 : Nat) : Int)]) se_23 zo_3 (by decide) (by decide) (by kernel_rfl)) (fun b4 _ => ?_)
      refine Wl.imp (L' := (pt b4 3 [Value.int .i64 (((takeR S o).2.1 : Nat) : Int)]) :: (pt b3 3 [Value.int .i64 (((takeR S o).2.1 : Nat) : Int)]) :: (pt wc 96 [Value.pointer (some ⟨r, 0, none⟩), Value.int .i64 (((takeR S o).1.z : Nat) : Int), Value.int .i64 (((takeR S o).1.nx : Nat) : Int), rv2]) :: (sl 105 2 rv2 (((takeR S o).1.left).length) (leftC ((takeR S o).1.left))) :: (refW r ((takeR S o).1.ts)) :: (pt c 39 [Value.pointer (some ⟨s, 0, none⟩), Value.int .i64 (((takeR S o).1.z : Nat) : Int), Value.int .i64 (((takeR S o).1.nx : Nat) : Int), Value.map (some mb)]) :: (mp mb (leftV ((takeR S o).1.left))) :: (storeW s ((takeR S o).1.ts)) :: (sl 3 1 va2 (l1.length + 1) ((l1.map natV) ++ [Value.int .i64 (((takeR S o).2.1 : Nat) : Int)])) :: (sl 3 1 vb l1.length (l1.map natV)) :: F) (fun _ h => h) ?_
      refine Wl.e (e_append (i := 9) (k := 1) (m := 1) (off := 0) (news := [Value.int .i64 (((takeR S o).2.1 : Nat) : Int)]) Tryz.underlying23 sz_3 by_3 zo_3 rfl rfl rfl rfl rfl (Has.of_pt (i := 0) rfl rfl) rfl (by decide) (by simp only [maxLen]; omega) (by omega)) (fun vb2 _ => ?_)
      refine Wl.imp (L' := (pt b4 3 [Value.int .i64 (((takeR S o).2.1 : Nat) : Int)]) :: (pt b3 3 [Value.int .i64 (((takeR S o).2.1 : Nat) : Int)]) :: (pt wc 96 [Value.pointer (some ⟨r, 0, none⟩), Value.int .i64 (((takeR S o).1.z : Nat) : Int), Value.int .i64 (((takeR S o).1.nx : Nat) : Int), rv2]) :: (sl 105 2 rv2 (((takeR S o).1.left).length) (leftC ((takeR S o).1.left))) :: (refW r ((takeR S o).1.ts)) :: (pt c 39 [Value.pointer (some ⟨s, 0, none⟩), Value.int .i64 (((takeR S o).1.z : Nat) : Int), Value.int .i64 (((takeR S o).1.nx : Nat) : Int), Value.map (some mb)]) :: (mp mb (leftV ((takeR S o).1.left))) :: (storeW s ((takeR S o).1.ts)) :: (sl 3 1 va2 (l1.length + 1) ((l1.map natV) ++ [Value.int .i64 (((takeR S o).2.1 : Nat) : Int)])) :: (sl 3 1 vb2 (l1.length + 1) ((l1.map natV) ++ [Value.int .i64 (((takeR S o).2.1 : Nat) : Int)])) :: F) (fun _ h => h) ?_
      refine Wl.q (v := vb2) (q_assign rfl) ?_
      refine Wl.done ?_
      refine Wx.blockEnd ?_
      refine Wx.go ?_
      refine Wc.region ?_
      refine Wl.q (v := Value.int .i64 ((i : Nat) : Int)) (q_move hE22_0) ?_
      refine Wl.q (v := Value.int .i64 ((i + 1 : Nat) : Int)) (q_add (c := ((i + 1 : Nat) : Int)) rfl rfl (by rw [wrap_i64] <;> omega)) ?_
      refine Wl.q (v := Value.int .i64 ((i + 1 : Nat) : Int)) (q_assign rfl) ?_
      refine Wl.done ?_
      refine Wx.at (i + 1, (takeR S o).1, l1 ++ [(takeR S o).2.1], va2, vb2, rv2) ⟨(by simp only; omega), rfl, rfl, rfl, hE3_0, hE9_0, hE10_0, hE12_0, hE14_0, (by simp only; omega), TI.ch, (bnd_next TI (take_zero S o) hbd), (by simp only [List.length_append, List.length_singleton]; omega)⟩ (fun w hs => by rw [List.length_append, List.map_append]; exact (st_pull [6, 6, 3, 3, 3, 0, 0, 0] (st_drop (st_drop (st_pull [0, 0] hs)))))
    ·
      have hle := hasN_len2 hI
      refine Wl.q (v := Value.bool false) (q_lss (r := false) rfl rfl (decide_eq_false hlt)) ?_
      refine Wl.done ?_
      refine Wx.go ?_
      refine Wc.no rfl ?_
      refine Wc.exit ?_
      refine Wx.thenExit ?_
      refine Wx.thenExit ?_
      refine Wx.out ?_
      refine Wx.go ?_
      refine Wc.seq ?_
      refine Wc.region ?_
      refine Wl.q (v := Value.pointer (some ⟨c, 0, none⟩)) (q_move hE12_0) ?_
      refine Wl.imp (L' := (pt c 39 [Value.pointer (some ⟨s, 0, none⟩), Value.int .i64 ((S.z : Nat) : Int), Value.int .i64 ((S.nx : Nat) : Int), Value.map (some mb)]) :: (mp mb (leftV S.left)) :: (sl 3 1 va l1.length (l1.map natV)) :: (sl 3 1 vb l1.length (l1.map natV)) :: (storeW s S.ts) :: (pt wc 96 [Value.pointer (some ⟨r, 0, none⟩), Value.int .i64 ((S.z : Nat) : Int), Value.int .i64 ((S.nx : Nat) : Int), rv]) :: (sl 105 2 rv S.left.length (leftC S.left)) :: (refW r S.ts) :: F) (fun _ h => st_pull [2, 2] h) ?_
      refine Wl.e (e_call (F := (sl 3 1 va l1.length (l1.map natV)) :: (sl 3 1 vb l1.length (l1.map natV)) :: (storeW s S.ts) :: (pt wc 96 [Value.pointer (some ⟨r, 0, none⟩), Value.int .i64 ((S.z : Nat) : Int), Value.int .i64 ((S.nx : Nat) : Int), rv]) :: (sl 105 2 rv S.left.length (leftC S.left)) :: (refW r S.ts) :: F) (args := [Value.pointer (some ⟨c, 0, none⟩)]) Tryz.call8 rfl (has_w W0 c mb s S hI.ok (by omega) (by omega))) (fun hv1 _ => ?_)
      refine Wl.imp (L' := (sl 3 1 hv1 ((hasN S).length) ((hasN S).map natV)) :: (pt c 39 [Value.pointer (some ⟨s, 0, none⟩), Value.int .i64 ((S.z : Nat) : Int), Value.int .i64 ((S.nx : Nat) : Int), Value.map (some mb)]) :: (mp mb (leftV S.left)) :: (sl 3 1 va l1.length (l1.map natV)) :: (sl 3 1 vb l1.length (l1.map natV)) :: (storeW s S.ts) :: (pt wc 96 [Value.pointer (some ⟨r, 0, none⟩), Value.int .i64 ((S.z : Nat) : Int), Value.int .i64 ((S.nx : Nat) : Int), rv]) :: (sl 105 2 rv S.left.length (leftC S.left)) :: (refW r S.ts) :: F) (fun _ h => h) ?_
      refine Wl.q (v := hv1) (q_assign rfl) ?_
      refine Wl.done ?_
      refine Wx.go ?_
      refine Wc.seq ?_
      refine Wc.region ?_
      refine Wl.q (v := Value.pointer (some ⟨c, 0, none⟩)) (q_move hE12_0) ?_
      refine Wl.imp (L' := (pt c 39 [Value.pointer (some ⟨s, 0, none⟩), Value.int .i64 ((S.z : Nat) : Int), Value.int .i64 ((S.nx : Nat) : Int), Value.map (some mb)]) :: (mp mb (leftV S.left)) :: (sl 3 1 hv1 ((hasN S).length) ((hasN S).map natV)) :: (sl 3 1 va l1.length (l1.map natV)) :: (sl 3 1 vb l1.length (l1.map natV)) :: (storeW s S.ts) :: (pt wc 96 [Value.pointer (some ⟨r, 0, none⟩), Value.int .i64 ((S.z : Nat) : Int), Value.int .i64 ((S.nx : Nat) : Int), rv]) :: (sl 105 2 rv S.left.length (leftC S.left)) :: (refW r S.ts) :: F) (fun _ h => st_pull [1, 1] h) ?_
      refine Wl.e (e_call (F := (sl 3 1 hv1 ((hasN S).length) ((hasN S).map natV)) :: (sl 3 1 va l1.length (l1.map natV)) :: (sl 3 1 vb l1.length (l1.map natV)) :: (storeW s S.ts) :: (pt wc 96 [Value.pointer (some ⟨r, 0, none⟩), Value.int .i64 ((S.z : Nat) : Int), Value.int .i64 ((S.nx : Nat) : Int), rv]) :: (sl 105 2 rv S.left.length (leftC S.left)) :: (refW r S.ts) :: F) (args := [Value.pointer (some ⟨c, 0, none⟩)]) Tryz.call8 rfl (has_w W0 c mb s S hI.ok (by omega) (by omega))) (fun hv2 _ => ?_)
      refine Wl.imp (L' := (sl 3 1 hv2 ((hasN S).length) ((hasN S).map natV)) :: (pt c 39 [Value.pointer (some ⟨s, 0, none⟩), Value.int .i64 ((S.z : Nat) : Int), Value.int .i64 ((S.nx : Nat) : Int), Value.map (some mb)]) :: (mp mb (leftV S.left)) :: (sl 3 1 hv1 ((hasN S).length) ((hasN S).map natV)) :: (sl 3 1 va l1.length (l1.map natV)) :: (sl 3 1 vb l1.length (l1.map natV)) :: (storeW s S.ts) :: (pt wc 96 [Value.pointer (some ⟨r, 0, none⟩), Value.int .i64 ((S.z : Nat) : Int), Value.int .i64 ((S.nx : Nat) : Int), rv]) :: (sl 105 2 rv S.left.length (leftC S.left)) :: (refW r S.ts) :: F) (fun _ h => h) ?_
      refine Wl.q (v := hv2) (q_assign rfl) ?_
      refine Wl.done ?_
      refine Wx.go ?_
      refine Wc.seq ?_
      refine Wc.region ?_
      refine Wl.q (v := Value.pointer (some ⟨s, 0, none⟩)) (q_move hE9_0) ?_
      refine Wl.q (v := Value.pointer (some ⟨r, 0, none⟩)) (q_move hE10_0) ?_
      refine Wl.imp (L' := (storeW s S.ts) :: (refW r S.ts) :: (sl 3 1 hv2 ((hasN S).length) ((hasN S).map natV)) :: (pt c 39 [Value.pointer (some ⟨s, 0, none⟩), Value.int .i64 ((S.z : Nat) : Int), Value.int .i64 ((S.nx : Nat) : Int), Value.map (some mb)]) :: (mp mb (leftV S.left)) :: (sl 3 1 hv1 ((hasN S).length) ((hasN S).map natV)) :: (sl 3 1 va l1.length (l1.map natV)) :: (sl 3 1 vb l1.length (l1.map natV)) :: (pt wc 96 [Value.pointer (some ⟨r, 0, none⟩), Value.int .i64 ((S.z : Nat) : Int), Value.int .i64 ((S.nx : Nat) : Int), rv]) :: (sl 105 2 rv S.left.length (leftC S.left)) :: F) (fun _ h => st_pull [6, 8] h) ?_
      refine Wl.e (e_call (F := (sl 3 1 hv2 ((hasN S).length) ((hasN S).map natV)) :: (pt c 39 [Value.pointer (some ⟨s, 0, none⟩), Value.int .i64 ((S.z : Nat) : Int), Value.int .i64 ((S.nx : Nat) : Int), Value.map (some mb)]) :: (mp mb (leftV S.left)) :: (sl 3 1 hv1 ((hasN S).length) ((hasN S).map natV)) :: (sl 3 1 va l1.length (l1.map natV)) :: (sl 3 1 vb l1.length (l1.map natV)) :: (pt wc 96 [Value.pointer (some ⟨r, 0, none⟩), Value.int .i64 ((S.z : Nat) : Int), Value.int .i64 ((S.nx : Nat) : Int), rv]) :: (sl 105 2 rv S.left.length (leftC S.left)) :: F) (args := [Value.pointer (some ⟨s, 0, none⟩), Value.pointer (some ⟨r, 0, none⟩)]) Tryz.call11 rfl (across_w W0 s r S.ts hI.ok.wf (by omega))) (fun ⟨m, mv⟩ _ => ?_)
      refine Wl.imp (L' := (pt m 108 [mv]) :: (sl 3 1 mv (S.ts.length + 1) ((List.range (S.ts.length + 1)).map natV)) :: (storeW s S.ts) :: (refW r S.ts) :: (sl 3 1 hv2 ((hasN S).length) ((hasN S).map natV)) :: (pt c 39 [Value.pointer (some ⟨s, 0, none⟩), Value.int .i64 ((S.z : Nat) : Int), Value.int .i64 ((S.nx : Nat) : Int), Value.map (some mb)]) :: (mp mb (leftV S.left)) :: (sl 3 1 hv1 ((hasN S).length) ((hasN S).map natV)) :: (sl 3 1 va l1.length (l1.map natV)) :: (sl 3 1 vb l1.length (l1.map natV)) :: (pt wc 96 [Value.pointer (some ⟨r, 0, none⟩), Value.int .i64 ((S.z : Nat) : Int), Value.int .i64 ((S.nx : Nat) : Int), rv]) :: (sl 105 2 rv S.left.length (leftC S.left)) :: F) (fun _ h => h) ?_
      refine Wl.q (v := Value.tuple #[Value.pointer (some ⟨m, 0, none⟩), Value.bool true]) (q_move rfl) ?_
      refine Wl.q (v := Value.pointer (some ⟨m, 0, none⟩)) (q_extract (i := 0) rfl rfl) ?_
      refine Wl.q (v := Value.bool true) (q_extract (i := 1) rfl rfl) ?_
      refine Wl.q (v := Value.pointer (some ⟨m, 0, none⟩)) (q_assign rfl) ?_
      refine Wl.q (v := Value.bool true) (q_assign rfl) ?_
      refine Wl.done ?_
      refine Wx.go ?_
      refine Wc.seq ?_
      refine Wc.seq ?_
      refine Wc.region ?_
      refine Wl.q (v := Value.bool true) (q_move rfl) ?_
      refine Wl.q (v := Value.bool false) (q_not rfl rfl) ?_
      refine Wl.q (v := Value.bool false) (q_move rfl) ?_
      refine Wl.q (v := Value.pointer (some ⟨m, 0, none⟩)) (q_move rfl) ?_
      refine Wl.q (v := va) (q_move hE20_0) ?_
      refine Wl.q (v := vb) (q_move hE21_0) ?_
      refine Wl.imp (L' := (pt m 108 [mv]) :: (sl 3 1 mv (S.ts.length + 1) ((List.range (S.ts.length + 1)).map natV)) :: (sl 3 1 va l1.length (l1.map natV)) :: (sl 3 1 vb l1.length (l1.map natV)) :: (storeW s S.ts) :: (refW r S.ts) :: (sl 3 1 hv2 ((hasN S).length) ((hasN S).map natV)) :: (pt c 39 [Value.pointer (some ⟨s, 0, none⟩), Value.int .i64 ((S.z : Nat) : Int), Value.int .i64 ((S.nx : Nat) : Int), Value.map (some mb)]) :: (mp mb (leftV S.left)) :: (sl 3 1 hv1 ((hasN S).length) ((hasN S).map natV)) :: (pt wc 96 [Value.pointer (some ⟨r, 0, none⟩), Value.int .i64 ((S.z : Nat) : Int), Value.int .i64 ((S.nx : Nat) : Int), rv]) :: (sl 105 2 rv S.left.length (leftC S.left)) :: F) (fun _ h => st_pull [0, 0, 6, 6] h) ?_
      refine Wl.e (e_call (F := (storeW s S.ts) :: (refW r S.ts) :: (sl 3 1 hv2 ((hasN S).length) ((hasN S).map natV)) :: (pt c 39 [Value.pointer (some ⟨s, 0, none⟩), Value.int .i64 ((S.z : Nat) : Int), Value.int .i64 ((S.nx : Nat) : Int), Value.map (some mb)]) :: (mp mb (leftV S.left)) :: (sl 3 1 hv1 ((hasN S).length) ((hasN S).map natV)) :: (pt wc 96 [Value.pointer (some ⟨r, 0, none⟩), Value.int .i64 ((S.z : Nat) : Int), Value.int .i64 ((S.nx : Nat) : Int), rv]) :: (sl 105 2 rv S.left.length (leftC S.left)) :: F) (args := [Value.pointer (some ⟨m, 0, none⟩), va, vb]) Tryz.call12 rfl (numbers_w W0 m mv va vb (S.ts.length + 1) l1 hbd (by omega))) (fun _ _ => ?_)
      refine Wl.imp (L' := (pt m 108 [mv]) :: (sl 3 1 mv (S.ts.length + 1) ((List.range (S.ts.length + 1)).map natV)) :: (sl 3 1 va l1.length (l1.map natV)) :: (sl 3 1 vb l1.length (l1.map natV)) :: (storeW s S.ts) :: (refW r S.ts) :: (sl 3 1 hv2 ((hasN S).length) ((hasN S).map natV)) :: (pt c 39 [Value.pointer (some ⟨s, 0, none⟩), Value.int .i64 ((S.z : Nat) : Int), Value.int .i64 ((S.nx : Nat) : Int), Value.map (some mb)]) :: (mp mb (leftV S.left)) :: (sl 3 1 hv1 ((hasN S).length) ((hasN S).map natV)) :: (pt wc 96 [Value.pointer (some ⟨r, 0, none⟩), Value.int .i64 ((S.z : Nat) : Int), Value.int .i64 ((S.nx : Nat) : Int), rv]) :: (sl 105 2 rv S.left.length (leftC S.left)) :: F) (fun _ h => h) ?_
      refine Wl.q (v := Value.bool false) (q_not rfl rfl) ?_
      refine Wl.q (v := Value.bool false) (q_pick (t := false) rfl rfl) ?_
      refine Wl.q (v := Value.bool false) (q_move rfl) ?_
      refine Wl.q (v := Value.pointer (some ⟨m, 0, none⟩)) (q_move rfl) ?_
      refine Wl.q (v := hv1) (q_move rfl) ?_
      refine Wl.q (v := Value.pointer (some ⟨wc, 0, none⟩)) (q_move hE14_0) ?_
      refine Wl.imp (L' := (pt wc 96 [Value.pointer (some ⟨r, 0, none⟩), Value.int .i64 ((S.z : Nat) : Int), Value.int .i64 ((S.nx : Nat) : Int), rv]) :: (sl 105 2 rv S.left.length (leftC S.left)) :: (refW r S.ts) :: (pt m 108 [mv]) :: (sl 3 1 mv (S.ts.length + 1) ((List.range (S.ts.length + 1)).map natV)) :: (sl 3 1 va l1.length (l1.map natV)) :: (sl 3 1 vb l1.length (l1.map natV)) :: (storeW s S.ts) :: (sl 3 1 hv2 ((hasN S).length) ((hasN S).map natV)) :: (pt c 39 [Value.pointer (some ⟨s, 0, none⟩), Value.int .i64 ((S.z : Nat) : Int), Value.int .i64 ((S.nx : Nat) : Int), Value.map (some mb)]) :: (mp mb (leftV S.left)) :: (sl 3 1 hv1 ((hasN S).length) ((hasN S).map natV)) :: F) (fun _ h => st_pull [10, 10, 5] h) ?_
      refine Wl.e (e_call (F := (pt m 108 [mv]) :: (sl 3 1 mv (S.ts.length + 1) ((List.range (S.ts.length + 1)).map natV)) :: (sl 3 1 va l1.length (l1.map natV)) :: (sl 3 1 vb l1.length (l1.map natV)) :: (storeW s S.ts) :: (sl 3 1 hv2 ((hasN S).length) ((hasN S).map natV)) :: (pt c 39 [Value.pointer (some ⟨s, 0, none⟩), Value.int .i64 ((S.z : Nat) : Int), Value.int .i64 ((S.nx : Nat) : Int), Value.map (some mb)]) :: (mp mb (leftV S.left)) :: (sl 3 1 hv1 ((hasN S).length) ((hasN S).map natV)) :: F) (args := [Value.pointer (some ⟨wc, 0, none⟩)]) Tryz.call13 rfl (rhas_w W0 wc r rv S hI.ok (by omega) (by omega))) (fun hw1 _ => ?_)
      refine Wl.imp (L' := (sl 3 1 hw1 ((hasN S).length) ((hasN S).map natV)) :: (pt wc 96 [Value.pointer (some ⟨r, 0, none⟩), Value.int .i64 ((S.z : Nat) : Int), Value.int .i64 ((S.nx : Nat) : Int), rv]) :: (sl 105 2 rv S.left.length (leftC S.left)) :: (refW r S.ts) :: (pt m 108 [mv]) :: (sl 3 1 mv (S.ts.length + 1) ((List.range (S.ts.length + 1)).map natV)) :: (sl 3 1 va l1.length (l1.map natV)) :: (sl 3 1 vb l1.length (l1.map natV)) :: (storeW s S.ts) :: (sl 3 1 hv2 ((hasN S).length) ((hasN S).map natV)) :: (pt c 39 [Value.pointer (some ⟨s, 0, none⟩), Value.int .i64 ((S.z : Nat) : Int), Value.int .i64 ((S.nx : Nat) : Int), Value.map (some mb)]) :: (mp mb (leftV S.left)) :: (sl 3 1 hv1 ((hasN S).length) ((hasN S).map natV)) :: F) (fun _ h => h) ?_
      refine Wl.imp (L' := (pt m 108 [mv]) :: (sl 3 1 mv (S.ts.length + 1) ((List.range (S.ts.length + 1)).map natV)) :: (sl 3 1 hv1 ((hasN S).length) ((hasN S).map natV)) :: (sl 3 1 hw1 ((hasN S).length) ((hasN S).map natV)) :: (pt wc 96 [Value.pointer (some ⟨r, 0, none⟩), Value.int .i64 ((S.z : Nat) : Int), Value.int .i64 ((S.nx : Nat) : Int), rv]) :: (sl 105 2 rv S.left.length (leftC S.left)) :: (refW r S.ts) :: (sl 3 1 va l1.length (l1.map natV)) :: (sl 3 1 vb l1.length (l1.map natV)) :: (storeW s S.ts) :: (sl 3 1 hv2 ((hasN S).length) ((hasN S).map natV)) :: (pt c 39 [Value.pointer (some ⟨s, 0, none⟩), Value.int .i64 ((S.z : Nat) : Int), Value.int .i64 ((S.nx : Nat) : Int), Value.map (some mb)]) :: (mp mb (leftV S.left)) :: F) (fun _ h => st_pull [4, 4, 10, 0] h) ?_
      refine Wl.e (e_call (F := (pt wc 96 [Value.pointer (some ⟨r, 0, none⟩), Value.int .i64 ((S.z : Nat) : Int), Value.int .i64 ((S.nx : Nat) : Int), rv]) :: (sl 105 2 rv S.left.length (leftC S.left)) :: (refW r S.ts) :: (sl 3 1 va l1.length (l1.map natV)) :: (sl 3 1 vb l1.length (l1.map natV)) :: (storeW s S.ts) :: (sl 3 1 hv2 ((hasN S).length) ((hasN S).map natV)) :: (pt c 39 [Value.pointer (some ⟨s, 0, none⟩), Value.int .i64 ((S.z : Nat) : Int), Value.int .i64 ((S.nx : Nat) : Int), Value.map (some mb)]) :: (mp mb (leftV S.left)) :: F) (args := [Value.pointer (some ⟨m, 0, none⟩), hv1, hw1]) Tryz.call12 rfl (numbers_w W0 m mv hv1 hw1 (S.ts.length + 1) (hasN S) (fun x hx => Nat.lt_succ_of_le (has_rng hI x hx).2) (by omega))) (fun _ _ => ?_)
      refine Wl.imp (L' := (pt m 108 [mv]) :: (sl 3 1 mv (S.ts.length + 1) ((List.range (S.ts.length + 1)).map natV)) :: (sl 3 1 hv1 ((hasN S).length) ((hasN S).map natV)) :: (sl 3 1 hw1 ((hasN S).length) ((hasN S).map natV)) :: (pt wc 96 [Value.pointer (some ⟨r, 0, none⟩), Value.int .i64 ((S.z : Nat) : Int), Value.int .i64 ((S.nx : Nat) : Int), rv]) :: (sl 105 2 rv S.left.length (leftC S.left)) :: (refW r S.ts) :: (sl 3 1 va l1.length (l1.map natV)) :: (sl 3 1 vb l1.length (l1.map natV)) :: (storeW s S.ts) :: (sl 3 1 hv2 ((hasN S).length) ((hasN S).map natV)) :: (pt c 39 [Value.pointer (some ⟨s, 0, none⟩), Value.int .i64 ((S.z : Nat) : Int), Value.int .i64 ((S.nx : Nat) : Int), Value.map (some mb)]) :: (mp mb (leftV S.left)) :: F) (fun _ h => h) ?_
      refine Wl.q (v := Value.bool false) (q_not rfl rfl) ?_
      refine Wl.q (v := Value.bool false) (q_pick (t := false) rfl rfl) ?_
      refine Wl.done ?_
      refine Wx.go ?_
      refine Wc.no rfl ?_
      refine Wc.skip ?_
      refine Wx.go ?_
      refine Wc.seq ?_
      refine Wc.region ?_
      refine Wl.e (e_alloc (vs := [Value.int .i64 0, Value.slice none 0 0, Value.slice none 0 0, Value.slice none 0 0, Value.slice none 0 0, Value.slice none 0 0, Value.slice none 0 0, Value.slice none 0 0, Value.slice none 0 0, Value.slice none 0 0, Value.slice none 0 0, Value.slice none 0 0, Value.slice none 0 0, Value.slice none 0 0, Value.slice none 0 0, Value.slice none 0 0, Value.slice none 0 0, Value.slice none 0 0, Value.slice none 0 0, Value.slice none 0 0, Value.slice none 0 0, Value.slice none 0 0, Value.slice none 0 0, Value.slice none 0 0, Value.slice none 0 0, Value.slice none 0 0, Value.slice none 0 0, Value.slice none 0 0, Value.slice none 0 0, Value.slice none 0 0, Value.slice none 0 0, Value.slice none 0 0, Value.slice none 0 0, Value.slice none 0 0, Value.slice none 0 0]) zo_81 rfl) (fun b _ => ?_)
      refine Wl.imp (L' := (pt b 81 [Value.int .i64 0, Value.slice none 0 0, Value.slice none 0 0, Value.slice none 0 0, Value.slice none 0 0, Value.slice none 0 0, Value.slice none 0 0, Value.slice none 0 0, Value.slice none 0 0, Value.slice none 0 0, Value.slice none 0 0, Value.slice none 0 0, Value.slice none 0 0, Value.slice none 0 0, Value.slice none 0 0, Value.slice none 0 0, Value.slice none 0 0, Value.slice none 0 0, Value.slice none 0 0, Value.slice none 0 0, Value.slice none 0 0, Value.slice none 0 0, Value.slice none 0 0, Value.slice none 0 0, Value.slice none 0 0, Value.slice none 0 0, Value.slice none 0 0, Value.slice none 0 0, Value.slice none 0 0, Value.slice none 0 0, Value.slice none 0 0, Value.slice none 0 0, Value.slice none 0 0, Value.slice none 0 0, Value.slice none 0 0]) :: (pt m 108 [mv]) :: (sl 3 1 mv (S.ts.length + 1) ((List.range (S.ts.length + 1)).map natV)) :: (sl 3 1 hv1 ((hasN S).length) ((hasN S).map natV)) :: (sl 3 1 hw1 ((hasN S).length) ((hasN S).map natV)) :: (pt wc 96 [Value.pointer (some ⟨r, 0, none⟩), Value.int .i64 ((S.z : Nat) : Int), Value.int .i64 ((S.nx : Nat) : Int), rv]) :: (sl 105 2 rv S.left.length (leftC S.left)) :: (refW r S.ts) :: (sl 3 1 va l1.length (l1.map natV)) :: (sl 3 1 vb l1.length (l1.map natV)) :: (storeW s S.ts) :: (sl 3 1 hv2 ((hasN S).length) ((hasN S).map natV)) :: (pt c 39 [Value.pointer (some ⟨s, 0, none⟩), Value.int .i64 ((S.z : Nat) : Int), Value.int .i64 ((S.nx : Nat) : Int), Value.map (some mb)]) :: (mp mb (leftV S.left)) :: F) (fun _ h => h) ?_
      refine Wl.done ?_
      refine Wx.go ?_
      refine Wc.seq ?_
      refine Wc.region ?_
      refine Wl.imp (L' := (sl 126 2 (Value.slice none 0 0) 0 []) :: (pt b 81 (bkC 0 (Value.slice none 0 0))) :: (pt m 108 [mv]) :: (sl 3 1 mv (S.ts.length + 1) ((List.range (S.ts.length + 1)).map natV)) :: (sl 3 1 hv1 ((hasN S).length) ((hasN S).map natV)) :: (sl 3 1 hw1 ((hasN S).length) ((hasN S).map natV)) :: (pt wc 96 [Value.pointer (some ⟨r, 0, none⟩), Value.int .i64 ((S.z : Nat) : Int), Value.int .i64 ((S.nx : Nat) : Int), rv]) :: (sl 105 2 rv S.left.length (leftC S.left)) :: (refW r S.ts) :: (sl 3 1 va l1.length (l1.map natV)) :: (sl 3 1 vb l1.length (l1.map natV)) :: (storeW s S.ts) :: (sl 3 1 hv2 ((hasN S).length) ((hasN S).map natV)) :: (pt c 39 [Value.pointer (some ⟨s, 0, none⟩), Value.int .i64 ((S.z : Nat) : Int), Value.int .i64 ((S.nx : Nat) : Int), Value.map (some mb)]) :: (mp mb (leftV S.left)) :: F) (fun w hs => st_sl_nil hs) ?_
      refine Wl.sl (i := 4) (m := (hasN S).length) rfl (by unfold hasN; simp) (fun pb pc hvp hcp => ?_)
      subst hvp
      refine Wl.q (v := Value.slice (some ⟨pb, 0, none⟩) ((hasN S).length) pc) (q_move rfl) ?_
      refine Wl.imp (L' := (pt b 81 (bkC 0 (Value.slice none 0 0))) :: (sl 126 2 (Value.slice none 0 0) 0 []) :: (pt m 108 [mv]) :: (sl 3 1 mv (S.ts.length + 1) ((List.range (S.ts.length + 1)).map natV)) :: (slp 3 1 pb pc ((hasN S).map natV)) :: (sl 3 1 hw1 ((hasN S).length) ((hasN S).map natV)) :: (pt wc 96 [Value.pointer (some ⟨r, 0, none⟩), Value.int .i64 ((S.z : Nat) : Int), Value.int .i64 ((S.nx : Nat) : Int), rv]) :: (sl 105 2 rv S.left.length (leftC S.left)) :: (refW r S.ts) :: (sl 3 1 va l1.length (l1.map natV)) :: (sl 3 1 vb l1.length (l1.map natV)) :: (storeW s S.ts) :: (sl 3 1 hv2 ((hasN S).length) ((hasN S).map natV)) :: (pt c 39 [Value.pointer (some ⟨s, 0, none⟩), Value.int .i64 ((S.z : Nat) : Int), Value.int .i64 ((S.nx : Nat) : Int), Value.map (some mb)]) :: (mp mb (leftV S.left)) :: F) (fun _ h => st_pull [1, 0] h) ?_
      refine Wl.e (e_call (F := (pt m 108 [mv]) :: (sl 3 1 mv (S.ts.length + 1) ((List.range (S.ts.length + 1)).map natV)) :: (slp 3 1 pb pc ((hasN S).map natV)) :: (sl 3 1 hw1 ((hasN S).length) ((hasN S).map natV)) :: (pt wc 96 [Value.pointer (some ⟨r, 0, none⟩), Value.int .i64 ((S.z : Nat) : Int), Value.int .i64 ((S.nx : Nat) : Int), rv]) :: (sl 105 2 rv S.left.length (leftC S.left)) :: (refW r S.ts) :: (sl 3 1 va l1.length (l1.map natV)) :: (sl 3 1 vb l1.length (l1.map natV)) :: (storeW s S.ts) :: (sl 3 1 hv2 ((hasN S).length) ((hasN S).map natV)) :: (pt c 39 [Value.pointer (some ⟨s, 0, none⟩), Value.int .i64 ((S.z : Nat) : Int), Value.int .i64 ((S.nx : Nat) : Int), Value.map (some mb)]) :: (mp mb (leftV S.left)) :: F) (args := [Value.pointer (some ⟨b, 0, none⟩), Value.slice (some ⟨pb, 0, none⟩) ((hasN S).length) pc]) Tryz.call14 rfl (bnum_w W0 b 0 (Value.slice none 0 0) 0 [] pb ((hasN S).length) pc (by omega) (by omega))) (fun bv1 _ => ?_)
      refine Wl.imp (L' := (pt b 81 (bkC (0 + 1) bv1)) :: (sl 126 2 bv1 (0 + 1) ([] ++ [Value.slice (some ⟨pb, 0, none⟩) ((hasN S).length) pc, .int .i64 ((0 : Nat) : Int)])) :: (pt m 108 [mv]) :: (sl 3 1 mv (S.ts.length + 1) ((List.range (S.ts.length + 1)).map natV)) :: (slp 3 1 pb pc ((hasN S).map natV)) :: (sl 3 1 hw1 ((hasN S).length) ((hasN S).map natV)) :: (pt wc 96 [Value.pointer (some ⟨r, 0, none⟩), Value.int .i64 ((S.z : Nat) : Int), Value.int .i64 ((S.nx : Nat) : Int), rv]) :: (sl 105 2 rv S.left.length (leftC S.left)) :: (refW r S.ts) :: (sl 3 1 va l1.length (l1.map natV)) :: (sl 3 1 vb l1.length (l1.map natV)) :: (storeW s S.ts) :: (sl 3 1 hv2 ((hasN S).length) ((hasN S).map natV)) :: (pt c 39 [Value.pointer (some ⟨s, 0, none⟩), Value.int .i64 ((S.z : Nat) : Int), Value.int .i64 ((S.nx : Nat) : Int), Value.map (some mb)]) :: (mp mb (leftV S.left)) :: F) (fun _ h => h) ?_
      refine Wl.done ?_
      refine Wx.go ?_
      refine Wc.seq ?_
      refine Wc.region ?_
      refine Wl.sl (i := 12) (m := (hasN S).length) rfl (by unfold hasN; simp) (fun qb qc hvq hcq => ?_)
      subst hvq
      refine Wl.q (v := Value.slice (some ⟨qb, 0, none⟩) ((hasN S).length) qc) (q_move rfl) ?_
      refine Wl.e (e_call (F := (pt m 108 [mv]) :: (sl 3 1 mv (S.ts.length + 1) ((List.range (S.ts.length + 1)).map natV)) :: (slp 3 1 pb pc ((hasN S).map natV)) :: (sl 3 1 hw1 ((hasN S).length) ((hasN S).map natV)) :: (pt wc 96 [Value.pointer (some ⟨r, 0, none⟩), Value.int .i64 ((S.z : Nat) : Int), Value.int .i64 ((S.nx : Nat) : Int), rv]) :: (sl 105 2 rv S.left.length (leftC S.left)) :: (refW r S.ts) :: (sl 3 1 va l1.length (l1.map natV)) :: (sl 3 1 vb l1.length (l1.map natV)) :: (storeW s S.ts) :: (slp 3 1 qb qc ((hasN S).map natV)) :: (pt c 39 [Value.pointer (some ⟨s, 0, none⟩), Value.int .i64 ((S.z : Nat) : Int), Value.int .i64 ((S.nx : Nat) : Int), Value.map (some mb)]) :: (mp mb (leftV S.left)) :: F) (args := [Value.pointer (some ⟨b, 0, none⟩), Value.slice (some ⟨qb, 0, none⟩) ((hasN S).length) qc]) Tryz.call14 rfl (bnum_w W0 b (0 + 1) bv1 (0 + 1) ([] ++ [Value.slice (some ⟨pb, 0, none⟩) ((hasN S).length) pc, .int .i64 ((0 : Nat) : Int)]) qb ((hasN S).length) qc (by omega) (by omega))) (fun bv2 _ => ?_)
      refine Wl.imp (L' := (pt b 81 (bkC ((0 + 1) + 1) bv2)) :: (sl 126 2 bv2 ((0 + 1) + 1) (([] ++ [Value.slice (some ⟨pb, 0, none⟩) ((hasN S).length) pc, .int .i64 ((0 : Nat) : Int)]) ++ [Value.slice (some ⟨qb, 0, none⟩) ((hasN S).length) qc, .int .i64 (((0 + 1) : Nat) : Int)])) :: (pt m 108 [mv]) :: (sl 3 1 mv (S.ts.length + 1) ((List.range (S.ts.length + 1)).map natV)) :: (slp 3 1 pb pc ((hasN S).map natV)) :: (sl 3 1 hw1 ((hasN S).length) ((hasN S).map natV)) :: (pt wc 96 [Value.pointer (some ⟨r, 0, none⟩), Value.int .i64 ((S.z : Nat) : Int), Value.int .i64 ((S.nx : Nat) : Int), rv]) :: (sl 105 2 rv S.left.length (leftC S.left)) :: (refW r S.ts) :: (sl 3 1 va l1.length (l1.map natV)) :: (sl 3 1 vb l1.length (l1.map natV)) :: (storeW s S.ts) :: (slp 3 1 qb qc ((hasN S).map natV)) :: (pt c 39 [Value.pointer (some ⟨s, 0, none⟩), Value.int .i64 ((S.z : Nat) : Int), Value.int .i64 ((S.nx : Nat) : Int), Value.map (some mb)]) :: (mp mb (leftV S.left)) :: F) (fun _ h => h) ?_
      refine Wl.done ?_
      refine Wx.go ?_
      refine Wc.seq ?_
      refine Wc.region ?_
      refine Wl.imp (L' := (sl 3 1 (Value.slice (some ⟨qb, 0, none⟩) ((hasN S).length) qc) ((hasI S).length) (((hasI S) : List Int).map intV)) :: (sl 3 1 (Value.slice (some ⟨pb, 0, none⟩) ((hasN S).length) pc) ((hasI S).length) (((hasI S) : List Int).map intV)) :: (pt b 81 (bkC ((0 + 1) + 1) bv2)) :: (sl 126 2 bv2 ((0 + 1) + 1) (([] ++ [Value.slice (some ⟨pb, 0, none⟩) ((hasN S).length) pc, .int .i64 ((0 : Nat) : Int)]) ++ [Value.slice (some ⟨qb, 0, none⟩) ((hasN S).length) qc, .int .i64 (((0 + 1) : Nat) : Int)])) :: (pt m 108 [mv]) :: (sl 3 1 mv (S.ts.length + 1) ((List.range (S.ts.length + 1)).map natV)) :: (sl 3 1 hw1 ((hasN S).length) ((hasN S).map natV)) :: (pt wc 96 [Value.pointer (some ⟨r, 0, none⟩), Value.int .i64 ((S.z : Nat) : Int), Value.int .i64 ((S.nx : Nat) : Int), rv]) :: (sl 105 2 rv S.left.length (leftC S.left)) :: (refW r S.ts) :: (sl 3 1 va l1.length (l1.map natV)) :: (sl 3 1 vb l1.length (l1.map natV)) :: (storeW s S.ts) :: (pt c 39 [Value.pointer (some ⟨s, 0, none⟩), Value.int .i64 ((S.z : Nat) : Int), Value.int .i64 ((S.nx : Nat) : Int), Value.map (some mb)]) :: (mp mb (leftV S.left)) :: F) (fun w hs => by rw [hasI_len, hasI_V]; exact st_sl_mk (e := 3) (by simp) hcq (st_swap (st_sl_mk (e := 3) (by simp) hcp (st_pull [4, 11, 0, 0, 0, 0, 0, 0, 0, 0, 0, 0, 0, 0, 0] (hs))))) ?_
      refine Wl.imp (L' := (pt b 81 (bkC ((0 + 1) + 1) bv2)) :: (sl 126 2 bv2 ((0 + 1) + 1) (([] ++ [Value.slice (some ⟨pb, 0, none⟩) ((hasN S).length) pc, .int .i64 ((0 : Nat) : Int)]) ++ [Value.slice (some ⟨qb, 0, none⟩) ((hasN S).length) qc, .int .i64 (((0 + 1) : Nat) : Int)])) :: (sl 3 1 (Value.slice (some ⟨pb, 0, none⟩) ((hasN S).length) pc) ((hasI S).length) (((hasI S) : List Int).map intV)) :: (sl 3 1 (Value.slice (some ⟨qb, 0, none⟩) ((hasN S).length) qc) ((hasI S).length) (((hasI S) : List Int).map intV)) :: (pt m 108 [mv]) :: (sl 3 1 mv (S.ts.length + 1) ((List.range (S.ts.length + 1)).map natV)) :: (sl 3 1 hw1 ((hasN S).length) ((hasN S).map natV)) :: (pt wc 96 [Value.pointer (some ⟨r, 0, none⟩), Value.int .i64 ((S.z : Nat) : Int), Value.int .i64 ((S.nx : Nat) : Int), rv]) :: (sl 105 2 rv S.left.length (leftC S.left)) :: (refW r S.ts) :: (sl 3 1 va l1.length (l1.map natV)) :: (sl 3 1 vb l1.length (l1.map natV)) :: (storeW s S.ts) :: (pt c 39 [Value.pointer (some ⟨s, 0, none⟩), Value.int .i64 ((S.z : Nat) : Int), Value.int .i64 ((S.nx : Nat) : Int), Value.map (some mb)]) :: (mp mb (leftV S.left)) :: F) (fun _ h => st_pull [2, 2, 1, 0] h) ?_
      refine Wl.e (e_call (F := (pt m 108 [mv]) :: (sl 3 1 mv (S.ts.length + 1) ((List.range (S.ts.length + 1)).map natV)) :: (sl 3 1 hw1 ((hasN S).length) ((hasN S).map natV)) :: (pt wc 96 [Value.pointer (some ⟨r, 0, none⟩), Value.int .i64 ((S.z : Nat) : Int), Value.int .i64 ((S.nx : Nat) : Int), rv]) :: (sl 105 2 rv S.left.length (leftC S.left)) :: (refW r S.ts) :: (sl 3 1 va l1.length (l1.map natV)) :: (sl 3 1 vb l1.length (l1.map natV)) :: (storeW s S.ts) :: (pt c 39 [Value.pointer (some ⟨s, 0, none⟩), Value.int .i64 ((S.z : Nat) : Int), Value.int .i64 ((S.nx : Nat) : Int), Value.map (some mb)]) :: (mp mb (leftV S.left)) :: F) (args := [Value.pointer (some ⟨b, 0, none⟩)]) Tryz.call15 rfl (apart_w W0 b bv2 (Value.slice (some ⟨pb, 0, none⟩) ((hasN S).length) pc) (Value.slice (some ⟨qb, 0, none⟩) ((hasN S).length) qc) (hasI S) (hasI S) (by rw [hasI_len]; omega) (by rw [hasI_len]; omega))) (fun _ _ => ?_)
      refine Wl.imp (L' := (pt m 108 [mv]) :: (sl 3 1 mv (S.ts.length + 1) ((List.range (S.ts.length + 1)).map natV)) :: (sl 3 1 hw1 ((hasN S).length) ((hasN S).map natV)) :: (pt wc 96 [Value.pointer (some ⟨r, 0, none⟩), Value.int .i64 ((S.z : Nat) : Int), Value.int .i64 ((S.nx : Nat) : Int), rv]) :: (sl 105 2 rv S.left.length (leftC S.left)) :: (refW r S.ts) :: (sl 3 1 va l1.length (l1.map natV)) :: (sl 3 1 vb l1.length (l1.map natV)) :: (storeW s S.ts) :: (pt c 39 [Value.pointer (some ⟨s, 0, none⟩), Value.int .i64 ((S.z : Nat) : Int), Value.int .i64 ((S.nx : Nat) : Int), Value.map (some mb)]) :: (mp mb (leftV S.left)) :: F) (fun _ h => h) ?_
      refine Wl.q (v := Value.bool true) (q_move rfl) ?_
      refine Wl.q (v := Value.pointer (some ⟨m, 0, none⟩)) (q_move rfl) ?_
      refine Wl.q (v := Value.pointer (some ⟨c, 0, none⟩)) (q_move hE12_0) ?_
      refine Wl.imp (L' := (pt c 39 [Value.pointer (some ⟨s, 0, none⟩), Value.int .i64 ((S.z : Nat) : Int), Value.int .i64 ((S.nx : Nat) : Int), Value.map (some mb)]) :: (mp mb (leftV S.left)) :: (pt m 108 [mv]) :: (sl 3 1 mv (S.ts.length + 1) ((List.range (S.ts.length + 1)).map natV)) :: (sl 3 1 hw1 ((hasN S).length) ((hasN S).map natV)) :: (pt wc 96 [Value.pointer (some ⟨r, 0, none⟩), Value.int .i64 ((S.z : Nat) : Int), Value.int .i64 ((S.nx : Nat) : Int), rv]) :: (sl 105 2 rv S.left.length (leftC S.left)) :: (refW r S.ts) :: (sl 3 1 va l1.length (l1.map natV)) :: (sl 3 1 vb l1.length (l1.map natV)) :: (storeW s S.ts) :: F) (fun _ h => st_pull [9, 9] h) ?_
      refine Wl.e (e_call (F := (pt m 108 [mv]) :: (sl 3 1 mv (S.ts.length + 1) ((List.range (S.ts.length + 1)).map natV)) :: (sl 3 1 hw1 ((hasN S).length) ((hasN S).map natV)) :: (pt wc 96 [Value.pointer (some ⟨r, 0, none⟩), Value.int .i64 ((S.z : Nat) : Int), Value.int .i64 ((S.nx : Nat) : Int), rv]) :: (sl 105 2 rv S.left.length (leftC S.left)) :: (refW r S.ts) :: (sl 3 1 va l1.length (l1.map natV)) :: (sl 3 1 vb l1.length (l1.map natV)) :: (storeW s S.ts) :: F) (args := [Value.pointer (some ⟨c, 0, none⟩)]) Tryz.call8 rfl (has_w W0 c mb s S hI.ok (by omega) (by omega))) (fun hv3 _ => ?_)
      refine Wl.imp (L' := (sl 3 1 hv3 ((hasN S).length) ((hasN S).map natV)) :: (pt c 39 [Value.pointer (some ⟨s, 0, none⟩), Value.int .i64 ((S.z : Nat) : Int), Value.int .i64 ((S.nx : Nat) : Int), Value.map (some mb)]) :: (mp mb (leftV S.left)) :: (pt m 108 [mv]) :: (sl 3 1 mv (S.ts.length + 1) ((List.range (S.ts.length + 1)).map natV)) :: (sl 3 1 hw1 ((hasN S).length) ((hasN S).map natV)) :: (pt wc 96 [Value.pointer (some ⟨r, 0, none⟩), Value.int .i64 ((S.z : Nat) : Int), Value.int .i64 ((S.nx : Nat) : Int), rv]) :: (sl 105 2 rv S.left.length (leftC S.left)) :: (refW r S.ts) :: (sl 3 1 va l1.length (l1.map natV)) :: (sl 3 1 vb l1.length (l1.map natV)) :: (storeW s S.ts) :: F) (fun _ h => h) ?_
      refine Wl.q (v := Value.pointer (some ⟨wc, 0, none⟩)) (q_move hE14_0) ?_
      refine Wl.imp (L' := (pt wc 96 [Value.pointer (some ⟨r, 0, none⟩), Value.int .i64 ((S.z : Nat) : Int), Value.int .i64 ((S.nx : Nat) : Int), rv]) :: (sl 105 2 rv S.left.length (leftC S.left)) :: (refW r S.ts) :: (sl 3 1 hv3 ((hasN S).length) ((hasN S).map natV)) :: (pt c 39 [Value.pointer (some ⟨s, 0, none⟩), Value.int .i64 ((S.z : Nat) : Int), Value.int .i64 ((S.nx : Nat) : Int), Value.map (some mb)]) :: (mp mb (leftV S.left)) :: (pt m 108 [mv]) :: (sl 3 1 mv (S.ts.length + 1) ((List.range (S.ts.length + 1)).map natV)) :: (sl 3 1 hw1 ((hasN S).length) ((hasN S).map natV)) :: (sl 3 1 va l1.length (l1.map natV)) :: (sl 3 1 vb l1.length (l1.map natV)) :: (storeW s S.ts) :: F) (fun _ h => st_pull [6, 6, 6] h) ?_
      refine Wl.e (e_call (F := (sl 3 1 hv3 ((hasN S).length) ((hasN S).map natV)) :: (pt c 39 [Value.pointer (some ⟨s, 0, none⟩), Value.int .i64 ((S.z : Nat) : Int), Value.int .i64 ((S.nx : Nat) : Int), Value.map (some mb)]) :: (mp mb (leftV S.left)) :: (pt m 108 [mv]) :: (sl 3 1 mv (S.ts.length + 1) ((List.range (S.ts.length + 1)).map natV)) :: (sl 3 1 hw1 ((hasN S).length) ((hasN S).map natV)) :: (sl 3 1 va l1.length (l1.map natV)) :: (sl 3 1 vb l1.length (l1.map natV)) :: (storeW s S.ts) :: F) (args := [Value.pointer (some ⟨wc, 0, none⟩)]) Tryz.call13 rfl (rhas_w W0 wc r rv S hI.ok (by omega) (by omega))) (fun hw2 _ => ?_)
      refine Wl.imp (L' := (sl 3 1 hw2 ((hasN S).length) ((hasN S).map natV)) :: (pt wc 96 [Value.pointer (some ⟨r, 0, none⟩), Value.int .i64 ((S.z : Nat) : Int), Value.int .i64 ((S.nx : Nat) : Int), rv]) :: (sl 105 2 rv S.left.length (leftC S.left)) :: (refW r S.ts) :: (sl 3 1 hv3 ((hasN S).length) ((hasN S).map natV)) :: (pt c 39 [Value.pointer (some ⟨s, 0, none⟩), Value.int .i64 ((S.z : Nat) : Int), Value.int .i64 ((S.nx : Nat) : Int), Value.map (some mb)]) :: (mp mb (leftV S.left)) :: (pt m 108 [mv]) :: (sl 3 1 mv (S.ts.length + 1) ((List.range (S.ts.length + 1)).map natV)) :: (sl 3 1 hw1 ((hasN S).length) ((hasN S).map natV)) :: (sl 3 1 va l1.length (l1.map natV)) :: (sl 3 1 vb l1.length (l1.map natV)) :: (storeW s S.ts) :: F) (fun _ h => h) ?_
      refine Wl.imp (L' := (pt m 108 [mv]) :: (sl 3 1 mv (S.ts.length + 1) ((List.range (S.ts.length + 1)).map natV)) :: (sl 3 1 hv3 ((hasN S).length) ((hasN S).map natV)) :: (sl 3 1 hw2 ((hasN S).length) ((hasN S).map natV)) :: (pt wc 96 [Value.pointer (some ⟨r, 0, none⟩), Value.int .i64 ((S.z : Nat) : Int), Value.int .i64 ((S.nx : Nat) : Int), rv]) :: (sl 105 2 rv S.left.length (leftC S.left)) :: (refW r S.ts) :: (pt c 39 [Value.pointer (some ⟨s, 0, none⟩), Value.int .i64 ((S.z : Nat) : Int), Value.int .i64 ((S.nx : Nat) : Int), Value.map (some mb)]) :: (mp mb (leftV S.left)) :: (sl 3 1 hw1 ((hasN S).length) ((hasN S).map natV)) :: (sl 3 1 va l1.length (l1.map natV)) :: (sl 3 1 vb l1.length (l1.map natV)) :: (storeW s S.ts) :: F) (fun _ h => st_pull [7, 7, 4, 0] h) ?_
      refine Wl.e (e_call (F := (pt wc 96 [Value.pointer (some ⟨r, 0, none⟩), Value.int .i64 ((S.z : Nat) : Int), Value.int .i64 ((S.nx : Nat) : Int), rv]) :: (sl 105 2 rv S.left.length (leftC S.left)) :: (refW r S.ts) :: (pt c 39 [Value.pointer (some ⟨s, 0, none⟩), Value.int .i64 ((S.z : Nat) : Int), Value.int .i64 ((S.nx : Nat) : Int), Value.map (some mb)]) :: (mp mb (leftV S.left)) :: (sl 3 1 hw1 ((hasN S).length) ((hasN S).map natV)) :: (sl 3 1 va l1.length (l1.map natV)) :: (sl 3 1 vb l1.length (l1.map natV)) :: (storeW s S.ts) :: F) (args := [Value.pointer (some ⟨m, 0, none⟩), hv3, hw2]) Tryz.call12 rfl (numbers_w W0 m mv hv3 hw2 (S.ts.length + 1) (hasN S) (fun x hx => Nat.lt_succ_of_le (has_rng hI x hx).2) (by omega))) (fun _ _ => ?_)
      refine Wl.imp (L' := (pt m 108 [mv]) :: (sl 3 1 mv (S.ts.length + 1) ((List.range (S.ts.length + 1)).map natV)) :: (sl 3 1 hv3 ((hasN S).length) ((hasN S).map natV)) :: (sl 3 1 hw2 ((hasN S).length) ((hasN S).map natV)) :: (pt wc 96 [Value.pointer (some ⟨r, 0, none⟩), Value.int .i64 ((S.z : Nat) : Int), Value.int .i64 ((S.nx : Nat) : Int), rv]) :: (sl 105 2 rv S.left.length (leftC S.left)) :: (refW r S.ts) :: (pt c 39 [Value.pointer (some ⟨s, 0, none⟩), Value.int .i64 ((S.z : Nat) : Int), Value.int .i64 ((S.nx : Nat) : Int), Value.map (some mb)]) :: (mp mb (leftV S.left)) :: (sl 3 1 hw1 ((hasN S).length) ((hasN S).map natV)) :: (sl 3 1 va l1.length (l1.map natV)) :: (sl 3 1 vb l1.length (l1.map natV)) :: (storeW s S.ts) :: F) (fun _ h => h) ?_
      refine Wl.q (v := Value.bool true) (q_pick (t := true) rfl rfl) ?_
      refine Wl.q (v := Value.bool true) (q_move rfl) ?_
      refine Wl.e (e_call (F := (pt m 108 [mv]) :: (sl 3 1 mv (S.ts.length + 1) ((List.range (S.ts.length + 1)).map natV)) :: (sl 3 1 hv3 ((hasN S).length) ((hasN S).map natV)) :: (sl 3 1 hw2 ((hasN S).length) ((hasN S).map natV)) :: (pt wc 96 [Value.pointer (some ⟨r, 0, none⟩), Value.int .i64 ((S.z : Nat) : Int), Value.int .i64 ((S.nx : Nat) : Int), rv]) :: (sl 105 2 rv S.left.length (leftC S.left)) :: (refW r S.ts) :: (pt c 39 [Value.pointer (some ⟨s, 0, none⟩), Value.int .i64 ((S.z : Nat) : Int), Value.int .i64 ((S.nx : Nat) : Int), Value.map (some mb)]) :: (mp mb (leftV S.left)) :: (sl 3 1 hw1 ((hasN S).length) ((hasN S).map natV)) :: (sl 3 1 va l1.length (l1.map natV)) :: (sl 3 1 vb l1.length (l1.map natV)) :: (storeW s S.ts) :: F) (args := []) Tryz.call9 rfl (lives_c W0)) (fun _ _ => ?_)
      refine Wl.imp (L' := (pt m 108 [mv]) :: (sl 3 1 mv (S.ts.length + 1) ((List.range (S.ts.length + 1)).map natV)) :: (sl 3 1 hv3 ((hasN S).length) ((hasN S).map natV)) :: (sl 3 1 hw2 ((hasN S).length) ((hasN S).map natV)) :: (pt wc 96 [Value.pointer (some ⟨r, 0, none⟩), Value.int .i64 ((S.z : Nat) : Int), Value.int .i64 ((S.nx : Nat) : Int), rv]) :: (sl 105 2 rv S.left.length (leftC S.left)) :: (refW r S.ts) :: (pt c 39 [Value.pointer (some ⟨s, 0, none⟩), Value.int .i64 ((S.z : Nat) : Int), Value.int .i64 ((S.nx : Nat) : Int), Value.map (some mb)]) :: (mp mb (leftV S.left)) :: (sl 3 1 hw1 ((hasN S).length) ((hasN S).map natV)) :: (sl 3 1 va l1.length (l1.map natV)) :: (sl 3 1 vb l1.length (l1.map natV)) :: (storeW s S.ts) :: F) (fun _ h => h) ?_
      refine Wl.q (v := Value.bool true) (q_pick (t := true) rfl rfl) ?_
      refine Wl.q (v := Value.bool true) (q_assign rfl) ?_
      refine Wl.done ?_
      refine Wx.go ?_
      refine Wc.ret ?_
      refine Wx.fin1 rfl (.inl rfl) (fun w hs => ?_)
      exact ⟨(), trivial, rfl, (st_drop (st_drop (st_drop (st_drop (st_drop (st_drop (st_drop (st_drop (st_drop (st_drop (st_drop (st_drop (st_drop (st_pull [0, 0, 0, 0, 0, 0, 0, 0, 0, 0, 0, 0, 0] hs))))))))))))))⟩

theorem plays_law (W0 : World) (vl : Value) (l : List TermR) (hl : Rd W0 vl l.length (l.flatMap termCells)) (hlo : ∀ x ∈ l, okT x) (app sd : Int) (vt : Value) (tk : List Int) (ht : Rd W0 vt tk.length (tk.flatMap int1)) (hto : ∀ x ∈ tk, i64R x) (hs0 : i64R sd) : Con Tryz.prog W0 3 #[vl, .int .i64 app, .int .i64 sd, vt] [] (X := Unit) (fun _ => True) (fun _ => .bool true) (fun _ => []) := by
 by_cases h : 2000 < l.length ∨ 300 < tk.length
 · exact plays_out W0 vl l hl hlo app sd vt tk ht hto h
 by_cases ha : 1 ≤ app ∧ app ≤ ((build [] l).length : Int)
 · exact plays_ok W0 vl l hl hlo app sd vt tk ht hto (by omega) (by omega) hs0 ha
 · exact plays_no W0 vl l hl hlo app sd vt tk ht hto (by omega) (by omega) hs0 ha

end Go.Proofs.YtjjghmkjdgogiaaGreatDoor
