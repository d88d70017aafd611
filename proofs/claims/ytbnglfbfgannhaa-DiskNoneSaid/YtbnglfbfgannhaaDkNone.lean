/- The disk in memory, and contracts of its calls. -/
import Derived.Test.YtbnglfbfgannhaaDkG
import Derived.Test.YtbnglfbfgannhaaDkL
namespace Go.Proofs.Ytbnglfbfgannhaa
open Go Go.SL Go.Dk Go.RowKit
set_option linter.unusedVariables false
theorem fo_45_1 : fieldOff Try.prog 45 1 = some 1 := by kernel_rfl
theorem fo_45_2 : fieldOff Try.prog 45 2 = some 2 := by kernel_rfl
theorem sc_5 : scalar Try.prog 5 = true := by kernel_rfl
theorem fo_45_3 : fieldOff Try.prog 45 3 = some 3 := by kernel_rfl
theorem fo_45_4 : fieldOff Try.prog 45 4 = some 4 := by kernel_rfl
theorem read_on_nil (W0 : World) (at_ : Int) :
    Con Try.prog W0 16 #[Value.pointer none, Value.int .i64 at_] [] (X := Unit) (fun _ => True) (fun _ => .tuple #[.string ⟨#[]⟩, .int .i64 2]) (fun _ => []) := by
  refine Con.of (args := [Value.pointer none, Value.int .i64 at_]) Try.func16 rfl Try.ntmps16 rfl (fun F => ?_)
  show Wc _ W0 _ _ _ _ _ (F)
  refine Wc.seq ?_
  refine Wc.region ?_
  refine Wl.q (v := Value.string (⟨#[]⟩)) (q_assign rfl) ?_
  refine Wl.q (v := Value.int .i64 0) (q_assign rfl) ?_
  refine Wl.done ?_
  refine Wx.go ?_
  refine Wc.seq ?_
  refine Wc.seq ?_
  refine Wc.region ?_
  refine Wl.q (v := Value.pointer none) (q_move rfl) ?_
  refine Wl.e (e_call (F := F) (args := [Value.pointer none]) Try.call28 rfl (state_nil W0)) (fun _ _ => ?_)
  refine Wl.imp (L' := F) (fun _ h => h) ?_
  refine Wl.q (v := Value.int .i64 2) (q_assign rfl) ?_
  refine Wl.done ?_
  refine Wx.go ?_
  refine Wc.seq ?_
  refine Wc.region ?_
  refine Wl.q (v := Value.int .i64 2) (q_move rfl) ?_
  refine Wl.q (v := Value.bool true) (q_neq (r := false) rfl rfl (decide_eq_false (by decide))) ?_
  refine Wl.done ?_
  refine Wx.go ?_
  refine Wc.yes rfl ?_
  refine Wc.seq ?_
  refine Wc.region ?_
  refine Wl.q (v := Value.int .i64 2) (q_move rfl) ?_
  refine Wl.q (v := Value.string (⟨#[]⟩)) (q_assign rfl) ?_
  refine Wl.q (v := Value.int .i64 2) (q_assign rfl) ?_
  refine Wl.done ?_
  refine Wx.go ?_
  refine Wc.ret ?_
  refine Wx.thenRet ?_
  refine Wx.fin2 rfl (.inl rfl) (fun w hs => ?_)
  exact ⟨(), trivial, rfl, hs⟩

theorem read_on_zero (W0 : World) (q : Nat) (at_ : Int) :
    Con Try.prog W0 16 #[Value.pointer (some ⟨q, 0, none⟩), Value.int .i64 at_] [pt q 55 [Value.slice none 0 0, Value.slice none 0 0, Value.bool false, Value.int .i64 0, Value.nilFunc]] (X := Unit) (fun _ => True) (fun _ => .tuple #[.string ⟨#[]⟩, .int .i64 2]) (fun _ => [pt q 55 [Value.slice none 0 0, Value.slice none 0 0, Value.bool false, Value.int .i64 0, Value.nilFunc]]) := by
  refine Con.of (args := [Value.pointer (some ⟨q, 0, none⟩), Value.int .i64 at_]) Try.func16 rfl Try.ntmps16 rfl (fun F => ?_)
  show Wc _ W0 _ _ _ _ _ ((pt q 55 [Value.slice none 0 0, Value.slice none 0 0, Value.bool false, Value.int .i64 0, Value.nilFunc]) :: F)
  refine Wc.seq ?_
  refine Wc.region ?_
  refine Wl.q (v := Value.string (⟨#[]⟩)) (q_assign rfl) ?_
  refine Wl.q (v := Value.int .i64 0) (q_assign rfl) ?_
  refine Wl.done ?_
  refine Wx.go ?_
  refine Wc.seq ?_
  refine Wc.seq ?_
  refine Wc.region ?_
  refine Wl.q (v := Value.pointer (some ⟨q, 0, none⟩)) (q_move rfl) ?_
  refine Wl.e (e_call (F := F) (args := [Value.pointer (some ⟨q, 0, none⟩)]) Try.call28 rfl (state_zero W0 q (Value.slice none 0 0) (Value.slice none 0 0) (Value.bool false) (Value.int .i64 0))) (fun _ _ => ?_)
  refine Wl.imp (L' := (pt q 55 [Value.slice none 0 0, Value.slice none 0 0, Value.bool false, Value.int .i64 0, Value.nilFunc]) :: F) (fun _ h => h) ?_
  refine Wl.q (v := Value.int .i64 2) (q_assign rfl) ?_
  refine Wl.done ?_
  refine Wx.go ?_
  refine Wc.seq ?_
  refine Wc.region ?_
  refine Wl.q (v := Value.int .i64 2) (q_move rfl) ?_
  refine Wl.q (v := Value.bool true) (q_neq (r := false) rfl rfl (decide_eq_false (by decide))) ?_
  refine Wl.done ?_
  refine Wx.go ?_
  refine Wc.yes rfl ?_
  refine Wc.seq ?_
  refine Wc.region ?_
  refine Wl.q (v := Value.int .i64 2) (q_move rfl) ?_
  refine Wl.q (v := Value.string (⟨#[]⟩)) (q_assign rfl) ?_
  refine Wl.q (v := Value.int .i64 2) (q_assign rfl) ?_
  refine Wl.done ?_
  refine Wx.go ?_
  refine Wc.ret ?_
  refine Wx.thenRet ?_
  refine Wx.fin2 rfl (.inl rfl) (fun w hs => ?_)
  exact ⟨(), trivial, rfl, hs⟩

theorem write_on_nil (W0 : World) (at_ : Int) (s : ByteArray) :
    Con Try.prog W0 13 #[Value.pointer none, Value.int .i64 at_, Value.string s] [] (X := Unit) (fun _ => True) (fun _ => .int .i64 2) (fun _ => []) := by
  refine Con.of (args := [Value.pointer none, Value.int .i64 at_, Value.string s]) Try.func13 rfl Try.ntmps13 rfl (fun F => ?_)
  show Wc _ W0 _ _ _ _ _ (F)
  refine Wc.seq ?_
  refine Wc.region ?_
  refine Wl.e (e_box (x := .tmp 0) (vs := [Value.pointer none]) rfl) (fun b1 _ => ?_)
  refine Wl.imp (L' := (pt b1 23 [Value.pointer none]) :: F) (fun _ h => h) ?_
  refine Wl.e (e_box (x := .tmp 1) (vs := [Value.int .i64 at_]) rfl) (fun b2 _ => ?_)
  refine Wl.imp (L' := (pt b2 3 [Value.int .i64 at_]) :: (pt b1 23 [Value.pointer none]) :: F) (fun _ h => h) ?_
  refine Wl.e (e_box (x := .tmp 2) (vs := [Value.string s]) rfl) (fun b3 _ => ?_)
  refine Wl.imp (L' := (pt b3 9 [Value.string s]) :: (pt b2 3 [Value.int .i64 at_]) :: (pt b1 23 [Value.pointer none]) :: F) (fun _ h => h) ?_
  refine Wl.q (v := Value.int .i64 0) (q_assign rfl) ?_
  refine Wl.done ?_
  refine Wx.go ?_
  refine Wc.seq ?_
  refine Wc.seq ?_
  refine Wc.region ?_
  refine Wl.q (v := Value.pointer none) (q_load sc_23 rfl (.cel (i := 2) rfl rfl)) ?_
  refine Wl.e (e_call (F := (pt b3 9 [Value.string s]) :: (pt b2 3 [Value.int .i64 at_]) :: (pt b1 23 [Value.pointer none]) :: F) (args := [Value.pointer none]) Try.call28 rfl (state_nil W0)) (fun _ _ => ?_)
  refine Wl.imp (L' := (pt b3 9 [Value.string s]) :: (pt b2 3 [Value.int .i64 at_]) :: (pt b1 23 [Value.pointer none]) :: F) (fun _ h => h) ?_
  refine Wl.q (v := Value.int .i64 2) (q_assign rfl) ?_
  refine Wl.done ?_
  refine Wx.go ?_
  refine Wc.seq ?_
  refine Wc.region ?_
  refine Wl.q (v := Value.int .i64 2) (q_move rfl) ?_
  refine Wl.q (v := Value.bool true) (q_neq (r := false) rfl rfl (decide_eq_false (by decide))) ?_
  refine Wl.done ?_
  refine Wx.go ?_
  refine Wc.yes rfl ?_
  refine Wc.seq ?_
  refine Wc.region ?_
  refine Wl.q (v := Value.int .i64 2) (q_move rfl) ?_
  refine Wl.q (v := Value.int .i64 2) (q_assign rfl) ?_
  refine Wl.done ?_
  refine Wx.go ?_
  refine Wc.ret ?_
  refine Wx.thenRet ?_
  refine Wx.fin1 rfl (.inl rfl) (fun w hs => ?_)
  exact ⟨(), trivial, rfl, (st_drop (st_drop (st_drop (st_pull [0, 0, 0] hs))))⟩

theorem write_on_zero (W0 : World) (q : Nat) (at_ : Int) (s : ByteArray) :
    Con Try.prog W0 13 #[Value.pointer (some ⟨q, 0, none⟩), Value.int .i64 at_, Value.string s] [pt q 55 [Value.slice none 0 0, Value.slice none 0 0, Value.bool false, Value.int .i64 0, Value.nilFunc]] (X := Unit) (fun _ => True) (fun _ => .int .i64 2) (fun _ => [pt q 55 [Value.slice none 0 0, Value.slice none 0 0, Value.bool false, Value.int .i64 0, Value.nilFunc]]) := by
  refine Con.of (args := [Value.pointer (some ⟨q, 0, none⟩), Value.int .i64 at_, Value.string s]) Try.func13 rfl Try.ntmps13 rfl (fun F => ?_)
  show Wc _ W0 _ _ _ _ _ ((pt q 55 [Value.slice none 0 0, Value.slice none 0 0, Value.bool false, Value.int .i64 0, Value.nilFunc]) :: F)
  refine Wc.seq ?_
  refine Wc.region ?_
  refine Wl.e (e_box (x := .tmp 0) (vs := [Value.pointer (some ⟨q, 0, none⟩)]) rfl) (fun b1 _ => ?_)
  refine Wl.imp (L' := (pt b1 23 [Value.pointer (some ⟨q, 0, none⟩)]) :: (pt q 55 [Value.slice none 0 0, Value.slice none 0 0, Value.bool false, Value.int .i64 0, Value.nilFunc]) :: F) (fun _ h => h) ?_
  refine Wl.e (e_box (x := .tmp 1) (vs := [Value.int .i64 at_]) rfl) (fun b2 _ => ?_)
  refine Wl.imp (L' := (pt b2 3 [Value.int .i64 at_]) :: (pt b1 23 [Value.pointer (some ⟨q, 0, none⟩)]) :: (pt q 55 [Value.slice none 0 0, Value.slice none 0 0, Value.bool false, Value.int .i64 0, Value.nilFunc]) :: F) (fun _ h => h) ?_
  refine Wl.e (e_box (x := .tmp 2) (vs := [Value.string s]) rfl) (fun b3 _ => ?_)
  refine Wl.imp (L' := (pt b3 9 [Value.string s]) :: (pt b2 3 [Value.int .i64 at_]) :: (pt b1 23 [Value.pointer (some ⟨q, 0, none⟩)]) :: (pt q 55 [Value.slice none 0 0, Value.slice none 0 0, Value.bool false, Value.int .i64 0, Value.nilFunc]) :: F) (fun _ h => h) ?_
  refine Wl.q (v := Value.int .i64 0) (q_assign rfl) ?_
  refine Wl.done ?_
  refine Wx.go ?_
  refine Wc.seq ?_
  refine Wc.seq ?_
  refine Wc.region ?_
  refine Wl.q (v := Value.pointer (some ⟨q, 0, none⟩)) (q_load sc_23 rfl (.cel (i := 2) rfl rfl)) ?_
  refine Wl.imp (L' := (pt q 55 [Value.slice none 0 0, Value.slice none 0 0, Value.bool false, Value.int .i64 0, Value.nilFunc]) :: (pt b3 9 [Value.string s]) :: (pt b2 3 [Value.int .i64 at_]) :: (pt b1 23 [Value.pointer (some ⟨q, 0, none⟩)]) :: F) (fun _ h => st_pull [3] h) ?_
  refine Wl.e (e_call (F := (pt b3 9 [Value.string s]) :: (pt b2 3 [Value.int .i64 at_]) :: (pt b1 23 [Value.pointer (some ⟨q, 0, none⟩)]) :: F) (args := [Value.pointer (some ⟨q, 0, none⟩)]) Try.call28 rfl (state_zero W0 q (Value.slice none 0 0) (Value.slice none 0 0) (Value.bool false) (Value.int .i64 0))) (fun _ _ => ?_)
  refine Wl.imp (L' := (pt q 55 [Value.slice none 0 0, Value.slice none 0 0, Value.bool false, Value.int .i64 0, Value.nilFunc]) :: (pt b3 9 [Value.string s]) :: (pt b2 3 [Value.int .i64 at_]) :: (pt b1 23 [Value.pointer (some ⟨q, 0, none⟩)]) :: F) (fun _ h => h) ?_
  refine Wl.q (v := Value.int .i64 2) (q_assign rfl) ?_
  refine Wl.done ?_
  refine Wx.go ?_
  refine Wc.seq ?_
  refine Wc.region ?_
  refine Wl.q (v := Value.int .i64 2) (q_move rfl) ?_
  refine Wl.q (v := Value.bool true) (q_neq (r := false) rfl rfl (decide_eq_false (by decide))) ?_
  refine Wl.done ?_
  refine Wx.go ?_
  refine Wc.yes rfl ?_
  refine Wc.seq ?_
  refine Wc.region ?_
  refine Wl.q (v := Value.int .i64 2) (q_move rfl) ?_
  refine Wl.q (v := Value.int .i64 2) (q_assign rfl) ?_
  refine Wl.done ?_
  refine Wx.go ?_
  refine Wc.ret ?_
  refine Wx.thenRet ?_
  refine Wx.fin1 rfl (.inl rfl) (fun w hs => ?_)
  exact ⟨(), trivial, rfl, (st_drop (st_drop (st_drop (st_pull [1, 1, 1] hs))))⟩

theorem sync_on_nil (W0 : World)  :
    Con Try.prog W0 18 #[Value.pointer none] [] (X := Unit) (fun _ => True) (fun _ => .int .i64 2) (fun _ => []) := by
  refine Con.of (args := [Value.pointer none]) Try.func18 rfl Try.ntmps18 rfl (fun F => ?_)
  show Wc _ W0 _ _ _ _ _ (F)
  refine Wc.seq ?_
  refine Wc.region ?_
  refine Wl.e (e_box (x := .tmp 0) (vs := [Value.pointer none]) rfl) (fun b1 _ => ?_)
  refine Wl.imp (L' := (pt b1 23 [Value.pointer none]) :: F) (fun _ h => h) ?_
  refine Wl.q (v := Value.int .i64 0) (q_assign rfl) ?_
  refine Wl.done ?_
  refine Wx.go ?_
  refine Wc.seq ?_
  refine Wc.seq ?_
  refine Wc.region ?_
  refine Wl.q (v := Value.pointer none) (q_load sc_23 rfl (.cel (i := 0) rfl rfl)) ?_
  refine Wl.e (e_call (F := (pt b1 23 [Value.pointer none]) :: F) (args := [Value.pointer none]) Try.call28 rfl (state_nil W0)) (fun _ _ => ?_)
  refine Wl.imp (L' := (pt b1 23 [Value.pointer none]) :: F) (fun _ h => h) ?_
  refine Wl.q (v := Value.int .i64 2) (q_assign rfl) ?_
  refine Wl.done ?_
  refine Wx.go ?_
  refine Wc.seq ?_
  refine Wc.region ?_
  refine Wl.q (v := Value.int .i64 2) (q_move rfl) ?_
  refine Wl.q (v := Value.bool true) (q_neq (r := false) rfl rfl (decide_eq_false (by decide))) ?_
  refine Wl.done ?_
  refine Wx.go ?_
  refine Wc.yes rfl ?_
  refine Wc.seq ?_
  refine Wc.region ?_
  refine Wl.q (v := Value.int .i64 2) (q_move rfl) ?_
  refine Wl.q (v := Value.int .i64 2) (q_assign rfl) ?_
  refine Wl.done ?_
  refine Wx.go ?_
  refine Wc.ret ?_
  refine Wx.thenRet ?_
  refine Wx.fin1 rfl (.inl rfl) (fun w hs => ?_)
  exact ⟨(), trivial, rfl, (st_drop (st_pull [0] hs))⟩

theorem sync_on_zero (W0 : World) (q : Nat)  :
    Con Try.prog W0 18 #[Value.pointer (some ⟨q, 0, none⟩)] [pt q 55 [Value.slice none 0 0, Value.slice none 0 0, Value.bool false, Value.int .i64 0, Value.nilFunc]] (X := Unit) (fun _ => True) (fun _ => .int .i64 2) (fun _ => [pt q 55 [Value.slice none 0 0, Value.slice none 0 0, Value.bool false, Value.int .i64 0, Value.nilFunc]]) := by
  refine Con.of (args := [Value.pointer (some ⟨q, 0, none⟩)]) Try.func18 rfl Try.ntmps18 rfl (fun F => ?_)
  show Wc _ W0 _ _ _ _ _ ((pt q 55 [Value.slice none 0 0, Value.slice none 0 0, Value.bool false, Value.int .i64 0, Value.nilFunc]) :: F)
  refine Wc.seq ?_
  refine Wc.region ?_
  refine Wl.e (e_box (x := .tmp 0) (vs := [Value.pointer (some ⟨q, 0, none⟩)]) rfl) (fun b1 _ => ?_)
  refine Wl.imp (L' := (pt b1 23 [Value.pointer (some ⟨q, 0, none⟩)]) :: (pt q 55 [Value.slice none 0 0, Value.slice none 0 0, Value.bool false, Value.int .i64 0, Value.nilFunc]) :: F) (fun _ h => h) ?_
  refine Wl.q (v := Value.int .i64 0) (q_assign rfl) ?_
  refine Wl.done ?_
  refine Wx.go ?_
  refine Wc.seq ?_
  refine Wc.seq ?_
  refine Wc.region ?_
  refine Wl.q (v := Value.pointer (some ⟨q, 0, none⟩)) (q_load sc_23 rfl (.cel (i := 0) rfl rfl)) ?_
  refine Wl.imp (L' := (pt q 55 [Value.slice none 0 0, Value.slice none 0 0, Value.bool false, Value.int .i64 0, Value.nilFunc]) :: (pt b1 23 [Value.pointer (some ⟨q, 0, none⟩)]) :: F) (fun _ h => st_pull [1] h) ?_
  refine Wl.e (e_call (F := (pt b1 23 [Value.pointer (some ⟨q, 0, none⟩)]) :: F) (args := [Value.pointer (some ⟨q, 0, none⟩)]) Try.call28 rfl (state_zero W0 q (Value.slice none 0 0) (Value.slice none 0 0) (Value.bool false) (Value.int .i64 0))) (fun _ _ => ?_)
  refine Wl.imp (L' := (pt q 55 [Value.slice none 0 0, Value.slice none 0 0, Value.bool false, Value.int .i64 0, Value.nilFunc]) :: (pt b1 23 [Value.pointer (some ⟨q, 0, none⟩)]) :: F) (fun _ h => h) ?_
  refine Wl.q (v := Value.int .i64 2) (q_assign rfl) ?_
  refine Wl.done ?_
  refine Wx.go ?_
  refine Wc.seq ?_
  refine Wc.region ?_
  refine Wl.q (v := Value.int .i64 2) (q_move rfl) ?_
  refine Wl.q (v := Value.bool true) (q_neq (r := false) rfl rfl (decide_eq_false (by decide))) ?_
  refine Wl.done ?_
  refine Wx.go ?_
  refine Wc.yes rfl ?_
  refine Wc.seq ?_
  refine Wc.region ?_
  refine Wl.q (v := Value.int .i64 2) (q_move rfl) ?_
  refine Wl.q (v := Value.int .i64 2) (q_assign rfl) ?_
  refine Wl.done ?_
  refine Wx.go ?_
  refine Wc.ret ?_
  refine Wx.thenRet ?_
  refine Wx.fin1 rfl (.inl rfl) (fun w hs => ?_)
  exact ⟨(), trivial, rfl, (st_drop (st_pull [1] hs))⟩

theorem cut_on_nil (W0 : World) (n bits : Int) :
    Con Try.prog W0 20 #[Value.pointer none, Value.int .i64 n, Value.int .i64 bits] [] (X := Unit) (fun _ => True) (fun _ => .int .i64 2) (fun _ => []) := by
  refine Con.of (args := [Value.pointer none, Value.int .i64 n, Value.int .i64 bits]) Try.func20 rfl Try.ntmps20 rfl (fun F => ?_)
  show Wc _ W0 _ _ _ _ _ (F)
  refine Wc.seq ?_
  refine Wc.region ?_
  refine Wl.q (v := Value.int .i64 0) (q_assign rfl) ?_
  refine Wl.done ?_
  refine Wx.go ?_
  refine Wc.seq ?_
  refine Wc.seq ?_
  refine Wc.region ?_
  refine Wl.q (v := Value.pointer none) (q_move rfl) ?_
  refine Wl.e (e_call (F := F) (args := [Value.pointer none]) Try.call28 rfl (state_nil W0)) (fun _ _ => ?_)
  refine Wl.imp (L' := F) (fun _ h => h) ?_
  refine Wl.q (v := Value.int .i64 2) (q_assign rfl) ?_
  refine Wl.done ?_
  refine Wx.go ?_
  refine Wc.seq ?_
  refine Wc.region ?_
  refine Wl.q (v := Value.int .i64 2) (q_move rfl) ?_
  refine Wl.q (v := Value.bool true) (q_neq (r := false) rfl rfl (decide_eq_false (by decide))) ?_
  refine Wl.done ?_
  refine Wx.go ?_
  refine Wc.yes rfl ?_
  refine Wc.seq ?_
  refine Wc.region ?_
  refine Wl.q (v := Value.int .i64 2) (q_move rfl) ?_
  refine Wl.q (v := Value.int .i64 2) (q_assign rfl) ?_
  refine Wl.done ?_
  refine Wx.go ?_
  refine Wc.ret ?_
  refine Wx.thenRet ?_
  refine Wx.fin1 rfl (.inl rfl) (fun w hs => ?_)
  exact ⟨(), trivial, rfl, hs⟩

theorem cut_on_zero (W0 : World) (q : Nat) (n bits : Int) :
    Con Try.prog W0 20 #[Value.pointer (some ⟨q, 0, none⟩), Value.int .i64 n, Value.int .i64 bits] [pt q 55 [Value.slice none 0 0, Value.slice none 0 0, Value.bool false, Value.int .i64 0, Value.nilFunc]] (X := Unit) (fun _ => True) (fun _ => .int .i64 2) (fun _ => [pt q 55 [Value.slice none 0 0, Value.slice none 0 0, Value.bool false, Value.int .i64 0, Value.nilFunc]]) := by
  refine Con.of (args := [Value.pointer (some ⟨q, 0, none⟩), Value.int .i64 n, Value.int .i64 bits]) Try.func20 rfl Try.ntmps20 rfl (fun F => ?_)
  show Wc _ W0 _ _ _ _ _ ((pt q 55 [Value.slice none 0 0, Value.slice none 0 0, Value.bool false, Value.int .i64 0, Value.nilFunc]) :: F)
  refine Wc.seq ?_
  refine Wc.region ?_
  refine Wl.q (v := Value.int .i64 0) (q_assign rfl) ?_
  refine Wl.done ?_
  refine Wx.go ?_
  refine Wc.seq ?_
  refine Wc.seq ?_
  refine Wc.region ?_
  refine Wl.q (v := Value.pointer (some ⟨q, 0, none⟩)) (q_move rfl) ?_
  refine Wl.e (e_call (F := F) (args := [Value.pointer (some ⟨q, 0, none⟩)]) Try.call28 rfl (state_zero W0 q (Value.slice none 0 0) (Value.slice none 0 0) (Value.bool false) (Value.int .i64 0))) (fun _ _ => ?_)
  refine Wl.imp (L' := (pt q 55 [Value.slice none 0 0, Value.slice none 0 0, Value.bool false, Value.int .i64 0, Value.nilFunc]) :: F) (fun _ h => h) ?_
  refine Wl.q (v := Value.int .i64 2) (q_assign rfl) ?_
  refine Wl.done ?_
  refine Wx.go ?_
  refine Wc.seq ?_
  refine Wc.region ?_
  refine Wl.q (v := Value.int .i64 2) (q_move rfl) ?_
  refine Wl.q (v := Value.bool true) (q_neq (r := false) rfl rfl (decide_eq_false (by decide))) ?_
  refine Wl.done ?_
  refine Wx.go ?_
  refine Wc.yes rfl ?_
  refine Wc.seq ?_
  refine Wc.region ?_
  refine Wl.q (v := Value.int .i64 2) (q_move rfl) ?_
  refine Wl.q (v := Value.int .i64 2) (q_assign rfl) ?_
  refine Wl.done ?_
  refine Wx.go ?_
  refine Wc.ret ?_
  refine Wx.thenRet ?_
  refine Wx.fin1 rfl (.inl rfl) (fun w hs => ?_)
  exact ⟨(), trivial, rfl, hs⟩

theorem crash_on_nil (W0 : World) (bits : Int) :
    Con Try.prog W0 14 #[Value.pointer none, Value.int .i64 bits] [] (X := Unit) (fun _ => True) (fun _ => .int .i64 2) (fun _ => []) := by
  refine Con.of (args := [Value.pointer none, Value.int .i64 bits]) Try.func14 rfl Try.ntmps14 rfl (fun F => ?_)
  show Wc _ W0 _ _ _ _ _ (F)
  refine Wc.seq ?_
  refine Wc.region ?_
  refine Wl.q (v := Value.int .i64 0) (q_assign rfl) ?_
  refine Wl.done ?_
  refine Wx.go ?_
  refine Wc.seq ?_
  refine Wc.seq ?_
  refine Wc.region ?_
  refine Wl.q (v := Value.pointer none) (q_move rfl) ?_
  refine Wl.e (e_call (F := F) (args := [Value.pointer none]) Try.call28 rfl (state_nil W0)) (fun _ _ => ?_)
  refine Wl.imp (L' := F) (fun _ h => h) ?_
  refine Wl.q (v := Value.int .i64 2) (q_assign rfl) ?_
  refine Wl.done ?_
  refine Wx.go ?_
  refine Wc.seq ?_
  refine Wc.region ?_
  refine Wl.q (v := Value.int .i64 2) (q_move rfl) ?_
  refine Wl.q (v := Value.bool true) (q_neq (r := false) rfl rfl (decide_eq_false (by decide))) ?_
  refine Wl.done ?_
  refine Wx.go ?_
  refine Wc.yes rfl ?_
  refine Wc.seq ?_
  refine Wc.region ?_
  refine Wl.q (v := Value.int .i64 2) (q_move rfl) ?_
  refine Wl.q (v := Value.int .i64 2) (q_assign rfl) ?_
  refine Wl.done ?_
  refine Wx.go ?_
  refine Wc.ret ?_
  refine Wx.thenRet ?_
  refine Wx.fin1 rfl (.inl rfl) (fun w hs => ?_)
  exact ⟨(), trivial, rfl, hs⟩

theorem crash_on_zero (W0 : World) (q : Nat) (bits : Int) :
    Con Try.prog W0 14 #[Value.pointer (some ⟨q, 0, none⟩), Value.int .i64 bits] [pt q 55 [Value.slice none 0 0, Value.slice none 0 0, Value.bool false, Value.int .i64 0, Value.nilFunc]] (X := Unit) (fun _ => True) (fun _ => .int .i64 2) (fun _ => [pt q 55 [Value.slice none 0 0, Value.slice none 0 0, Value.bool false, Value.int .i64 0, Value.nilFunc]]) := by
  refine Con.of (args := [Value.pointer (some ⟨q, 0, none⟩), Value.int .i64 bits]) Try.func14 rfl Try.ntmps14 rfl (fun F => ?_)
  show Wc _ W0 _ _ _ _ _ ((pt q 55 [Value.slice none 0 0, Value.slice none 0 0, Value.bool false, Value.int .i64 0, Value.nilFunc]) :: F)
  refine Wc.seq ?_
  refine Wc.region ?_
  refine Wl.q (v := Value.int .i64 0) (q_assign rfl) ?_
  refine Wl.done ?_
  refine Wx.go ?_
  refine Wc.seq ?_
  refine Wc.seq ?_
  refine Wc.region ?_
  refine Wl.q (v := Value.pointer (some ⟨q, 0, none⟩)) (q_move rfl) ?_
  refine Wl.e (e_call (F := F) (args := [Value.pointer (some ⟨q, 0, none⟩)]) Try.call28 rfl (state_zero W0 q (Value.slice none 0 0) (Value.slice none 0 0) (Value.bool false) (Value.int .i64 0))) (fun _ _ => ?_)
  refine Wl.imp (L' := (pt q 55 [Value.slice none 0 0, Value.slice none 0 0, Value.bool false, Value.int .i64 0, Value.nilFunc]) :: F) (fun _ h => h) ?_
  refine Wl.q (v := Value.int .i64 2) (q_assign rfl) ?_
  refine Wl.done ?_
  refine Wx.go ?_
  refine Wc.seq ?_
  refine Wc.region ?_
  refine Wl.q (v := Value.int .i64 2) (q_move rfl) ?_
  refine Wl.q (v := Value.bool true) (q_neq (r := false) rfl rfl (decide_eq_false (by decide))) ?_
  refine Wl.done ?_
  refine Wx.go ?_
  refine Wc.yes rfl ?_
  refine Wc.seq ?_
  refine Wc.region ?_
  refine Wl.q (v := Value.int .i64 2) (q_move rfl) ?_
  refine Wl.q (v := Value.int .i64 2) (q_assign rfl) ?_
  refine Wl.done ?_
  refine Wx.go ?_
  refine Wc.ret ?_
  refine Wx.thenRet ?_
  refine Wx.fin1 rfl (.inl rfl) (fun w hs => ?_)
  exact ⟨(), trivial, rfl, hs⟩

theorem start_on_nil (W0 : World)  :
    Con Try.prog W0 15 #[Value.pointer none] [] (X := Unit) (fun _ => True) (fun _ => .int .i64 2) (fun _ => []) := by
  refine Con.of (args := [Value.pointer none]) Try.func15 rfl Try.ntmps15 rfl (fun F => ?_)
  show Wc _ W0 _ _ _ _ _ (F)
  refine Wc.seq ?_
  refine Wc.region ?_
  refine Wl.q (v := Value.int .i64 0) (q_assign rfl) ?_
  refine Wl.done ?_
  refine Wx.go ?_
  refine Wc.seq ?_
  refine Wc.block ?_
  refine Wc.seq ?_
  refine Wc.region ?_
  refine Wl.q (v := Value.pointer none) (q_move rfl) ?_
  refine Wl.e (e_call (F := F) (args := [Value.pointer none]) Try.call32 rfl (there_nil W0)) (fun _ _ => ?_)
  refine Wl.imp (L' := F) (fun _ h => h) ?_
  refine Wl.q (v := Value.bool true) (q_not rfl rfl) ?_
  refine Wl.q (v := Value.bool true) (q_assign rfl) ?_
  refine Wl.done ?_
  refine Wx.go ?_
  refine Wc.yes rfl ?_
  refine Wc.seq ?_
  refine Wc.region ?_
  refine Wl.q (v := Value.int .i64 2) (q_assign rfl) ?_
  refine Wl.done ?_
  refine Wx.go ?_
  refine Wc.ret ?_
  refine Wx.blockRet ?_
  refine Wx.thenRet ?_
  refine Wx.fin1 rfl (.inl rfl) (fun w hs => ?_)
  exact ⟨(), trivial, rfl, hs⟩

theorem start_on_zero (W0 : World) (q : Nat)  :
    Con Try.prog W0 15 #[Value.pointer (some ⟨q, 0, none⟩)] [pt q 55 [Value.slice none 0 0, Value.slice none 0 0, Value.bool false, Value.int .i64 0, Value.nilFunc]] (X := Unit) (fun _ => True) (fun _ => .int .i64 2) (fun _ => [pt q 55 [Value.slice none 0 0, Value.slice none 0 0, Value.bool false, Value.int .i64 0, Value.nilFunc]]) := by
  refine Con.of (args := [Value.pointer (some ⟨q, 0, none⟩)]) Try.func15 rfl Try.ntmps15 rfl (fun F => ?_)
  show Wc _ W0 _ _ _ _ _ ((pt q 55 [Value.slice none 0 0, Value.slice none 0 0, Value.bool false, Value.int .i64 0, Value.nilFunc]) :: F)
  refine Wc.seq ?_
  refine Wc.region ?_
  refine Wl.q (v := Value.int .i64 0) (q_assign rfl) ?_
  refine Wl.done ?_
  refine Wx.go ?_
  refine Wc.seq ?_
  refine Wc.block ?_
  refine Wc.seq ?_
  refine Wc.region ?_
  refine Wl.q (v := Value.pointer (some ⟨q, 0, none⟩)) (q_move rfl) ?_
  refine Wl.e (e_call (F := F) (args := [Value.pointer (some ⟨q, 0, none⟩)]) Try.call32 rfl (there_zero W0 q (Value.slice none 0 0) (Value.slice none 0 0) (Value.bool false) (Value.int .i64 0))) (fun _ _ => ?_)
  refine Wl.imp (L' := (pt q 55 [Value.slice none 0 0, Value.slice none 0 0, Value.bool false, Value.int .i64 0, Value.nilFunc]) :: F) (fun _ h => h) ?_
  refine Wl.q (v := Value.bool true) (q_not rfl rfl) ?_
  refine Wl.q (v := Value.bool true) (q_assign rfl) ?_
  refine Wl.done ?_
  refine Wx.go ?_
  refine Wc.yes rfl ?_
  refine Wc.seq ?_
  refine Wc.region ?_
  refine Wl.q (v := Value.int .i64 2) (q_assign rfl) ?_
  refine Wl.done ?_
  refine Wx.go ?_
  refine Wc.ret ?_
  refine Wx.blockRet ?_
  refine Wx.thenRet ?_
  refine Wx.fin1 rfl (.inl rfl) (fun w hs => ?_)
  exact ⟨(), trivial, rfl, hs⟩

theorem up_on_nil (W0 : World)  :
    Con Try.prog W0 22 #[Value.pointer none] [] (X := Unit) (fun _ => True) (fun _ => .bool false) (fun _ => []) := by
  refine Con.of (args := [Value.pointer none]) Try.func22 rfl Try.ntmps22 rfl (fun F => ?_)
  show Wc _ W0 _ _ _ _ _ (F)
  refine Wc.seq ?_
  refine Wc.region ?_
  refine Wl.q (v := Value.bool false) (q_assign rfl) ?_
  refine Wl.done ?_
  refine Wx.go ?_
  refine Wc.seq ?_
  refine Wc.region ?_
  refine Wl.q (v := Value.pointer none) (q_move rfl) ?_
  refine Wl.e (e_call (F := F) (args := [Value.pointer none]) Try.call32 rfl (there_nil W0)) (fun _ _ => ?_)
  refine Wl.imp (L' := F) (fun _ h => h) ?_
  refine Wl.q (v := Value.bool false) (q_move rfl) ?_
  refine Wl.no ?_
  refine Wl.no ?_
  refine Wl.no ?_
  refine Wl.no ?_
  refine Wl.no ?_
  refine Wl.q (v := Value.bool false) (q_pick (t := false) rfl rfl) ?_
  refine Wl.q (v := Value.bool false) (q_assign rfl) ?_
  refine Wl.done ?_
  refine Wx.go ?_
  refine Wc.ret ?_
  refine Wx.fin1 rfl (.inl rfl) (fun w hs => ?_)
  exact ⟨(), trivial, rfl, hs⟩

theorem up_on_zero (W0 : World) (q : Nat)  :
    Con Try.prog W0 22 #[Value.pointer (some ⟨q, 0, none⟩)] [pt q 55 [Value.slice none 0 0, Value.slice none 0 0, Value.bool false, Value.int .i64 0, Value.nilFunc]] (X := Unit) (fun _ => True) (fun _ => .bool false) (fun _ => [pt q 55 [Value.slice none 0 0, Value.slice none 0 0, Value.bool false, Value.int .i64 0, Value.nilFunc]]) := by
  refine Con.of (args := [Value.pointer (some ⟨q, 0, none⟩)]) Try.func22 rfl Try.ntmps22 rfl (fun F => ?_)
  show Wc _ W0 _ _ _ _ _ ((pt q 55 [Value.slice none 0 0, Value.slice none 0 0, Value.bool false, Value.int .i64 0, Value.nilFunc]) :: F)
  refine Wc.seq ?_
  refine Wc.region ?_
  refine Wl.q (v := Value.bool false) (q_assign rfl) ?_
  refine Wl.done ?_
  refine Wx.go ?_
  refine Wc.seq ?_
  refine Wc.region ?_
  refine Wl.q (v := Value.pointer (some ⟨q, 0, none⟩)) (q_move rfl) ?_
  refine Wl.e (e_call (F := F) (args := [Value.pointer (some ⟨q, 0, none⟩)]) Try.call32 rfl (there_zero W0 q (Value.slice none 0 0) (Value.slice none 0 0) (Value.bool false) (Value.int .i64 0))) (fun _ _ => ?_)
  refine Wl.imp (L' := (pt q 55 [Value.slice none 0 0, Value.slice none 0 0, Value.bool false, Value.int .i64 0, Value.nilFunc]) :: F) (fun _ h => h) ?_
  refine Wl.q (v := Value.bool false) (q_move rfl) ?_
  refine Wl.no ?_
  refine Wl.no ?_
  refine Wl.no ?_
  refine Wl.no ?_
  refine Wl.no ?_
  refine Wl.q (v := Value.bool false) (q_pick (t := false) rfl rfl) ?_
  refine Wl.q (v := Value.bool false) (q_assign rfl) ?_
  refine Wl.done ?_
  refine Wx.go ?_
  refine Wc.ret ?_
  refine Wx.fin1 rfl (.inl rfl) (fun w hs => ?_)
  exact ⟨(), trivial, rfl, hs⟩

theorem count_on_nil (W0 : World)  :
    Con Try.prog W0 23 #[Value.pointer none] [] (X := Unit) (fun _ => True) (fun _ => .int .i64 0) (fun _ => []) := by
  refine Con.of (args := [Value.pointer none]) Try.func23 rfl Try.ntmps23 rfl (fun F => ?_)
  show Wc _ W0 _ _ _ _ _ (F)
  refine Wc.seq ?_
  refine Wc.region ?_
  refine Wl.q (v := Value.int .i64 0) (q_assign rfl) ?_
  refine Wl.done ?_
  refine Wx.go ?_
  refine Wc.seq ?_
  refine Wc.seq ?_
  refine Wc.region ?_
  refine Wl.q (v := Value.pointer none) (q_move rfl) ?_
  refine Wl.e (e_call (F := F) (args := [Value.pointer none]) Try.call32 rfl (there_nil W0)) (fun _ _ => ?_)
  refine Wl.imp (L' := F) (fun _ h => h) ?_
  refine Wl.q (v := Value.bool true) (q_not rfl rfl) ?_
  refine Wl.done ?_
  refine Wx.go ?_
  refine Wc.yes rfl ?_
  refine Wc.seq ?_
  refine Wc.region ?_
  refine Wl.q (v := Value.int .i64 0) (q_assign rfl) ?_
  refine Wl.done ?_
  refine Wx.go ?_
  refine Wc.ret ?_
  refine Wx.thenRet ?_
  refine Wx.fin1 rfl (.inl rfl) (fun w hs => ?_)
  exact ⟨(), trivial, rfl, hs⟩

theorem count_on_zero (W0 : World) (q : Nat)  :
    Con Try.prog W0 23 #[Value.pointer (some ⟨q, 0, none⟩)] [pt q 55 [Value.slice none 0 0, Value.slice none 0 0, Value.bool false, Value.int .i64 0, Value.nilFunc]] (X := Unit) (fun _ => True) (fun _ => .int .i64 0) (fun _ => [pt q 55 [Value.slice none 0 0, Value.slice none 0 0, Value.bool false, Value.int .i64 0, Value.nilFunc]]) := by
  refine Con.of (args := [Value.pointer (some ⟨q, 0, none⟩)]) Try.func23 rfl Try.ntmps23 rfl (fun F => ?_)
  show Wc _ W0 _ _ _ _ _ ((pt q 55 [Value.slice none 0 0, Value.slice none 0 0, Value.bool false, Value.int .i64 0, Value.nilFunc]) :: F)
  refine Wc.seq ?_
  refine Wc.region ?_
  refine Wl.q (v := Value.int .i64 0) (q_assign rfl) ?_
  refine Wl.done ?_
  refine Wx.go ?_
  refine Wc.seq ?_
  refine Wc.seq ?_
  refine Wc.region ?_
  refine Wl.q (v := Value.pointer (some ⟨q, 0, none⟩)) (q_move rfl) ?_
  refine Wl.e (e_call (F := F) (args := [Value.pointer (some ⟨q, 0, none⟩)]) Try.call32 rfl (there_zero W0 q (Value.slice none 0 0) (Value.slice none 0 0) (Value.bool false) (Value.int .i64 0))) (fun _ _ => ?_)
  refine Wl.imp (L' := (pt q 55 [Value.slice none 0 0, Value.slice none 0 0, Value.bool false, Value.int .i64 0, Value.nilFunc]) :: F) (fun _ h => h) ?_
  refine Wl.q (v := Value.bool true) (q_not rfl rfl) ?_
  refine Wl.done ?_
  refine Wx.go ?_
  refine Wc.yes rfl ?_
  refine Wc.seq ?_
  refine Wc.region ?_
  refine Wl.q (v := Value.int .i64 0) (q_assign rfl) ?_
  refine Wl.done ?_
  refine Wx.go ?_
  refine Wc.ret ?_
  refine Wx.thenRet ?_
  refine Wx.fin1 rfl (.inl rfl) (fun w hs => ?_)
  exact ⟨(), trivial, rfl, hs⟩

theorem unsynced_on_nil (W0 : World)  :
    Con Try.prog W0 19 #[Value.pointer none] [] (X := Unit) (fun _ => True) (fun _ => .int .i64 0) (fun _ => []) := by
  refine Con.of (args := [Value.pointer none]) Try.func19 rfl Try.ntmps19 rfl (fun F => ?_)
  show Wc _ W0 _ _ _ _ _ (F)
  refine Wc.seq ?_
  refine Wc.region ?_
  refine Wl.q (v := Value.int .i64 0) (q_assign rfl) ?_
  refine Wl.done ?_
  refine Wx.go ?_
  refine Wc.seq ?_
  refine Wc.seq ?_
  refine Wc.region ?_
  refine Wl.q (v := Value.pointer none) (q_move rfl) ?_
  refine Wl.e (e_call (F := F) (args := [Value.pointer none]) Try.call32 rfl (there_nil W0)) (fun _ _ => ?_)
  refine Wl.imp (L' := F) (fun _ h => h) ?_
  refine Wl.q (v := Value.bool true) (q_not rfl rfl) ?_
  refine Wl.done ?_
  refine Wx.go ?_
  refine Wc.yes rfl ?_
  refine Wc.seq ?_
  refine Wc.region ?_
  refine Wl.q (v := Value.int .i64 0) (q_assign rfl) ?_
  refine Wl.done ?_
  refine Wx.go ?_
  refine Wc.ret ?_
  refine Wx.thenRet ?_
  refine Wx.fin1 rfl (.inl rfl) (fun w hs => ?_)
  exact ⟨(), trivial, rfl, hs⟩

theorem unsynced_on_zero (W0 : World) (q : Nat)  :
    Con Try.prog W0 19 #[Value.pointer (some ⟨q, 0, none⟩)] [pt q 55 [Value.slice none 0 0, Value.slice none 0 0, Value.bool false, Value.int .i64 0, Value.nilFunc]] (X := Unit) (fun _ => True) (fun _ => .int .i64 0) (fun _ => [pt q 55 [Value.slice none 0 0, Value.slice none 0 0, Value.bool false, Value.int .i64 0, Value.nilFunc]]) := by
  refine Con.of (args := [Value.pointer (some ⟨q, 0, none⟩)]) Try.func19 rfl Try.ntmps19 rfl (fun F => ?_)
  show Wc _ W0 _ _ _ _ _ ((pt q 55 [Value.slice none 0 0, Value.slice none 0 0, Value.bool false, Value.int .i64 0, Value.nilFunc]) :: F)
  refine Wc.seq ?_
  refine Wc.region ?_
  refine Wl.q (v := Value.int .i64 0) (q_assign rfl) ?_
  refine Wl.done ?_
  refine Wx.go ?_
  refine Wc.seq ?_
  refine Wc.seq ?_
  refine Wc.region ?_
  refine Wl.q (v := Value.pointer (some ⟨q, 0, none⟩)) (q_move rfl) ?_
  refine Wl.e (e_call (F := F) (args := [Value.pointer (some ⟨q, 0, none⟩)]) Try.call32 rfl (there_zero W0 q (Value.slice none 0 0) (Value.slice none 0 0) (Value.bool false) (Value.int .i64 0))) (fun _ _ => ?_)
  refine Wl.imp (L' := (pt q 55 [Value.slice none 0 0, Value.slice none 0 0, Value.bool false, Value.int .i64 0, Value.nilFunc]) :: F) (fun _ h => h) ?_
  refine Wl.q (v := Value.bool true) (q_not rfl rfl) ?_
  refine Wl.done ?_
  refine Wx.go ?_
  refine Wc.yes rfl ?_
  refine Wc.seq ?_
  refine Wc.region ?_
  refine Wl.q (v := Value.int .i64 0) (q_assign rfl) ?_
  refine Wl.done ?_
  refine Wx.go ?_
  refine Wc.ret ?_
  refine Wx.thenRet ?_
  refine Wx.fin1 rfl (.inl rfl) (fun w hs => ?_)
  exact ⟨(), trivial, rfl, hs⟩

theorem len_on_nil (W0 : World)  :
    Con Try.prog W0 26 #[Value.pointer none] [] (X := Unit) (fun _ => True) (fun _ => .int .i64 0) (fun _ => []) := by
  refine Con.of (args := [Value.pointer none]) Try.func26 rfl Try.ntmps26 rfl (fun F => ?_)
  show Wc _ W0 _ _ _ _ _ (F)
  refine Wc.seq ?_
  refine Wc.region ?_
  refine Wl.q (v := Value.int .i64 0) (q_assign rfl) ?_
  refine Wl.done ?_
  refine Wx.go ?_
  refine Wc.seq ?_
  refine Wc.seq ?_
  refine Wc.region ?_
  refine Wl.q (v := Value.pointer none) (q_move rfl) ?_
  refine Wl.e (e_call (F := F) (args := [Value.pointer none]) Try.call32 rfl (there_nil W0)) (fun _ _ => ?_)
  refine Wl.imp (L' := F) (fun _ h => h) ?_
  refine Wl.q (v := Value.bool true) (q_not rfl rfl) ?_
  refine Wl.done ?_
  refine Wx.go ?_
  refine Wc.yes rfl ?_
  refine Wc.seq ?_
  refine Wc.region ?_
  refine Wl.q (v := Value.int .i64 0) (q_assign rfl) ?_
  refine Wl.done ?_
  refine Wx.go ?_
  refine Wc.ret ?_
  refine Wx.thenRet ?_
  refine Wx.fin1 rfl (.inl rfl) (fun w hs => ?_)
  exact ⟨(), trivial, rfl, hs⟩

theorem len_on_zero (W0 : World) (q : Nat)  :
    Con Try.prog W0 26 #[Value.pointer (some ⟨q, 0, none⟩)] [pt q 55 [Value.slice none 0 0, Value.slice none 0 0, Value.bool false, Value.int .i64 0, Value.nilFunc]] (X := Unit) (fun _ => True) (fun _ => .int .i64 0) (fun _ => [pt q 55 [Value.slice none 0 0, Value.slice none 0 0, Value.bool false, Value.int .i64 0, Value.nilFunc]]) := by
  refine Con.of (args := [Value.pointer (some ⟨q, 0, none⟩)]) Try.func26 rfl Try.ntmps26 rfl (fun F => ?_)
  show Wc _ W0 _ _ _ _ _ ((pt q 55 [Value.slice none 0 0, Value.slice none 0 0, Value.bool false, Value.int .i64 0, Value.nilFunc]) :: F)
  refine Wc.seq ?_
  refine Wc.region ?_
  refine Wl.q (v := Value.int .i64 0) (q_assign rfl) ?_
  refine Wl.done ?_
  refine Wx.go ?_
  refine Wc.seq ?_
  refine Wc.seq ?_
  refine Wc.region ?_
  refine Wl.q (v := Value.pointer (some ⟨q, 0, none⟩)) (q_move rfl) ?_
  refine Wl.e (e_call (F := F) (args := [Value.pointer (some ⟨q, 0, none⟩)]) Try.call32 rfl (there_zero W0 q (Value.slice none 0 0) (Value.slice none 0 0) (Value.bool false) (Value.int .i64 0))) (fun _ _ => ?_)
  refine Wl.imp (L' := (pt q 55 [Value.slice none 0 0, Value.slice none 0 0, Value.bool false, Value.int .i64 0, Value.nilFunc]) :: F) (fun _ h => h) ?_
  refine Wl.q (v := Value.bool true) (q_not rfl rfl) ?_
  refine Wl.done ?_
  refine Wx.go ?_
  refine Wc.yes rfl ?_
  refine Wc.seq ?_
  refine Wc.region ?_
  refine Wl.q (v := Value.int .i64 0) (q_assign rfl) ?_
  refine Wl.done ?_
  refine Wx.go ?_
  refine Wc.ret ?_
  refine Wx.thenRet ?_
  refine Wx.fin1 rfl (.inl rfl) (fun w hs => ?_)
  exact ⟨(), trivial, rfl, hs⟩

set_option maxRecDepth 8000 in
set_option maxHeartbeats 4000000 in
theorem none_law (W0 : World) (o : OpR) (hob : o.b < 256) :
    Con Try.prog W0 9 #[Value.agg #[Value.int .i64 o.kind, Value.int .i64 o.at_, Value.int .u8 ((o.b : Nat) : Int), Value.int .i64 o.more, Value.int .i64 o.bits]] [] (X := Unit) (fun _ => True) (fun _ => .bool true) (fun _ => []) := by
  refine Con.of (args := [Value.agg #[Value.int .i64 o.kind, Value.int .i64 o.at_, Value.int .u8 ((o.b : Nat) : Int), Value.int .i64 o.more, Value.int .i64 o.bits]]) Try.func9 rfl Try.ntmps9 rfl (fun F => ?_)
  show Wc _ W0 _ _ _ _ _ (F)
  refine Wc.seq ?_
  refine Wc.region ?_
  refine Wl.e (e_box (x := .tmp 0) (vs := [Value.int .i64 o.kind, Value.int .i64 o.at_, Value.int .u8 ((o.b : Nat) : Int), Value.int .i64 o.more, Value.int .i64 o.bits]) rfl) (fun b1 _ => ?_)
  refine Wl.imp (L' := (pt b1 45 [Value.int .i64 o.kind, Value.int .i64 o.at_, Value.int .u8 ((o.b : Nat) : Int), Value.int .i64 o.more, Value.int .i64 o.bits]) :: F) (fun _ h => h) ?_
  refine Wl.q (v := Value.bool false) (q_assign rfl) ?_
  refine Wl.done ?_
  refine Wx.go ?_
  refine Wc.seq ?_
  refine Wc.region ?_
  refine Wl.q (v := Value.pointer none) (q_assign rfl) ?_
  refine Wl.done ?_
  refine Wx.go ?_
  refine Wc.seq ?_
  refine Wc.seq ?_
  refine Wc.region ?_
  refine Wl.q (v := Value.int .i64 0) (q_assign rfl) ?_
  refine Wl.done ?_
  refine Wx.go ?_
  refine Wc.block ?_
  refine Wc.loop (X := Nat) (fun i E => E 4 = Value.int .i64 ((i : Nat) : Int) ∧ E 1 = Value.pointer (some ⟨b1, 0, none⟩) ∧ E 3 = Value.pointer none ∧ i ≤ 2) (fun i => (pt b1 45 [Value.int .i64 o.kind, Value.int .i64 o.at_, Value.int .u8 ((o.b : Nat) : Int), Value.int .i64 o.more, Value.int .i64 o.bits]) :: F) (fun i => 2 - i) 0 ?_ ?_ ?_
  · exact ⟨rfl, rfl, rfl, (by omega)⟩
  · exact fun w hs => hs
  · rintro i E3 ⟨hE4_1, hE1_1, hE3_1, hi0⟩
    refine Wc.seq ?_
    refine Wc.seq ?_
    refine Wc.region ?_
    refine Wl.q (v := Value.int .i64 ((i : Nat) : Int)) (q_move hE4_1) ?_
    by_cases h4 : ((i : Nat) : Int) < 2
    ·
      refine Wl.q (v := Value.bool true) (q_lss (r := true) rfl rfl (decide_eq_true h4)) ?_
      refine Wl.done ?_
      refine Wx.go ?_
      refine Wc.yes rfl ?_
      refine Wc.skip ?_
      refine Wx.go ?_
      refine Wc.seq ?_
      refine Wc.block ?_
      refine Wc.seq ?_
      refine Wc.region ?_
      refine Wl.q (v := Value.pointer none) (q_move hE3_1) ?_
      refine Wl.q (v := Value.pointer none) (q_assign rfl) ?_
      refine Wl.done ?_
      refine Wx.go ?_
      refine Wc.seq ?_
      refine Wc.seq ?_
      refine Wc.region ?_
      refine Wl.q (v := Value.int .i64 ((i : Nat) : Int)) (q_move hE4_1) ?_
      by_cases h5 : ((i : Nat) : Int) = 1
      ·
        refine Wl.q (v := Value.bool true) (q_eql (r := true) rfl rfl (decide_eq_true h5)) ?_
        refine Wl.done ?_
        refine Wx.go ?_
        refine Wc.yes rfl ?_
        refine Wc.region ?_
        refine Wl.q (v := Value.agg #[Value.slice none 0 0, Value.slice none 0 0, Value.bool false, Value.int .i64 0, Value.nilFunc]) (q_build (pl := [(0, 1), (1, 1), (2, 1), (3, 1), (4, 1)]) Try.underlying55 zo_55 (by kernel_rfl) (by kernel_rfl)) ?_
        refine Wl.e (e_box (x := .tmp 15) (vs := [Value.slice none 0 0, Value.slice none 0 0, Value.bool false, Value.int .i64 0, Value.nilFunc]) rfl) (fun b6 _ => ?_)
        refine Wl.imp (L' := (pt b6 55 [Value.slice none 0 0, Value.slice none 0 0, Value.bool false, Value.int .i64 0, Value.nilFunc]) :: (pt b1 45 [Value.int .i64 o.kind, Value.int .i64 o.at_, Value.int .u8 ((o.b : Nat) : Int), Value.int .i64 o.more, Value.int .i64 o.bits]) :: F) (fun _ h => h) ?_
        refine Wl.q (v := Value.pointer (some ⟨b6, 0, none⟩)) (q_assign rfl) ?_
        refine Wl.done ?_
        refine Wx.go ?_
        refine Wc.seq ?_
        refine Wc.region ?_
        refine Wl.q (v := Value.pointer (some ⟨b6, 0, none⟩)) (q_move rfl) ?_
        refine Wl.q (v := Value.pointer (some ⟨b1, 1, none⟩)) (q_field (m := 1) fo_45_1 hE1_1 rfl) ?_
        refine Wl.q (v := Value.int .i64 o.at_) (q_load sc_3 rfl (.cel (i := 1) rfl rfl)) ?_
        refine Wl.e (e_call (F := (pt b1 45 [Value.int .i64 o.kind, Value.int .i64 o.at_, Value.int .u8 ((o.b : Nat) : Int), Value.int .i64 o.more, Value.int .i64 o.bits]) :: F) (args := [Value.pointer (some ⟨b6, 0, none⟩), Value.int .i64 o.at_]) Try.call16 rfl (read_on_zero W0 b6 o.at_)) (fun _ _ => ?_)
        refine Wl.imp (L' := (pt b6 55 [Value.slice none 0 0, Value.slice none 0 0, Value.bool false, Value.int .i64 0, Value.nilFunc]) :: (pt b1 45 [Value.int .i64 o.kind, Value.int .i64 o.at_, Value.int .u8 ((o.b : Nat) : Int), Value.int .i64 o.more, Value.int .i64 o.bits]) :: F) (fun _ h => h) ?_
        refine Wl.q (v := Value.tuple #[Value.string (⟨#[]⟩), Value.int .i64 2]) (q_move rfl) ?_
        refine Wl.q (v := Value.string (⟨#[]⟩)) (q_extract (i := 0) rfl rfl) ?_
        refine Wl.q (v := Value.int .i64 2) (q_extract (i := 1) rfl rfl) ?_
        refine Wl.q (v := Value.string (⟨#[]⟩)) (q_assign rfl) ?_
        refine Wl.q (v := Value.int .i64 2) (q_assign rfl) ?_
        refine Wl.done ?_
        refine Wx.go ?_
        refine Wc.seq ?_
        refine Wc.drawsS [] ((pt b6 55 [Value.slice none 0 0, Value.slice none 0 0, Value.bool false, Value.int .i64 0, Value.nilFunc]) :: (pt b1 45 [Value.int .i64 o.kind, Value.int .i64 o.at_, Value.int .u8 ((o.b : Nat) : Int), Value.int .i64 o.more, Value.int .i64 o.bits]) :: []) (by kernel_rfl) ?_
        refine Wr.pure (v := Value.int .i64 2) 0 rfl (by kernel_rfl) (.inr (fun _ h => st_take [0, 0] h)) (.inl ⟨rfl, fun _ => q_move rfl⟩) ?_
        refine Wr.pure (v := Value.bool false) 1 rfl (by kernel_rfl) (.inr (fun _ h => st_take [0, 0] h)) (.inl ⟨rfl, fun _ => q_neq (r := true) rfl rfl (decide_eq_true (by decide))⟩) ?_
        refine Wr.pure (v := Value.bool false) 2 rfl (by kernel_rfl) (.inr (fun _ h => st_take [0, 0] h)) (.inl ⟨rfl, fun _ => q_move rfl⟩) ?_
        refine Wr.pure (v := Value.pointer (some ⟨b6, 0, none⟩)) 3 rfl (by kernel_rfl) (.inr (fun _ h => st_take [0, 0] h)) (.inl ⟨rfl, fun _ => q_move rfl⟩) ?_
        refine Wr.pure (v := Value.pointer (some ⟨b1, 1, none⟩)) 4 rfl (by kernel_rfl) (.inr (fun _ h => st_take [0, 0] h)) (.inl ⟨rfl, fun _ => q_field (m := 1) fo_45_1 hE1_1 rfl⟩) ?_
        refine Wr.take (v := Value.int .i64 o.at_) 5 rfl (by kernel_rfl) (fun _ h => st_take [0, 0] h) (.inl ⟨rfl, q_load sc_3 rfl (.cel (i := 1) rfl rfl)⟩) ?_
        refine Wr.pure (v := Value.pointer (some ⟨b1, 2, none⟩)) 6 rfl (by kernel_rfl) (.inr (fun _ h => st_take [0, 0] h)) (.inl ⟨rfl, fun _ => q_field (m := 2) fo_45_2 hE1_1 rfl⟩) ?_
        refine Wr.take (v := Value.int .u8 ((o.b : Nat) : Int)) 7 rfl (by kernel_rfl) (fun _ h => st_take [0, 0] h) (.inl ⟨rfl, q_load sc_5 rfl (.cel (i := 1) rfl rfl)⟩) ?_
        refine Wr.pure (v := Value.pointer (some ⟨b1, 3, none⟩)) 8 rfl (by kernel_rfl) (.inr (fun _ h => st_take [0, 0] h)) (.inl ⟨rfl, fun _ => q_field (m := 3) fo_45_3 hE1_1 rfl⟩) ?_
        refine Wr.take (v := Value.int .i64 o.more) 9 rfl (by kernel_rfl) (fun _ h => st_take [0, 0] h) (.inl ⟨rfl, q_load sc_3 rfl (.cel (i := 1) rfl rfl)⟩) ?_
        refine Wr.e 10 (by kernel_rfl) rfl (e_call (F := (pt b6 55 [Value.slice none 0 0, Value.slice none 0 0, Value.bool false, Value.int .i64 0, Value.nilFunc]) :: (pt b1 45 [Value.int .i64 o.kind, Value.int .i64 o.at_, Value.int .u8 ((o.b : Nat) : Int), Value.int .i64 o.more, Value.int .i64 o.bits]) :: F) (args := [Value.int .u8 ((o.b : Nat) : Int), Value.int .i64 o.more]) Try.call21 rfl (filled_c W0 o.b (by first | decide | assumption | omega) o.more)) (.inr fun _ _ _ h => st_take [0, 0] h) (fun _ _ => ?_)
        refine Wr.imp (L' := (pt b6 55 [Value.slice none 0 0, Value.slice none 0 0, Value.bool false, Value.int .i64 0, Value.nilFunc]) :: (pt b1 45 [Value.int .i64 o.kind, Value.int .i64 o.at_, Value.int .u8 ((o.b : Nat) : Int), Value.int .i64 o.more, Value.int .i64 o.bits]) :: F) (fun _ h => h) ?_
        refine Wr.e 11 (by kernel_rfl) rfl (e_call (F := (pt b1 45 [Value.int .i64 o.kind, Value.int .i64 o.at_, Value.int .u8 ((o.b : Nat) : Int), Value.int .i64 o.more, Value.int .i64 o.bits]) :: F) (args := [Value.pointer (some ⟨b6, 0, none⟩), Value.int .i64 o.at_, Value.string (filled o.b o.more)]) Try.call13 rfl (write_on_zero W0 b6 o.at_ (filled o.b o.more))) (.inr fun _ _ _ h => st_take [0, 0] h) (fun _ _ => ?_)
        refine Wr.imp (L' := (pt b6 55 [Value.slice none 0 0, Value.slice none 0 0, Value.bool false, Value.int .i64 0, Value.nilFunc]) :: (pt b1 45 [Value.int .i64 o.kind, Value.int .i64 o.at_, Value.int .u8 ((o.b : Nat) : Int), Value.int .i64 o.more, Value.int .i64 o.bits]) :: F) (fun _ h => h) ?_
        refine Wr.pure (v := Value.bool false) 12 rfl (by kernel_rfl) (.inr (fun _ h => st_take [0, 0] h)) (.inl ⟨rfl, fun _ => q_neq (r := true) rfl rfl (decide_eq_true (by decide))⟩) ?_
        refine Wr.pure (v := Value.bool false) 13 rfl (by kernel_rfl) (.inr (fun _ h => st_take [0, 0] h)) (.inl ⟨rfl, fun _ => q_pick (t := false) rfl rfl⟩) ?_
        refine Wr.pure (v := Value.bool false) 14 rfl (by kernel_rfl) (.inr (fun _ h => st_take [0, 0] h)) (.inl ⟨rfl, fun _ => q_move rfl⟩) ?_
        refine Wr.pure (v := Value.pointer (some ⟨b6, 0, none⟩)) 15 rfl (by kernel_rfl) (.inr (fun _ h => st_take [0, 0] h)) (.inl ⟨rfl, fun _ => q_move rfl⟩) ?_
        refine Wr.e 16 (by kernel_rfl) rfl (e_call (F := (pt b1 45 [Value.int .i64 o.kind, Value.int .i64 o.at_, Value.int .u8 ((o.b : Nat) : Int), Value.int .i64 o.more, Value.int .i64 o.bits]) :: F) (args := [Value.pointer (some ⟨b6, 0, none⟩)]) Try.call18 rfl (sync_on_zero W0 b6 )) (.inr fun _ _ _ h => st_take [0, 0] h) (fun _ _ => ?_)
        refine Wr.imp (L' := (pt b6 55 [Value.slice none 0 0, Value.slice none 0 0, Value.bool false, Value.int .i64 0, Value.nilFunc]) :: (pt b1 45 [Value.int .i64 o.kind, Value.int .i64 o.at_, Value.int .u8 ((o.b : Nat) : Int), Value.int .i64 o.more, Value.int .i64 o.bits]) :: F) (fun _ h => h) ?_
        refine Wr.pure (v := Value.bool false) 17 rfl (by kernel_rfl) (.inr (fun _ h => st_take [0, 0] h)) (.inl ⟨rfl, fun _ => q_neq (r := true) rfl rfl (decide_eq_true (by decide))⟩) ?_
        refine Wr.pure (v := Value.bool false) 18 rfl (by kernel_rfl) (.inr (fun _ h => st_take [0, 0] h)) (.inl ⟨rfl, fun _ => q_pick (t := false) rfl rfl⟩) ?_
        refine Wr.pure (v := Value.bool false) 19 rfl (by kernel_rfl) (.inr (fun _ h => st_take [0, 0] h)) (.inl ⟨rfl, fun _ => q_move rfl⟩) ?_
        refine Wr.pure (v := Value.pointer (some ⟨b6, 0, none⟩)) 20 rfl (by kernel_rfl) (.inr (fun _ h => st_take [0, 0] h)) (.inl ⟨rfl, fun _ => q_move rfl⟩) ?_
        refine Wr.pure (v := Value.pointer (some ⟨b1, 1, none⟩)) 21 rfl (by kernel_rfl) (.inr (fun _ h => st_take [0, 0] h)) (.inl ⟨rfl, fun _ => q_field (m := 1) fo_45_1 hE1_1 rfl⟩) ?_
        refine Wr.take (v := Value.int .i64 o.at_) 22 rfl (by kernel_rfl) (fun _ h => st_take [0, 0] h) (.inl ⟨rfl, q_load sc_3 rfl (.cel (i := 1) rfl rfl)⟩) ?_
        refine Wr.pure (v := Value.pointer (some ⟨b1, 4, none⟩)) 23 rfl (by kernel_rfl) (.inr (fun _ h => st_take [0, 0] h)) (.inl ⟨rfl, fun _ => q_field (m := 4) fo_45_4 hE1_1 rfl⟩) ?_
        refine Wr.take (v := Value.int .i64 o.bits) 24 rfl (by kernel_rfl) (fun _ h => st_take [0, 0] h) (.inl ⟨rfl, q_load sc_2 rfl (.cel (i := 1) rfl rfl)⟩) ?_
        refine Wr.e 25 (by kernel_rfl) rfl (e_call (F := (pt b1 45 [Value.int .i64 o.kind, Value.int .i64 o.at_, Value.int .u8 ((o.b : Nat) : Int), Value.int .i64 o.more, Value.int .i64 o.bits]) :: F) (args := [Value.pointer (some ⟨b6, 0, none⟩), Value.int .i64 o.at_, Value.int .i64 o.bits]) Try.call20 rfl (cut_on_zero W0 b6 o.at_ o.bits)) (.inr fun _ _ _ h => st_take [0, 0] h) (fun _ _ => ?_)
        refine Wr.imp (L' := (pt b6 55 [Value.slice none 0 0, Value.slice none 0 0, Value.bool false, Value.int .i64 0, Value.nilFunc]) :: (pt b1 45 [Value.int .i64 o.kind, Value.int .i64 o.at_, Value.int .u8 ((o.b : Nat) : Int), Value.int .i64 o.more, Value.int .i64 o.bits]) :: F) (fun _ h => h) ?_
        refine Wr.pure (v := Value.bool false) 26 rfl (by kernel_rfl) (.inr (fun _ h => st_take [0, 0] h)) (.inl ⟨rfl, fun _ => q_neq (r := true) rfl rfl (decide_eq_true (by decide))⟩) ?_
        refine Wr.pure (v := Value.bool false) 27 rfl (by kernel_rfl) (.inr (fun _ h => st_take [0, 0] h)) (.inl ⟨rfl, fun _ => q_pick (t := false) rfl rfl⟩) ?_
        refine Wr.pure (v := Value.bool false) 28 rfl (by kernel_rfl) (.inr (fun _ h => st_take [0, 0] h)) (.inl ⟨rfl, fun _ => q_move rfl⟩) ?_
        refine Wr.pure (v := Value.pointer (some ⟨b6, 0, none⟩)) 29 rfl (by kernel_rfl) (.inr (fun _ h => st_take [0, 0] h)) (.inl ⟨rfl, fun _ => q_move rfl⟩) ?_
        refine Wr.pure (v := Value.pointer (some ⟨b1, 4, none⟩)) 30 rfl (by kernel_rfl) (.inr (fun _ h => st_take [0, 0] h)) (.inl ⟨rfl, fun _ => q_field (m := 4) fo_45_4 hE1_1 rfl⟩) ?_
        refine Wr.take (v := Value.int .i64 o.bits) 31 rfl (by kernel_rfl) (fun _ h => st_take [0, 0] h) (.inl ⟨rfl, q_load sc_2 rfl (.cel (i := 1) rfl rfl)⟩) ?_
        refine Wr.e 32 (by kernel_rfl) rfl (e_call (F := (pt b1 45 [Value.int .i64 o.kind, Value.int .i64 o.at_, Value.int .u8 ((o.b : Nat) : Int), Value.int .i64 o.more, Value.int .i64 o.bits]) :: F) (args := [Value.pointer (some ⟨b6, 0, none⟩), Value.int .i64 o.bits]) Try.call14 rfl (crash_on_zero W0 b6 o.bits)) (.inr fun _ _ _ h => st_take [0, 0] h) (fun _ _ => ?_)
        refine Wr.imp (L' := (pt b6 55 [Value.slice none 0 0, Value.slice none 0 0, Value.bool false, Value.int .i64 0, Value.nilFunc]) :: (pt b1 45 [Value.int .i64 o.kind, Value.int .i64 o.at_, Value.int .u8 ((o.b : Nat) : Int), Value.int .i64 o.more, Value.int .i64 o.bits]) :: F) (fun _ h => h) ?_
        refine Wr.pure (v := Value.bool false) 33 rfl (by kernel_rfl) (.inr (fun _ h => st_take [0, 0] h)) (.inl ⟨rfl, fun _ => q_neq (r := true) rfl rfl (decide_eq_true (by decide))⟩) ?_
        refine Wr.pure (v := Value.bool false) 34 rfl (by kernel_rfl) (.inr (fun _ h => st_take [0, 0] h)) (.inl ⟨rfl, fun _ => q_pick (t := false) rfl rfl⟩) ?_
        refine Wr.pure (v := Value.bool false) 35 rfl (by kernel_rfl) (.inr (fun _ h => st_take [0, 0] h)) (.inl ⟨rfl, fun _ => q_move rfl⟩) ?_
        refine Wr.pure (v := Value.pointer (some ⟨b6, 0, none⟩)) 36 rfl (by kernel_rfl) (.inr (fun _ h => st_take [0, 0] h)) (.inl ⟨rfl, fun _ => q_move rfl⟩) ?_
        refine Wr.e 37 (by kernel_rfl) rfl (e_call (F := (pt b1 45 [Value.int .i64 o.kind, Value.int .i64 o.at_, Value.int .u8 ((o.b : Nat) : Int), Value.int .i64 o.more, Value.int .i64 o.bits]) :: F) (args := [Value.pointer (some ⟨b6, 0, none⟩)]) Try.call15 rfl (start_on_zero W0 b6 )) (.inr fun _ _ _ h => st_take [0, 0] h) (fun _ _ => ?_)
        refine Wr.imp (L' := (pt b6 55 [Value.slice none 0 0, Value.slice none 0 0, Value.bool false, Value.int .i64 0, Value.nilFunc]) :: (pt b1 45 [Value.int .i64 o.kind, Value.int .i64 o.at_, Value.int .u8 ((o.b : Nat) : Int), Value.int .i64 o.more, Value.int .i64 o.bits]) :: F) (fun _ h => h) ?_
        refine Wr.pure (v := Value.bool false) 38 rfl (by kernel_rfl) (.inr (fun _ h => st_take [0, 0] h)) (.inl ⟨rfl, fun _ => q_neq (r := true) rfl rfl (decide_eq_true (by decide))⟩) ?_
        refine Wr.pure (v := Value.bool false) 39 rfl (by kernel_rfl) (.inr (fun _ h => st_take [0, 0] h)) (.inl ⟨rfl, fun _ => q_pick (t := false) rfl rfl⟩) ?_
        refine Wr.pure (v := Value.bool false) 40 rfl (by kernel_rfl) (.inr (fun _ h => st_take [0, 0] h)) (.inl ⟨rfl, fun _ => q_move rfl⟩) ?_
        refine Wr.pure (v := Value.pointer (some ⟨b6, 0, none⟩)) 41 rfl (by kernel_rfl) (.inr (fun _ h => st_take [0, 0] h)) (.inl ⟨rfl, fun _ => q_move rfl⟩) ?_
        refine Wr.e 42 (by kernel_rfl) rfl (e_call (F := (pt b1 45 [Value.int .i64 o.kind, Value.int .i64 o.at_, Value.int .u8 ((o.b : Nat) : Int), Value.int .i64 o.more, Value.int .i64 o.bits]) :: F) (args := [Value.pointer (some ⟨b6, 0, none⟩)]) Try.call22 rfl (up_on_zero W0 b6 )) (.inr fun _ _ _ h => st_take [0, 0] h) (fun _ _ => ?_)
        refine Wr.imp (L' := (pt b6 55 [Value.slice none 0 0, Value.slice none 0 0, Value.bool false, Value.int .i64 0, Value.nilFunc]) :: (pt b1 45 [Value.int .i64 o.kind, Value.int .i64 o.at_, Value.int .u8 ((o.b : Nat) : Int), Value.int .i64 o.more, Value.int .i64 o.bits]) :: F) (fun _ h => h) ?_
        refine Wr.pure (v := Value.bool false) 43 rfl (by kernel_rfl) (.inr (fun _ h => st_take [0, 0] h)) (.inl ⟨rfl, fun _ => q_pick (t := false) rfl rfl⟩) ?_
        refine Wr.pure (v := Value.bool false) 44 rfl (by kernel_rfl) (.inr (fun _ h => st_take [0, 0] h)) (.inl ⟨rfl, fun _ => q_move rfl⟩) ?_
        refine Wr.pure (v := Value.pointer (some ⟨b6, 0, none⟩)) 45 rfl (by kernel_rfl) (.inr (fun _ h => st_take [0, 0] h)) (.inl ⟨rfl, fun _ => q_move rfl⟩) ?_
        refine Wr.e 46 (by kernel_rfl) rfl (e_call (F := (pt b1 45 [Value.int .i64 o.kind, Value.int .i64 o.at_, Value.int .u8 ((o.b : Nat) : Int), Value.int .i64 o.more, Value.int .i64 o.bits]) :: F) (args := [Value.pointer (some ⟨b6, 0, none⟩)]) Try.call26 rfl (len_on_zero W0 b6 )) (.inr fun _ _ _ h => st_take [0, 0] h) (fun _ _ => ?_)
        refine Wr.imp (L' := (pt b6 55 [Value.slice none 0 0, Value.slice none 0 0, Value.bool false, Value.int .i64 0, Value.nilFunc]) :: (pt b1 45 [Value.int .i64 o.kind, Value.int .i64 o.at_, Value.int .u8 ((o.b : Nat) : Int), Value.int .i64 o.more, Value.int .i64 o.bits]) :: F) (fun _ h => h) ?_
        refine Wr.pure (v := Value.bool false) 47 rfl (by kernel_rfl) (.inr (fun _ h => st_take [0, 0] h)) (.inl ⟨rfl, fun _ => q_neq (r := true) rfl rfl (decide_eq_true (by decide))⟩) ?_
        refine Wr.pure (v := Value.bool false) 48 rfl (by kernel_rfl) (.inr (fun _ h => st_take [0, 0] h)) (.inl ⟨rfl, fun _ => q_pick (t := false) rfl rfl⟩) ?_
        refine Wr.pure (v := Value.bool false) 49 rfl (by kernel_rfl) (.inr (fun _ h => st_take [0, 0] h)) (.inl ⟨rfl, fun _ => q_move rfl⟩) ?_
        refine Wr.pure (v := Value.pointer (some ⟨b6, 0, none⟩)) 50 rfl (by kernel_rfl) (.inr (fun _ h => st_take [0, 0] h)) (.inl ⟨rfl, fun _ => q_move rfl⟩) ?_
        refine Wr.e 51 (by kernel_rfl) rfl (e_call (F := (pt b1 45 [Value.int .i64 o.kind, Value.int .i64 o.at_, Value.int .u8 ((o.b : Nat) : Int), Value.int .i64 o.more, Value.int .i64 o.bits]) :: F) (args := [Value.pointer (some ⟨b6, 0, none⟩)]) Try.call23 rfl (count_on_zero W0 b6 )) (.inr fun _ _ _ h => st_take [0, 0] h) (fun _ _ => ?_)
        refine Wr.imp (L' := (pt b6 55 [Value.slice none 0 0, Value.slice none 0 0, Value.bool false, Value.int .i64 0, Value.nilFunc]) :: (pt b1 45 [Value.int .i64 o.kind, Value.int .i64 o.at_, Value.int .u8 ((o.b : Nat) : Int), Value.int .i64 o.more, Value.int .i64 o.bits]) :: F) (fun _ h => h) ?_
        refine Wr.pure (v := Value.bool false) 52 rfl (by kernel_rfl) (.inr (fun _ h => st_take [0, 0] h)) (.inl ⟨rfl, fun _ => q_neq (r := true) rfl rfl (decide_eq_true (by decide))⟩) ?_
        refine Wr.pure (v := Value.bool false) 53 rfl (by kernel_rfl) (.inr (fun _ h => st_take [0, 0] h)) (.inl ⟨rfl, fun _ => q_pick (t := false) rfl rfl⟩) ?_
        refine Wr.pure (v := Value.bool false) 54 rfl (by kernel_rfl) (.inr (fun _ h => st_take [0, 0] h)) (.inl ⟨rfl, fun _ => q_move rfl⟩) ?_
        refine Wr.pure (v := Value.pointer (some ⟨b6, 0, none⟩)) 55 rfl (by kernel_rfl) (.inr (fun _ h => st_take [0, 0] h)) (.inl ⟨rfl, fun _ => q_move rfl⟩) ?_
        refine Wr.e 56 (by kernel_rfl) rfl (e_call (F := (pt b1 45 [Value.int .i64 o.kind, Value.int .i64 o.at_, Value.int .u8 ((o.b : Nat) : Int), Value.int .i64 o.more, Value.int .i64 o.bits]) :: F) (args := [Value.pointer (some ⟨b6, 0, none⟩)]) Try.call19 rfl (unsynced_on_zero W0 b6 )) (.inr fun _ _ _ h => st_take [0, 0] h) (fun _ _ => ?_)
        refine Wr.imp (L' := (pt b6 55 [Value.slice none 0 0, Value.slice none 0 0, Value.bool false, Value.int .i64 0, Value.nilFunc]) :: (pt b1 45 [Value.int .i64 o.kind, Value.int .i64 o.at_, Value.int .u8 ((o.b : Nat) : Int), Value.int .i64 o.more, Value.int .i64 o.bits]) :: F) (fun _ h => h) ?_
        refine Wr.pure (v := Value.bool false) 57 rfl (by kernel_rfl) (.inr (fun _ h => st_take [0, 0] h)) (.inl ⟨rfl, fun _ => q_neq (r := true) rfl rfl (decide_eq_true (by decide))⟩) ?_
        refine Wr.pure (v := Value.bool false) 58 rfl (by kernel_rfl) (.inr (fun _ h => st_take [0, 0] h)) (.inl ⟨rfl, fun _ => q_pick (t := false) rfl rfl⟩) ?_
        refine Wr.done (by kernel_rfl) ?_
        refine Wx.go ?_
        refine Wc.no rfl ?_
        refine Wc.skip ?_
        refine Wx.blockEnd ?_
        refine Wx.go ?_
        refine Wc.region ?_
        refine Wl.q (v := Value.int .i64 ((i : Nat) : Int)) (q_move hE4_1) ?_
        refine Wl.q (v := Value.int .i64 ((i + 1 : Nat) : Int)) (q_add (c := ((i + 1 : Nat) : Int)) rfl rfl (by rw [wrap_i64] <;> omega)) ?_
        refine Wl.q (v := Value.int .i64 ((i + 1 : Nat) : Int)) (q_assign rfl) ?_
        refine Wl.done ?_
        refine Wx.at (i + 1) ⟨(by omega), rfl, hE1_1, hE3_1, (by omega)⟩ (fun w hs => (st_drop (st_pull [0] hs)))
      ·
        refine Wl.q (v := Value.bool false) (q_eql (r := false) rfl rfl (decide_eq_false h5)) ?_
        refine Wl.done ?_
        refine Wx.go ?_
        refine Wc.no rfl ?_
        refine Wc.skip ?_
        refine Wx.go ?_
        refine Wc.seq ?_
        refine Wc.region ?_
        refine Wl.q (v := Value.pointer none) (q_move rfl) ?_
        refine Wl.q (v := Value.pointer (some ⟨b1, 1, none⟩)) (q_field (m := 1) fo_45_1 hE1_1 rfl) ?_
        refine Wl.q (v := Value.int .i64 o.at_) (q_load sc_3 rfl (.cel (i := 0) rfl rfl)) ?_
        refine Wl.e (e_call (F := (pt b1 45 [Value.int .i64 o.kind, Value.int .i64 o.at_, Value.int .u8 ((o.b : Nat) : Int), Value.int .i64 o.more, Value.int .i64 o.bits]) :: F) (args := [Value.pointer none, Value.int .i64 o.at_]) Try.call16 rfl (read_on_nil W0 o.at_)) (fun _ _ => ?_)
        refine Wl.imp (L' := (pt b1 45 [Value.int .i64 o.kind, Value.int .i64 o.at_, Value.int .u8 ((o.b : Nat) : Int), Value.int .i64 o.more, Value.int .i64 o.bits]) :: F) (fun _ h => h) ?_
        refine Wl.q (v := Value.tuple #[Value.string (⟨#[]⟩), Value.int .i64 2]) (q_move rfl) ?_
        refine Wl.q (v := Value.string (⟨#[]⟩)) (q_extract (i := 0) rfl rfl) ?_
        refine Wl.q (v := Value.int .i64 2) (q_extract (i := 1) rfl rfl) ?_
        refine Wl.q (v := Value.string (⟨#[]⟩)) (q_assign rfl) ?_
        refine Wl.q (v := Value.int .i64 2) (q_assign rfl) ?_
        refine Wl.done ?_
        refine Wx.go ?_
        refine Wc.seq ?_
        refine Wc.drawsS [] ((pt b1 45 [Value.int .i64 o.kind, Value.int .i64 o.at_, Value.int .u8 ((o.b : Nat) : Int), Value.int .i64 o.more, Value.int .i64 o.bits]) :: []) (by kernel_rfl) ?_
        refine Wr.pure (v := Value.int .i64 2) 0 rfl (by kernel_rfl) (.inr (fun _ h => st_take [0] h)) (.inl ⟨rfl, fun _ => q_move rfl⟩) ?_
        refine Wr.pure (v := Value.bool false) 1 rfl (by kernel_rfl) (.inr (fun _ h => st_take [0] h)) (.inl ⟨rfl, fun _ => q_neq (r := true) rfl rfl (decide_eq_true (by decide))⟩) ?_
        refine Wr.pure (v := Value.bool false) 2 rfl (by kernel_rfl) (.inr (fun _ h => st_take [0] h)) (.inl ⟨rfl, fun _ => q_move rfl⟩) ?_
        refine Wr.pure (v := Value.pointer none) 3 rfl (by kernel_rfl) (.inr (fun _ h => st_take [0] h)) (.inl ⟨rfl, fun _ => q_move rfl⟩) ?_
        refine Wr.pure (v := Value.pointer (some ⟨b1, 1, none⟩)) 4 rfl (by kernel_rfl) (.inr (fun _ h => st_take [0] h)) (.inl ⟨rfl, fun _ => q_field (m := 1) fo_45_1 hE1_1 rfl⟩) ?_
        refine Wr.take (v := Value.int .i64 o.at_) 5 rfl (by kernel_rfl) (fun _ h => st_take [0] h) (.inl ⟨rfl, q_load sc_3 rfl (.cel (i := 0) rfl rfl)⟩) ?_
        refine Wr.pure (v := Value.pointer (some ⟨b1, 2, none⟩)) 6 rfl (by kernel_rfl) (.inr (fun _ h => st_take [0] h)) (.inl ⟨rfl, fun _ => q_field (m := 2) fo_45_2 hE1_1 rfl⟩) ?_
        refine Wr.take (v := Value.int .u8 ((o.b : Nat) : Int)) 7 rfl (by kernel_rfl) (fun _ h => st_take [0] h) (.inl ⟨rfl, q_load sc_5 rfl (.cel (i := 0) rfl rfl)⟩) ?_
        refine Wr.pure (v := Value.pointer (some ⟨b1, 3, none⟩)) 8 rfl (by kernel_rfl) (.inr (fun _ h => st_take [0] h)) (.inl ⟨rfl, fun _ => q_field (m := 3) fo_45_3 hE1_1 rfl⟩) ?_
        refine Wr.take (v := Value.int .i64 o.more) 9 rfl (by kernel_rfl) (fun _ h => st_take [0] h) (.inl ⟨rfl, q_load sc_3 rfl (.cel (i := 0) rfl rfl)⟩) ?_
        refine Wr.e 10 (by kernel_rfl) rfl (e_call (F := (pt b1 45 [Value.int .i64 o.kind, Value.int .i64 o.at_, Value.int .u8 ((o.b : Nat) : Int), Value.int .i64 o.more, Value.int .i64 o.bits]) :: F) (args := [Value.int .u8 ((o.b : Nat) : Int), Value.int .i64 o.more]) Try.call21 rfl (filled_c W0 o.b (by first | decide | assumption | omega) o.more)) (.inr fun _ _ _ h => st_take [0] h) (fun _ _ => ?_)
        refine Wr.imp (L' := (pt b1 45 [Value.int .i64 o.kind, Value.int .i64 o.at_, Value.int .u8 ((o.b : Nat) : Int), Value.int .i64 o.more, Value.int .i64 o.bits]) :: F) (fun _ h => h) ?_
        refine Wr.e 11 (by kernel_rfl) rfl (e_call (F := (pt b1 45 [Value.int .i64 o.kind, Value.int .i64 o.at_, Value.int .u8 ((o.b : Nat) : Int), Value.int .i64 o.more, Value.int .i64 o.bits]) :: F) (args := [Value.pointer none, Value.int .i64 o.at_, Value.string (filled o.b o.more)]) Try.call13 rfl (write_on_nil W0 o.at_ (filled o.b o.more))) (.inr fun _ _ _ h => st_take [0] h) (fun _ _ => ?_)
        refine Wr.imp (L' := (pt b1 45 [Value.int .i64 o.kind, Value.int .i64 o.at_, Value.int .u8 ((o.b : Nat) : Int), Value.int .i64 o.more, Value.int .i64 o.bits]) :: F) (fun _ h => h) ?_
        refine Wr.pure (v := Value.bool false) 12 rfl (by kernel_rfl) (.inr (fun _ h => st_take [0] h)) (.inl ⟨rfl, fun _ => q_neq (r := true) rfl rfl (decide_eq_true (by decide))⟩) ?_
        refine Wr.pure (v := Value.bool false) 13 rfl (by kernel_rfl) (.inr (fun _ h => st_take [0] h)) (.inl ⟨rfl, fun _ => q_pick (t := false) rfl rfl⟩) ?_
        refine Wr.pure (v := Value.bool false) 14 rfl (by kernel_rfl) (.inr (fun _ h => st_take [0] h)) (.inl ⟨rfl, fun _ => q_move rfl⟩) ?_
        refine Wr.pure (v := Value.pointer none) 15 rfl (by kernel_rfl) (.inr (fun _ h => st_take [0] h)) (.inl ⟨rfl, fun _ => q_move rfl⟩) ?_
        refine Wr.e 16 (by kernel_rfl) rfl (e_call (F := (pt b1 45 [Value.int .i64 o.kind, Value.int .i64 o.at_, Value.int .u8 ((o.b : Nat) : Int), Value.int .i64 o.more, Value.int .i64 o.bits]) :: F) (args := [Value.pointer none]) Try.call18 rfl (sync_on_nil W0 )) (.inr fun _ _ _ h => st_take [0] h) (fun _ _ => ?_)
        refine Wr.imp (L' := (pt b1 45 [Value.int .i64 o.kind, Value.int .i64 o.at_, Value.int .u8 ((o.b : Nat) : Int), Value.int .i64 o.more, Value.int .i64 o.bits]) :: F) (fun _ h => h) ?_
        refine Wr.pure (v := Value.bool false) 17 rfl (by kernel_rfl) (.inr (fun _ h => st_take [0] h)) (.inl ⟨rfl, fun _ => q_neq (r := true) rfl rfl (decide_eq_true (by decide))⟩) ?_
        refine Wr.pure (v := Value.bool false) 18 rfl (by kernel_rfl) (.inr (fun _ h => st_take [0] h)) (.inl ⟨rfl, fun _ => q_pick (t := false) rfl rfl⟩) ?_
        refine Wr.pure (v := Value.bool false) 19 rfl (by kernel_rfl) (.inr (fun _ h => st_take [0] h)) (.inl ⟨rfl, fun _ => q_move rfl⟩) ?_
        refine Wr.pure (v := Value.pointer none) 20 rfl (by kernel_rfl) (.inr (fun _ h => st_take [0] h)) (.inl ⟨rfl, fun _ => q_move rfl⟩) ?_
        refine Wr.pure (v := Value.pointer (some ⟨b1, 1, none⟩)) 21 rfl (by kernel_rfl) (.inr (fun _ h => st_take [0] h)) (.inl ⟨rfl, fun _ => q_field (m := 1) fo_45_1 hE1_1 rfl⟩) ?_
        refine Wr.take (v := Value.int .i64 o.at_) 22 rfl (by kernel_rfl) (fun _ h => st_take [0] h) (.inl ⟨rfl, q_load sc_3 rfl (.cel (i := 0) rfl rfl)⟩) ?_
        refine Wr.pure (v := Value.pointer (some ⟨b1, 4, none⟩)) 23 rfl (by kernel_rfl) (.inr (fun _ h => st_take [0] h)) (.inl ⟨rfl, fun _ => q_field (m := 4) fo_45_4 hE1_1 rfl⟩) ?_
        refine Wr.take (v := Value.int .i64 o.bits) 24 rfl (by kernel_rfl) (fun _ h => st_take [0] h) (.inl ⟨rfl, q_load sc_2 rfl (.cel (i := 0) rfl rfl)⟩) ?_
        refine Wr.e 25 (by kernel_rfl) rfl (e_call (F := (pt b1 45 [Value.int .i64 o.kind, Value.int .i64 o.at_, Value.int .u8 ((o.b : Nat) : Int), Value.int .i64 o.more, Value.int .i64 o.bits]) :: F) (args := [Value.pointer none, Value.int .i64 o.at_, Value.int .i64 o.bits]) Try.call20 rfl (cut_on_nil W0 o.at_ o.bits)) (.inr fun _ _ _ h => st_take [0] h) (fun _ _ => ?_)
        refine Wr.imp (L' := (pt b1 45 [Value.int .i64 o.kind, Value.int .i64 o.at_, Value.int .u8 ((o.b : Nat) : Int), Value.int .i64 o.more, Value.int .i64 o.bits]) :: F) (fun _ h => h) ?_
        refine Wr.pure (v := Value.bool false) 26 rfl (by kernel_rfl) (.inr (fun _ h => st_take [0] h)) (.inl ⟨rfl, fun _ => q_neq (r := true) rfl rfl (decide_eq_true (by decide))⟩) ?_
        refine Wr.pure (v := Value.bool false) 27 rfl (by kernel_rfl) (.inr (fun _ h => st_take [0] h)) (.inl ⟨rfl, fun _ => q_pick (t := false) rfl rfl⟩) ?_
        refine Wr.pure (v := Value.bool false) 28 rfl (by kernel_rfl) (.inr (fun _ h => st_take [0] h)) (.inl ⟨rfl, fun _ => q_move rfl⟩) ?_
        refine Wr.pure (v := Value.pointer none) 29 rfl (by kernel_rfl) (.inr (fun _ h => st_take [0] h)) (.inl ⟨rfl, fun _ => q_move rfl⟩) ?_
        refine Wr.pure (v := Value.pointer (some ⟨b1, 4, none⟩)) 30 rfl (by kernel_rfl) (.inr (fun _ h => st_take [0] h)) (.inl ⟨rfl, fun _ => q_field (m := 4) fo_45_4 hE1_1 rfl⟩) ?_
        refine Wr.take (v := Value.int .i64 o.bits) 31 rfl (by kernel_rfl) (fun _ h => st_take [0] h) (.inl ⟨rfl, q_load sc_2 rfl (.cel (i := 0) rfl rfl)⟩) ?_
        refine Wr.e 32 (by kernel_rfl) rfl (e_call (F := (pt b1 45 [Value.int .i64 o.kind, Value.int .i64 o.at_, Value.int .u8 ((o.b : Nat) : Int), Value.int .i64 o.more, Value.int .i64 o.bits]) :: F) (args := [Value.pointer none, Value.int .i64 o.bits]) Try.call14 rfl (crash_on_nil W0 o.bits)) (.inr fun _ _ _ h => st_take [0] h) (fun _ _ => ?_)
        refine Wr.imp (L' := (pt b1 45 [Value.int .i64 o.kind, Value.int .i64 o.at_, Value.int .u8 ((o.b : Nat) : Int), Value.int .i64 o.more, Value.int .i64 o.bits]) :: F) (fun _ h => h) ?_
        refine Wr.pure (v := Value.bool false) 33 rfl (by kernel_rfl) (.inr (fun _ h => st_take [0] h)) (.inl ⟨rfl, fun _ => q_neq (r := true) rfl rfl (decide_eq_true (by decide))⟩) ?_
        refine Wr.pure (v := Value.bool false) 34 rfl (by kernel_rfl) (.inr (fun _ h => st_take [0] h)) (.inl ⟨rfl, fun _ => q_pick (t := false) rfl rfl⟩) ?_
        refine Wr.pure (v := Value.bool false) 35 rfl (by kernel_rfl) (.inr (fun _ h => st_take [0] h)) (.inl ⟨rfl, fun _ => q_move rfl⟩) ?_
        refine Wr.pure (v := Value.pointer none) 36 rfl (by kernel_rfl) (.inr (fun _ h => st_take [0] h)) (.inl ⟨rfl, fun _ => q_move rfl⟩) ?_
        refine Wr.e 37 (by kernel_rfl) rfl (e_call (F := (pt b1 45 [Value.int .i64 o.kind, Value.int .i64 o.at_, Value.int .u8 ((o.b : Nat) : Int), Value.int .i64 o.more, Value.int .i64 o.bits]) :: F) (args := [Value.pointer none]) Try.call15 rfl (start_on_nil W0 )) (.inr fun _ _ _ h => st_take [0] h) (fun _ _ => ?_)
        refine Wr.imp (L' := (pt b1 45 [Value.int .i64 o.kind, Value.int .i64 o.at_, Value.int .u8 ((o.b : Nat) : Int), Value.int .i64 o.more, Value.int .i64 o.bits]) :: F) (fun _ h => h) ?_
        refine Wr.pure (v := Value.bool false) 38 rfl (by kernel_rfl) (.inr (fun _ h => st_take [0] h)) (.inl ⟨rfl, fun _ => q_neq (r := true) rfl rfl (decide_eq_true (by decide))⟩) ?_
        refine Wr.pure (v := Value.bool false) 39 rfl (by kernel_rfl) (.inr (fun _ h => st_take [0] h)) (.inl ⟨rfl, fun _ => q_pick (t := false) rfl rfl⟩) ?_
        refine Wr.pure (v := Value.bool false) 40 rfl (by kernel_rfl) (.inr (fun _ h => st_take [0] h)) (.inl ⟨rfl, fun _ => q_move rfl⟩) ?_
        refine Wr.pure (v := Value.pointer none) 41 rfl (by kernel_rfl) (.inr (fun _ h => st_take [0] h)) (.inl ⟨rfl, fun _ => q_move rfl⟩) ?_
        refine Wr.e 42 (by kernel_rfl) rfl (e_call (F := (pt b1 45 [Value.int .i64 o.kind, Value.int .i64 o.at_, Value.int .u8 ((o.b : Nat) : Int), Value.int .i64 o.more, Value.int .i64 o.bits]) :: F) (args := [Value.pointer none]) Try.call22 rfl (up_on_nil W0 )) (.inr fun _ _ _ h => st_take [0] h) (fun _ _ => ?_)
        refine Wr.imp (L' := (pt b1 45 [Value.int .i64 o.kind, Value.int .i64 o.at_, Value.int .u8 ((o.b : Nat) : Int), Value.int .i64 o.more, Value.int .i64 o.bits]) :: F) (fun _ h => h) ?_
        refine Wr.pure (v := Value.bool false) 43 rfl (by kernel_rfl) (.inr (fun _ h => st_take [0] h)) (.inl ⟨rfl, fun _ => q_pick (t := false) rfl rfl⟩) ?_
        refine Wr.pure (v := Value.bool false) 44 rfl (by kernel_rfl) (.inr (fun _ h => st_take [0] h)) (.inl ⟨rfl, fun _ => q_move rfl⟩) ?_
        refine Wr.pure (v := Value.pointer none) 45 rfl (by kernel_rfl) (.inr (fun _ h => st_take [0] h)) (.inl ⟨rfl, fun _ => q_move rfl⟩) ?_
        refine Wr.e 46 (by kernel_rfl) rfl (e_call (F := (pt b1 45 [Value.int .i64 o.kind, Value.int .i64 o.at_, Value.int .u8 ((o.b : Nat) : Int), Value.int .i64 o.more, Value.int .i64 o.bits]) :: F) (args := [Value.pointer none]) Try.call26 rfl (len_on_nil W0 )) (.inr fun _ _ _ h => st_take [0] h) (fun _ _ => ?_)
        refine Wr.imp (L' := (pt b1 45 [Value.int .i64 o.kind, Value.int .i64 o.at_, Value.int .u8 ((o.b : Nat) : Int), Value.int .i64 o.more, Value.int .i64 o.bits]) :: F) (fun _ h => h) ?_
        refine Wr.pure (v := Value.bool false) 47 rfl (by kernel_rfl) (.inr (fun _ h => st_take [0] h)) (.inl ⟨rfl, fun _ => q_neq (r := true) rfl rfl (decide_eq_true (by decide))⟩) ?_
        refine Wr.pure (v := Value.bool false) 48 rfl (by kernel_rfl) (.inr (fun _ h => st_take [0] h)) (.inl ⟨rfl, fun _ => q_pick (t := false) rfl rfl⟩) ?_
        refine Wr.pure (v := Value.bool false) 49 rfl (by kernel_rfl) (.inr (fun _ h => st_take [0] h)) (.inl ⟨rfl, fun _ => q_move rfl⟩) ?_
        refine Wr.pure (v := Value.pointer none) 50 rfl (by kernel_rfl) (.inr (fun _ h => st_take [0] h)) (.inl ⟨rfl, fun _ => q_move rfl⟩) ?_
        refine Wr.e 51 (by kernel_rfl) rfl (e_call (F := (pt b1 45 [Value.int .i64 o.kind, Value.int .i64 o.at_, Value.int .u8 ((o.b : Nat) : Int), Value.int .i64 o.more, Value.int .i64 o.bits]) :: F) (args := [Value.pointer none]) Try.call23 rfl (count_on_nil W0 )) (.inr fun _ _ _ h => st_take [0] h) (fun _ _ => ?_)
        refine Wr.imp (L' := (pt b1 45 [Value.int .i64 o.kind, Value.int .i64 o.at_, Value.int .u8 ((o.b : Nat) : Int), Value.int .i64 o.more, Value.int .i64 o.bits]) :: F) (fun _ h => h) ?_
        refine Wr.pure (v := Value.bool false) 52 rfl (by kernel_rfl) (.inr (fun _ h => st_take [0] h)) (.inl ⟨rfl, fun _ => q_neq (r := true) rfl rfl (decide_eq_true (by decide))⟩) ?_
        refine Wr.pure (v := Value.bool false) 53 rfl (by kernel_rfl) (.inr (fun _ h => st_take [0] h)) (.inl ⟨rfl, fun _ => q_pick (t := false) rfl rfl⟩) ?_
        refine Wr.pure (v := Value.bool false) 54 rfl (by kernel_rfl) (.inr (fun _ h => st_take [0] h)) (.inl ⟨rfl, fun _ => q_move rfl⟩) ?_
        refine Wr.pure (v := Value.pointer none) 55 rfl (by kernel_rfl) (.inr (fun _ h => st_take [0] h)) (.inl ⟨rfl, fun _ => q_move rfl⟩) ?_
        refine Wr.e 56 (by kernel_rfl) rfl (e_call (F := (pt b1 45 [Value.int .i64 o.kind, Value.int .i64 o.at_, Value.int .u8 ((o.b : Nat) : Int), Value.int .i64 o.more, Value.int .i64 o.bits]) :: F) (args := [Value.pointer none]) Try.call19 rfl (unsynced_on_nil W0 )) (.inr fun _ _ _ h => st_take [0] h) (fun _ _ => ?_)
        refine Wr.imp (L' := (pt b1 45 [Value.int .i64 o.kind, Value.int .i64 o.at_, Value.int .u8 ((o.b : Nat) : Int), Value.int .i64 o.more, Value.int .i64 o.bits]) :: F) (fun _ h => h) ?_
        refine Wr.pure (v := Value.bool false) 57 rfl (by kernel_rfl) (.inr (fun _ h => st_take [0] h)) (.inl ⟨rfl, fun _ => q_neq (r := true) rfl rfl (decide_eq_true (by decide))⟩) ?_
        refine Wr.pure (v := Value.bool false) 58 rfl (by kernel_rfl) (.inr (fun _ h => st_take [0] h)) (.inl ⟨rfl, fun _ => q_pick (t := false) rfl rfl⟩) ?_
        refine Wr.done (by kernel_rfl) ?_
        refine Wx.go ?_
        refine Wc.no rfl ?_
        refine Wc.skip ?_
        refine Wx.blockEnd ?_
        refine Wx.go ?_
        refine Wc.region ?_
        refine Wl.q (v := Value.int .i64 ((i : Nat) : Int)) (q_move hE4_1) ?_
        refine Wl.q (v := Value.int .i64 ((i + 1 : Nat) : Int)) (q_add (c := ((i + 1 : Nat) : Int)) rfl rfl (by rw [wrap_i64] <;> omega)) ?_
        refine Wl.q (v := Value.int .i64 ((i + 1 : Nat) : Int)) (q_assign rfl) ?_
        refine Wl.done ?_
        refine Wx.at (i + 1) ⟨(by omega), rfl, hE1_1, hE3_1, (by omega)⟩ (fun w hs => hs)
    ·
      refine Wl.q (v := Value.bool false) (q_lss (r := false) rfl rfl (decide_eq_false h4)) ?_
      refine Wl.done ?_
      refine Wx.go ?_
      refine Wc.no rfl ?_
      refine Wc.exit ?_
      refine Wx.thenExit ?_
      refine Wx.thenExit ?_
      refine Wx.out ?_
      refine Wx.go ?_
      refine Wc.seq ?_
      refine Wc.region ?_
      refine Wl.e (e_call (F := (pt b1 45 [Value.int .i64 o.kind, Value.int .i64 o.at_, Value.int .u8 ((o.b : Nat) : Int), Value.int .i64 o.more, Value.int .i64 o.bits]) :: F) (args := []) Try.call12 rfl (alive_c W0)) (fun _ _ => ?_)
      refine Wl.imp (L' := (pt b1 45 [Value.int .i64 o.kind, Value.int .i64 o.at_, Value.int .u8 ((o.b : Nat) : Int), Value.int .i64 o.more, Value.int .i64 o.bits]) :: F) (fun _ h => h) ?_
      refine Wl.q (v := Value.bool true) (q_assign rfl) ?_
      refine Wl.done ?_
      refine Wx.go ?_
      refine Wc.ret ?_
      refine Wx.fin1 rfl (.inl rfl) (fun w hs => ?_)
      exact ⟨(), trivial, rfl, (st_drop (st_pull [0] hs))⟩

end Go.Proofs.Ytbnglfbfgannhaa
