/- The wire: contracts of its calls. -/
import Derived.Test.YtlbanhhdoiidnaaWrI
namespace Go.Proofs.Ytlbanhhdoiidnaa
open Go Go.SL Go.Wr Go.RowKit
open Go.Dk (beyondF beyondB beyond_step beyond_le beyond_one beyond_two)
set_option linter.unusedVariables false
theorem ag_44 : aggSize Try.prog 44 = some 3 := by kernel_rfl
theorem zbyte_nil (W0 : World) (n : Int) :
    Con Try.prog W0 40 #[Value.pointer none, Value.int .i64 n] [] (X := Unit) (fun _ => True) (fun _ => Value.int .i64 2) (fun _ => []) := by
  refine Con.of (args := [Value.pointer none, Value.int .i64 n]) Try.func40 rfl Try.ntmps40 rfl (fun F => ?_)
  show Wc _ W0 _ _ _ _ _ (F)
  refine Wc.seq ?_
  refine Wc.region ?_
  refine Wl.q (v := Value.int .i64 0) (q_assign rfl) ?_
  refine Wl.done ?_
  refine Wx.go ?_
  refine Wc.seq ?_
  refine Wc.block ?_
  refine Wc.seq ?_
  refine Wc.region ?_
  refine Wl.q (v := Value.pointer none) (q_move rfl) ?_
  refine Wl.e (e_call (F := F) (args := [Value.pointer none]) Try.call27 rfl (wthere_nil W0)) (fun _ _ => ?_)
  refine Wl.imp (L' := F) (fun _ h => h) ?_
  refine Wl.q (v := Value.bool true) (q_not rfl rfl) ?_
  refine Wl.q (v := Value.bool true) (q_assign rfl) ?_
  refine Wl.done ?_
  refine Wx.go ?_
  refine Wc.yes rfl ?_
  refine Wc.seq ?_
  refine Wc.region ?_
  refine Wl.q (v := Value.int .i64 2) (q_assign rfl) ?_
  refine Wl.done ?_
  refine Wx.go ?_
  refine Wc.ret ?_
  refine Wx.blockRet ?_
  refine Wx.thenRet ?_
  refine Wx.fin1 rfl (.inl rfl) (fun w hs => ?_)
  exact ⟨(), trivial, rfl, hs⟩

theorem zbyte_zero (W0 : World) (q : Nat) (sv : Value) (n : Int) :
    Con Try.prog W0 40 #[Value.pointer (some ⟨q, 0, none⟩), Value.int .i64 n] [pt q 57 [Value.bool false, sv]] (X := Unit) (fun _ => True) (fun _ => Value.int .i64 2) (fun _ => [pt q 57 [Value.bool false, sv]]) := by
  refine Con.of (args := [Value.pointer (some ⟨q, 0, none⟩), Value.int .i64 n]) Try.func40 rfl Try.ntmps40 rfl (fun F => ?_)
  show Wc _ W0 _ _ _ _ _ ((pt q 57 [Value.bool false, sv]) :: F)
  refine Wc.seq ?_
  refine Wc.region ?_
  refine Wl.q (v := Value.int .i64 0) (q_assign rfl) ?_
  refine Wl.done ?_
  refine Wx.go ?_
  refine Wc.seq ?_
  refine Wc.block ?_
  refine Wc.seq ?_
  refine Wc.region ?_
  refine Wl.q (v := Value.pointer (some ⟨q, 0, none⟩)) (q_move rfl) ?_
  refine Wl.e (e_call (F := F) (args := [Value.pointer (some ⟨q, 0, none⟩)]) Try.call27 rfl (wthere_no W0 q (sv))) (fun _ _ => ?_)
  refine Wl.imp (L' := (pt q 57 [Value.bool false, sv]) :: F) (fun _ h => h) ?_
  refine Wl.q (v := Value.bool true) (q_not rfl rfl) ?_
  refine Wl.q (v := Value.bool true) (q_assign rfl) ?_
  refine Wl.done ?_
  refine Wx.go ?_
  refine Wc.yes rfl ?_
  refine Wc.seq ?_
  refine Wc.region ?_
  refine Wl.q (v := Value.int .i64 2) (q_assign rfl) ?_
  refine Wl.done ?_
  refine Wx.go ?_
  refine Wc.ret ?_
  refine Wx.blockRet ?_
  refine Wx.thenRet ?_
  refine Wx.fin1 rfl (.inl rfl) (fun w hs => ?_)
  exact ⟨(), trivial, rfl, hs⟩

theorem znum_nil (W0 : World) (n : Int) :
    Con Try.prog W0 11 #[Value.pointer none, Value.int .i64 n] [] (X := Unit) (fun _ => True) (fun _ => Value.int .i64 2) (fun _ => []) := by
  refine Con.of (args := [Value.pointer none, Value.int .i64 n]) Try.func11 rfl Try.ntmps11 rfl (fun F => ?_)
  show Wc _ W0 _ _ _ _ _ (F)
  refine Wc.seq ?_
  refine Wc.region ?_
  refine Wl.q (v := Value.int .i64 0) (q_assign rfl) ?_
  refine Wl.done ?_
  refine Wx.go ?_
  refine Wc.seq ?_
  refine Wc.seq ?_
  refine Wc.region ?_
  refine Wl.q (v := Value.pointer none) (q_move rfl) ?_
  refine Wl.e (e_call (F := F) (args := [Value.pointer none]) Try.call27 rfl (wthere_nil W0)) (fun _ _ => ?_)
  refine Wl.imp (L' := F) (fun _ h => h) ?_
  refine Wl.q (v := Value.bool true) (q_not rfl rfl) ?_
  refine Wl.done ?_
  refine Wx.go ?_
  refine Wc.yes rfl ?_
  refine Wc.seq ?_
  refine Wc.region ?_
  refine Wl.q (v := Value.int .i64 2) (q_assign rfl) ?_
  refine Wl.done ?_
  refine Wx.go ?_
  refine Wc.ret ?_
  refine Wx.thenRet ?_
  refine Wx.fin1 rfl (.inl rfl) (fun w hs => ?_)
  exact ⟨(), trivial, rfl, hs⟩

theorem znum_zero (W0 : World) (q : Nat) (sv : Value) (n : Int) :
    Con Try.prog W0 11 #[Value.pointer (some ⟨q, 0, none⟩), Value.int .i64 n] [pt q 57 [Value.bool false, sv]] (X := Unit) (fun _ => True) (fun _ => Value.int .i64 2) (fun _ => [pt q 57 [Value.bool false, sv]]) := by
  refine Con.of (args := [Value.pointer (some ⟨q, 0, none⟩), Value.int .i64 n]) Try.func11 rfl Try.ntmps11 rfl (fun F => ?_)
  show Wc _ W0 _ _ _ _ _ ((pt q 57 [Value.bool false, sv]) :: F)
  refine Wc.seq ?_
  refine Wc.region ?_
  refine Wl.q (v := Value.int .i64 0) (q_assign rfl) ?_
  refine Wl.done ?_
  refine Wx.go ?_
  refine Wc.seq ?_
  refine Wc.seq ?_
  refine Wc.region ?_
  refine Wl.q (v := Value.pointer (some ⟨q, 0, none⟩)) (q_move rfl) ?_
  refine Wl.e (e_call (F := F) (args := [Value.pointer (some ⟨q, 0, none⟩)]) Try.call27 rfl (wthere_no W0 q (sv))) (fun _ _ => ?_)
  refine Wl.imp (L' := (pt q 57 [Value.bool false, sv]) :: F) (fun _ h => h) ?_
  refine Wl.q (v := Value.bool true) (q_not rfl rfl) ?_
  refine Wl.done ?_
  refine Wx.go ?_
  refine Wc.yes rfl ?_
  refine Wc.seq ?_
  refine Wc.region ?_
  refine Wl.q (v := Value.int .i64 2) (q_assign rfl) ?_
  refine Wl.done ?_
  refine Wx.go ?_
  refine Wc.ret ?_
  refine Wx.thenRet ?_
  refine Wx.fin1 rfl (.inl rfl) (fun w hs => ?_)
  exact ⟨(), trivial, rfl, hs⟩

theorem ztext_nil (W0 : World) (t : ByteArray) :
    Con Try.prog W0 28 #[Value.pointer none, Value.string t] [] (X := Unit) (fun _ => True) (fun _ => Value.int .i64 2) (fun _ => []) := by
  refine Con.of (args := [Value.pointer none, Value.string t]) Try.func28 rfl Try.ntmps28 rfl (fun F => ?_)
  show Wc _ W0 _ _ _ _ _ (F)
  refine Wc.seq ?_
  refine Wc.region ?_
  refine Wl.q (v := Value.int .i64 0) (q_assign rfl) ?_
  refine Wl.done ?_
  refine Wx.go ?_
  refine Wc.seq ?_
  refine Wc.block ?_
  refine Wc.seq ?_
  refine Wc.region ?_
  refine Wl.q (v := Value.pointer none) (q_move rfl) ?_
  refine Wl.e (e_call (F := F) (args := [Value.pointer none]) Try.call27 rfl (wthere_nil W0)) (fun _ _ => ?_)
  refine Wl.imp (L' := F) (fun _ h => h) ?_
  refine Wl.q (v := Value.bool true) (q_not rfl rfl) ?_
  refine Wl.q (v := Value.bool true) (q_assign rfl) ?_
  refine Wl.done ?_
  refine Wx.go ?_
  refine Wc.yes rfl ?_
  refine Wc.seq ?_
  refine Wc.region ?_
  refine Wl.q (v := Value.int .i64 2) (q_assign rfl) ?_
  refine Wl.done ?_
  refine Wx.go ?_
  refine Wc.ret ?_
  refine Wx.blockRet ?_
  refine Wx.thenRet ?_
  refine Wx.fin1 rfl (.inl rfl) (fun w hs => ?_)
  exact ⟨(), trivial, rfl, hs⟩

theorem ztext_zero (W0 : World) (q : Nat) (sv : Value) (t : ByteArray) :
    Con Try.prog W0 28 #[Value.pointer (some ⟨q, 0, none⟩), Value.string t] [pt q 57 [Value.bool false, sv]] (X := Unit) (fun _ => True) (fun _ => Value.int .i64 2) (fun _ => [pt q 57 [Value.bool false, sv]]) := by
  refine Con.of (args := [Value.pointer (some ⟨q, 0, none⟩), Value.string t]) Try.func28 rfl Try.ntmps28 rfl (fun F => ?_)
  show Wc _ W0 _ _ _ _ _ ((pt q 57 [Value.bool false, sv]) :: F)
  refine Wc.seq ?_
  refine Wc.region ?_
  refine Wl.q (v := Value.int .i64 0) (q_assign rfl) ?_
  refine Wl.done ?_
  refine Wx.go ?_
  refine Wc.seq ?_
  refine Wc.block ?_
  refine Wc.seq ?_
  refine Wc.region ?_
  refine Wl.q (v := Value.pointer (some ⟨q, 0, none⟩)) (q_move rfl) ?_
  refine Wl.e (e_call (F := F) (args := [Value.pointer (some ⟨q, 0, none⟩)]) Try.call27 rfl (wthere_no W0 q (sv))) (fun _ _ => ?_)
  refine Wl.imp (L' := (pt q 57 [Value.bool false, sv]) :: F) (fun _ h => h) ?_
  refine Wl.q (v := Value.bool true) (q_not rfl rfl) ?_
  refine Wl.q (v := Value.bool true) (q_assign rfl) ?_
  refine Wl.done ?_
  refine Wx.go ?_
  refine Wc.yes rfl ?_
  refine Wc.seq ?_
  refine Wc.region ?_
  refine Wl.q (v := Value.int .i64 2) (q_assign rfl) ?_
  refine Wl.done ?_
  refine Wx.go ?_
  refine Wc.ret ?_
  refine Wx.blockRet ?_
  refine Wx.thenRet ?_
  refine Wx.fin1 rfl (.inl rfl) (fun w hs => ?_)
  exact ⟨(), trivial, rfl, hs⟩

theorem zlist_nil (W0 : World) (n : Int) :
    Con Try.prog W0 42 #[Value.pointer none, Value.int .i64 n] [] (X := Unit) (fun _ => True) (fun _ => Value.int .i64 2) (fun _ => []) := by
  refine Con.of (args := [Value.pointer none, Value.int .i64 n]) Try.func42 rfl Try.ntmps42 rfl (fun F => ?_)
  show Wc _ W0 _ _ _ _ _ (F)
  refine Wc.seq ?_
  refine Wc.region ?_
  refine Wl.q (v := Value.int .i64 0) (q_assign rfl) ?_
  refine Wl.done ?_
  refine Wx.go ?_
  refine Wc.seq ?_
  refine Wc.block ?_
  refine Wc.seq ?_
  refine Wc.region ?_
  refine Wl.q (v := Value.pointer none) (q_move rfl) ?_
  refine Wl.e (e_call (F := F) (args := [Value.pointer none]) Try.call27 rfl (wthere_nil W0)) (fun _ _ => ?_)
  refine Wl.imp (L' := F) (fun _ h => h) ?_
  refine Wl.q (v := Value.bool true) (q_not rfl rfl) ?_
  refine Wl.q (v := Value.bool true) (q_assign rfl) ?_
  refine Wl.done ?_
  refine Wx.go ?_
  refine Wc.yes rfl ?_
  refine Wc.seq ?_
  refine Wc.region ?_
  refine Wl.q (v := Value.int .i64 2) (q_assign rfl) ?_
  refine Wl.done ?_
  refine Wx.go ?_
  refine Wc.ret ?_
  refine Wx.blockRet ?_
  refine Wx.thenRet ?_
  refine Wx.fin1 rfl (.inl rfl) (fun w hs => ?_)
  exact ⟨(), trivial, rfl, hs⟩

theorem zlist_zero (W0 : World) (q : Nat) (sv : Value) (n : Int) :
    Con Try.prog W0 42 #[Value.pointer (some ⟨q, 0, none⟩), Value.int .i64 n] [pt q 57 [Value.bool false, sv]] (X := Unit) (fun _ => True) (fun _ => Value.int .i64 2) (fun _ => [pt q 57 [Value.bool false, sv]]) := by
  refine Con.of (args := [Value.pointer (some ⟨q, 0, none⟩), Value.int .i64 n]) Try.func42 rfl Try.ntmps42 rfl (fun F => ?_)
  show Wc _ W0 _ _ _ _ _ ((pt q 57 [Value.bool false, sv]) :: F)
  refine Wc.seq ?_
  refine Wc.region ?_
  refine Wl.q (v := Value.int .i64 0) (q_assign rfl) ?_
  refine Wl.done ?_
  refine Wx.go ?_
  refine Wc.seq ?_
  refine Wc.block ?_
  refine Wc.seq ?_
  refine Wc.region ?_
  refine Wl.q (v := Value.pointer (some ⟨q, 0, none⟩)) (q_move rfl) ?_
  refine Wl.e (e_call (F := F) (args := [Value.pointer (some ⟨q, 0, none⟩)]) Try.call27 rfl (wthere_no W0 q (sv))) (fun _ _ => ?_)
  refine Wl.imp (L' := (pt q 57 [Value.bool false, sv]) :: F) (fun _ h => h) ?_
  refine Wl.q (v := Value.bool true) (q_not rfl rfl) ?_
  refine Wl.q (v := Value.bool true) (q_assign rfl) ?_
  refine Wl.done ?_
  refine Wx.go ?_
  refine Wc.yes rfl ?_
  refine Wc.seq ?_
  refine Wc.region ?_
  refine Wl.q (v := Value.int .i64 2) (q_assign rfl) ?_
  refine Wl.done ?_
  refine Wx.go ?_
  refine Wc.ret ?_
  refine Wx.blockRet ?_
  refine Wx.thenRet ?_
  refine Wx.fin1 rfl (.inl rfl) (fun w hs => ?_)
  exact ⟨(), trivial, rfl, hs⟩

theorem zbytes_nil (W0 : World)  :
    Con Try.prog W0 12 #[Value.pointer none] [] (X := Unit) (fun _ => True) (fun _ => Value.string (⟨#[]⟩ : ByteArray)) (fun _ => []) := by
  refine Con.of (args := [Value.pointer none]) Try.func12 rfl Try.ntmps12 rfl (fun F => ?_)
  show Wc _ W0 _ _ _ _ _ (F)
  refine Wc.seq ?_
  refine Wc.region ?_
  refine Wl.q (v := Value.string (⟨#[]⟩)) (q_assign rfl) ?_
  refine Wl.done ?_
  refine Wx.go ?_
  refine Wc.seq ?_
  refine Wc.seq ?_
  refine Wc.region ?_
  refine Wl.q (v := Value.pointer none) (q_move rfl) ?_
  refine Wl.e (e_call (F := F) (args := [Value.pointer none]) Try.call27 rfl (wthere_nil W0)) (fun _ _ => ?_)
  refine Wl.imp (L' := F) (fun _ h => h) ?_
  refine Wl.q (v := Value.bool true) (q_not rfl rfl) ?_
  refine Wl.done ?_
  refine Wx.go ?_
  refine Wc.yes rfl ?_
  refine Wc.seq ?_
  refine Wc.region ?_
  refine Wl.q (v := Value.string (⟨#[]⟩)) (q_assign rfl) ?_
  refine Wl.done ?_
  refine Wx.go ?_
  refine Wc.ret ?_
  refine Wx.thenRet ?_
  refine Wx.fin1 rfl (.inl rfl) (fun w hs => ?_)
  exact ⟨(), trivial, rfl, hs⟩

theorem zbytes_zero (W0 : World) (q : Nat) (sv : Value)  :
    Con Try.prog W0 12 #[Value.pointer (some ⟨q, 0, none⟩)] [pt q 57 [Value.bool false, sv]] (X := Unit) (fun _ => True) (fun _ => Value.string (⟨#[]⟩ : ByteArray)) (fun _ => [pt q 57 [Value.bool false, sv]]) := by
  refine Con.of (args := [Value.pointer (some ⟨q, 0, none⟩)]) Try.func12 rfl Try.ntmps12 rfl (fun F => ?_)
  show Wc _ W0 _ _ _ _ _ ((pt q 57 [Value.bool false, sv]) :: F)
  refine Wc.seq ?_
  refine Wc.region ?_
  refine Wl.q (v := Value.string (⟨#[]⟩)) (q_assign rfl) ?_
  refine Wl.done ?_
  refine Wx.go ?_
  refine Wc.seq ?_
  refine Wc.seq ?_
  refine Wc.region ?_
  refine Wl.q (v := Value.pointer (some ⟨q, 0, none⟩)) (q_move rfl) ?_
  refine Wl.e (e_call (F := F) (args := [Value.pointer (some ⟨q, 0, none⟩)]) Try.call27 rfl (wthere_no W0 q (sv))) (fun _ _ => ?_)
  refine Wl.imp (L' := (pt q 57 [Value.bool false, sv]) :: F) (fun _ h => h) ?_
  refine Wl.q (v := Value.bool true) (q_not rfl rfl) ?_
  refine Wl.done ?_
  refine Wx.go ?_
  refine Wc.yes rfl ?_
  refine Wc.seq ?_
  refine Wc.region ?_
  refine Wl.q (v := Value.string (⟨#[]⟩)) (q_assign rfl) ?_
  refine Wl.done ?_
  refine Wx.go ?_
  refine Wc.ret ?_
  refine Wx.thenRet ?_
  refine Wx.fin1 rfl (.inl rfl) (fun w hs => ?_)
  exact ⟨(), trivial, rfl, hs⟩

theorem zflagt_nil (W0 : World)  :
    Con Try.prog W0 41 #[Value.pointer none, Value.bool true] [] (X := Unit) (fun _ => True) (fun _ => .int .i64 2) (fun _ => []) := by
  refine Con.of (args := [Value.pointer none, Value.bool true]) Try.func41 rfl Try.ntmps41 rfl (fun F => ?_)
  show Wc _ W0 _ _ _ _ _ (F)
  refine Wc.seq ?_
  refine Wc.region ?_
  refine Wl.q (v := Value.int .i64 0) (q_assign rfl) ?_
  refine Wl.done ?_
  refine Wx.go ?_
  refine Wc.seq ?_
  refine Wc.seq ?_
  refine Wc.region ?_
  refine Wl.q (v := Value.bool true) (q_move rfl) ?_
  refine Wl.done ?_
  refine Wx.go ?_
  refine Wc.yes rfl ?_
  refine Wc.seq ?_
  refine Wc.region ?_
  refine Wl.q (v := Value.pointer none) (q_move rfl) ?_
  refine Wl.e (e_call (F := F) (args := [Value.pointer none, Value.int .i64 1]) Try.call40 rfl (zbyte_nil W0 1)) (fun _ _ => ?_)
  refine Wl.imp (L' := F) (fun _ h => h) ?_
  refine Wl.q (v := Value.int .i64 2) (q_assign rfl) ?_
  refine Wl.done ?_
  refine Wx.go ?_
  refine Wc.ret ?_
  refine Wx.thenRet ?_
  refine Wx.fin1 rfl (.inl rfl) (fun w hs => ?_)
  exact ⟨(), trivial, rfl, hs⟩

theorem zflagt_zero (W0 : World) (q : Nat) (sv : Value)  :
    Con Try.prog W0 41 #[Value.pointer (some ⟨q, 0, none⟩), Value.bool true] [pt q 57 [Value.bool false, sv]] (X := Unit) (fun _ => True) (fun _ => .int .i64 2) (fun _ => [pt q 57 [Value.bool false, sv]]) := by
  refine Con.of (args := [Value.pointer (some ⟨q, 0, none⟩), Value.bool true]) Try.func41 rfl Try.ntmps41 rfl (fun F => ?_)
  show Wc _ W0 _ _ _ _ _ ((pt q 57 [Value.bool false, sv]) :: F)
  refine Wc.seq ?_
  refine Wc.region ?_
  refine Wl.q (v := Value.int .i64 0) (q_assign rfl) ?_
  refine Wl.done ?_
  refine Wx.go ?_
  refine Wc.seq ?_
  refine Wc.seq ?_
  refine Wc.region ?_
  refine Wl.q (v := Value.bool true) (q_move rfl) ?_
  refine Wl.done ?_
  refine Wx.go ?_
  refine Wc.yes rfl ?_
  refine Wc.seq ?_
  refine Wc.region ?_
  refine Wl.q (v := Value.pointer (some ⟨q, 0, none⟩)) (q_move rfl) ?_
  refine Wl.e (e_call (F := F) (args := [Value.pointer (some ⟨q, 0, none⟩), Value.int .i64 1]) Try.call40 rfl (zbyte_zero W0 q sv 1)) (fun _ _ => ?_)
  refine Wl.imp (L' := (pt q 57 [Value.bool false, sv]) :: F) (fun _ h => h) ?_
  refine Wl.q (v := Value.int .i64 2) (q_assign rfl) ?_
  refine Wl.done ?_
  refine Wx.go ?_
  refine Wc.ret ?_
  refine Wx.thenRet ?_
  refine Wx.fin1 rfl (.inl rfl) (fun w hs => ?_)
  exact ⟨(), trivial, rfl, hs⟩

theorem zflagf_nil (W0 : World)  :
    Con Try.prog W0 41 #[Value.pointer none, Value.bool false] [] (X := Unit) (fun _ => True) (fun _ => .int .i64 2) (fun _ => []) := by
  refine Con.of (args := [Value.pointer none, Value.bool false]) Try.func41 rfl Try.ntmps41 rfl (fun F => ?_)
  show Wc _ W0 _ _ _ _ _ (F)
  refine Wc.seq ?_
  refine Wc.region ?_
  refine Wl.q (v := Value.int .i64 0) (q_assign rfl) ?_
  refine Wl.done ?_
  refine Wx.go ?_
  refine Wc.seq ?_
  refine Wc.seq ?_
  refine Wc.region ?_
  refine Wl.q (v := Value.bool false) (q_move rfl) ?_
  refine Wl.done ?_
  refine Wx.go ?_
  refine Wc.no rfl ?_
  refine Wc.skip ?_
  refine Wx.go ?_
  refine Wc.seq ?_
  refine Wc.region ?_
  refine Wl.q (v := Value.pointer none) (q_move rfl) ?_
  refine Wl.e (e_call (F := F) (args := [Value.pointer none, Value.int .i64 0]) Try.call40 rfl (zbyte_nil W0 0)) (fun _ _ => ?_)
  refine Wl.imp (L' := F) (fun _ h => h) ?_
  refine Wl.q (v := Value.int .i64 2) (q_assign rfl) ?_
  refine Wl.done ?_
  refine Wx.go ?_
  refine Wc.ret ?_
  refine Wx.fin1 rfl (.inl rfl) (fun w hs => ?_)
  exact ⟨(), trivial, rfl, hs⟩

theorem zflagf_zero (W0 : World) (q : Nat) (sv : Value)  :
    Con Try.prog W0 41 #[Value.pointer (some ⟨q, 0, none⟩), Value.bool false] [pt q 57 [Value.bool false, sv]] (X := Unit) (fun _ => True) (fun _ => .int .i64 2) (fun _ => [pt q 57 [Value.bool false, sv]]) := by
  refine Con.of (args := [Value.pointer (some ⟨q, 0, none⟩), Value.bool false]) Try.func41 rfl Try.ntmps41 rfl (fun F => ?_)
  show Wc _ W0 _ _ _ _ _ ((pt q 57 [Value.bool false, sv]) :: F)
  refine Wc.seq ?_
  refine Wc.region ?_
  refine Wl.q (v := Value.int .i64 0) (q_assign rfl) ?_
  refine Wl.done ?_
  refine Wx.go ?_
  refine Wc.seq ?_
  refine Wc.seq ?_
  refine Wc.region ?_
  refine Wl.q (v := Value.bool false) (q_move rfl) ?_
  refine Wl.done ?_
  refine Wx.go ?_
  refine Wc.no rfl ?_
  refine Wc.skip ?_
  refine Wx.go ?_
  refine Wc.seq ?_
  refine Wc.region ?_
  refine Wl.q (v := Value.pointer (some ⟨q, 0, none⟩)) (q_move rfl) ?_
  refine Wl.e (e_call (F := F) (args := [Value.pointer (some ⟨q, 0, none⟩), Value.int .i64 0]) Try.call40 rfl (zbyte_zero W0 q sv 0)) (fun _ _ => ?_)
  refine Wl.imp (L' := (pt q 57 [Value.bool false, sv]) :: F) (fun _ h => h) ?_
  refine Wl.q (v := Value.int .i64 2) (q_assign rfl) ?_
  refine Wl.done ?_
  refine Wx.go ?_
  refine Wc.ret ?_
  refine Wx.fin1 rfl (.inl rfl) (fun w hs => ?_)
  exact ⟨(), trivial, rfl, hs⟩

theorem zwrite_nil (W0 : World) (x : ItemR) :
    Con Try.prog W0 21 #[Value.pointer none, Value.agg #[Value.int .i64 x.kind, Value.int .i64 x.n, Value.string x.s]] [] (X := Unit) (fun _ => True) (fun _ => .int .i64 2) (fun _ => []) := by
  refine Con.of (args := [Value.pointer none, Value.agg #[Value.int .i64 x.kind, Value.int .i64 x.n, Value.string x.s]]) Try.func21 rfl Try.ntmps21 rfl (fun F => ?_)
  show Wc _ W0 _ _ _ _ _ (F)
  refine Wc.seq ?_
  refine Wc.region ?_
  refine Wl.e (e_box (x := .tmp 1) (vs := [Value.int .i64 x.kind, Value.int .i64 x.n, Value.string x.s]) rfl) (fun b1 _ => ?_)
  refine Wl.imp (L' := (pt b1 44 [Value.int .i64 x.kind, Value.int .i64 x.n, Value.string x.s]) :: F) (fun _ h => h) ?_
  refine Wl.q (v := Value.int .i64 0) (q_assign rfl) ?_
  refine Wl.done ?_
  refine Wx.go ?_
  refine Wc.seq ?_
  refine Wc.seq ?_
  refine Wc.region ?_
  refine Wl.q (v := Value.pointer (some ⟨b1, 0, none⟩)) (q_field (m := 0) fo_44_0 rfl rfl) ?_
  refine Wl.q (v := Value.int .i64 x.kind) (q_load sc_3 rfl (.cel (i := 0) rfl rfl)) ?_
  refine Wl.done ?_
  refine Wx.go ?_
  refine Wc.block ?_
  refine Wc.seq ?_
  refine Wc.region ?_
  by_cases h2 : x.kind = 0
  ·
    refine Wl.q (v := Value.bool true) (q_eql (r := true) rfl rfl (decide_eq_true h2)) ?_
    refine Wl.q (v := Value.bool true) (q_assign rfl) ?_
    refine Wl.done ?_
    refine Wx.go ?_
    refine Wc.yes rfl ?_
    refine Wc.seq ?_
    refine Wc.region ?_
    refine Wl.q (v := Value.pointer none) (q_move rfl) ?_
    refine Wl.q (v := Value.pointer (some ⟨b1, 1, none⟩)) (q_field (m := 1) fo_44_1 rfl rfl) ?_
    refine Wl.q (v := Value.int .i64 x.n) (q_load sc_2 rfl (.cel (i := 0) rfl rfl)) ?_
    refine Wl.e (e_call (F := (pt b1 44 [Value.int .i64 x.kind, Value.int .i64 x.n, Value.string x.s]) :: F) (args := [Value.pointer none, Value.int .i64 x.n]) Try.call40 rfl (zbyte_nil W0 x.n)) (fun _ _ => ?_)
    refine Wl.imp (L' := (pt b1 44 [Value.int .i64 x.kind, Value.int .i64 x.n, Value.string x.s]) :: F) (fun _ h => h) ?_
    refine Wl.q (v := Value.int .i64 2) (q_assign rfl) ?_
    refine Wl.done ?_
    refine Wx.go ?_
    refine Wc.ret ?_
    refine Wx.blockRet ?_
    refine Wx.thenRet ?_
    refine Wx.fin1 rfl (.inl rfl) (fun w hs => ?_)
    exact ⟨(), trivial, rfl, (st_drop (st_pull [0] hs))⟩
  ·
    refine Wl.q (v := Value.bool false) (q_eql (r := false) rfl rfl (decide_eq_false h2)) ?_
    refine Wl.q (v := Value.bool false) (q_assign rfl) ?_
    refine Wl.done ?_
    refine Wx.go ?_
    refine Wc.no rfl ?_
    refine Wc.seq ?_
    refine Wc.region ?_
    by_cases h3 : x.kind = 1
    ·
      refine Wl.q (v := Value.bool true) (q_eql (r := true) rfl rfl (decide_eq_true h3)) ?_
      refine Wl.q (v := Value.bool true) (q_assign rfl) ?_
      refine Wl.done ?_
      refine Wx.go ?_
      refine Wc.yes rfl ?_
      refine Wc.seq ?_
      refine Wc.region ?_
      refine Wl.q (v := Value.pointer none) (q_move rfl) ?_
      refine Wl.q (v := Value.pointer (some ⟨b1, 1, none⟩)) (q_field (m := 1) fo_44_1 rfl rfl) ?_
      refine Wl.q (v := Value.int .i64 x.n) (q_load sc_2 rfl (.cel (i := 0) rfl rfl)) ?_
      refine Wl.e (e_call (F := (pt b1 44 [Value.int .i64 x.kind, Value.int .i64 x.n, Value.string x.s]) :: F) (args := [Value.pointer none, Value.int .i64 x.n]) Try.call11 rfl (znum_nil W0 x.n)) (fun _ _ => ?_)
      refine Wl.imp (L' := (pt b1 44 [Value.int .i64 x.kind, Value.int .i64 x.n, Value.string x.s]) :: F) (fun _ h => h) ?_
      refine Wl.q (v := Value.int .i64 2) (q_assign rfl) ?_
      refine Wl.done ?_
      refine Wx.go ?_
      refine Wc.ret ?_
      refine Wx.blockRet ?_
      refine Wx.thenRet ?_
      refine Wx.fin1 rfl (.inl rfl) (fun w hs => ?_)
      exact ⟨(), trivial, rfl, (st_drop (st_pull [0] hs))⟩
    ·
      refine Wl.q (v := Value.bool false) (q_eql (r := false) rfl rfl (decide_eq_false h3)) ?_
      refine Wl.q (v := Value.bool false) (q_assign rfl) ?_
      refine Wl.done ?_
      refine Wx.go ?_
      refine Wc.no rfl ?_
      refine Wc.seq ?_
      refine Wc.region ?_
      by_cases h4 : x.kind = 2
      ·
        refine Wl.q (v := Value.bool true) (q_eql (r := true) rfl rfl (decide_eq_true h4)) ?_
        refine Wl.q (v := Value.bool true) (q_assign rfl) ?_
        refine Wl.done ?_
        refine Wx.go ?_
        refine Wc.yes rfl ?_
        refine Wc.seq ?_
        refine Wc.region ?_
        refine Wl.q (v := Value.pointer none) (q_move rfl) ?_
        refine Wl.q (v := Value.pointer (some ⟨b1, 1, none⟩)) (q_field (m := 1) fo_44_1 rfl rfl) ?_
        refine Wl.q (v := Value.int .i64 x.n) (q_load sc_2 rfl (.cel (i := 0) rfl rfl)) ?_
        by_cases h5 : x.n > 0
        ·
          refine Wl.q (v := Value.bool true) (q_gtr (r := true) rfl rfl (decide_eq_true h5)) ?_
          refine Wl.e (e_call (F := (pt b1 44 [Value.int .i64 x.kind, Value.int .i64 x.n, Value.string x.s]) :: F) (args := [Value.pointer none, Value.bool true]) Try.call41 rfl (zflagt_nil W0)) (fun _ _ => ?_)
          refine Wl.imp (L' := (pt b1 44 [Value.int .i64 x.kind, Value.int .i64 x.n, Value.string x.s]) :: F) (fun _ h => h) ?_
          refine Wl.q (v := Value.int .i64 2) (q_assign rfl) ?_
          refine Wl.done ?_
          refine Wx.go ?_
          refine Wc.ret ?_
          refine Wx.blockRet ?_
          refine Wx.thenRet ?_
          refine Wx.fin1 rfl (.inl rfl) (fun w hs => ?_)
          exact ⟨(), trivial, rfl, (st_drop (st_pull [0] hs))⟩
        ·
          refine Wl.q (v := Value.bool false) (q_gtr (r := false) rfl rfl (decide_eq_false h5)) ?_
          refine Wl.e (e_call (F := (pt b1 44 [Value.int .i64 x.kind, Value.int .i64 x.n, Value.string x.s]) :: F) (args := [Value.pointer none, Value.bool false]) Try.call41 rfl (zflagf_nil W0)) (fun _ _ => ?_)
          refine Wl.imp (L' := (pt b1 44 [Value.int .i64 x.kind, Value.int .i64 x.n, Value.string x.s]) :: F) (fun _ h => h) ?_
          refine Wl.q (v := Value.int .i64 2) (q_assign rfl) ?_
          refine Wl.done ?_
          refine Wx.go ?_
          refine Wc.ret ?_
          refine Wx.blockRet ?_
          refine Wx.thenRet ?_
          refine Wx.fin1 rfl (.inl rfl) (fun w hs => ?_)
          exact ⟨(), trivial, rfl, (st_drop (st_pull [0] hs))⟩
      ·
        refine Wl.q (v := Value.bool false) (q_eql (r := false) rfl rfl (decide_eq_false h4)) ?_
        refine Wl.q (v := Value.bool false) (q_assign rfl) ?_
        refine Wl.done ?_
        refine Wx.go ?_
        refine Wc.no rfl ?_
        refine Wc.seq ?_
        refine Wc.region ?_
        by_cases h6 : x.kind = 3
        ·
          refine Wl.q (v := Value.bool true) (q_eql (r := true) rfl rfl (decide_eq_true h6)) ?_
          refine Wl.q (v := Value.bool true) (q_assign rfl) ?_
          refine Wl.done ?_
          refine Wx.go ?_
          refine Wc.yes rfl ?_
          refine Wc.seq ?_
          refine Wc.region ?_
          refine Wl.q (v := Value.pointer none) (q_move rfl) ?_
          refine Wl.q (v := Value.pointer (some ⟨b1, 2, none⟩)) (q_field (m := 2) fo_44_2 rfl rfl) ?_
          refine Wl.q (v := Value.string x.s) (q_load sc_9 rfl (.cel (i := 0) rfl rfl)) ?_
          refine Wl.e (e_call (F := (pt b1 44 [Value.int .i64 x.kind, Value.int .i64 x.n, Value.string x.s]) :: F) (args := [Value.pointer none, Value.string x.s]) Try.call28 rfl (ztext_nil W0 x.s)) (fun _ _ => ?_)
          refine Wl.imp (L' := (pt b1 44 [Value.int .i64 x.kind, Value.int .i64 x.n, Value.string x.s]) :: F) (fun _ h => h) ?_
          refine Wl.q (v := Value.int .i64 2) (q_assign rfl) ?_
          refine Wl.done ?_
          refine Wx.go ?_
          refine Wc.ret ?_
          refine Wx.blockRet ?_
          refine Wx.thenRet ?_
          refine Wx.fin1 rfl (.inl rfl) (fun w hs => ?_)
          exact ⟨(), trivial, rfl, (st_drop (st_pull [0] hs))⟩
        ·
          refine Wl.q (v := Value.bool false) (q_eql (r := false) rfl rfl (decide_eq_false h6)) ?_
          refine Wl.q (v := Value.bool false) (q_assign rfl) ?_
          refine Wl.done ?_
          refine Wx.go ?_
          refine Wc.no rfl ?_
          refine Wc.skip ?_
          refine Wx.blockEnd ?_
          refine Wx.go ?_
          refine Wc.seq ?_
          refine Wc.region ?_
          refine Wl.q (v := Value.pointer none) (q_move rfl) ?_
          refine Wl.q (v := Value.pointer (some ⟨b1, 1, none⟩)) (q_field (m := 1) fo_44_1 rfl rfl) ?_
          refine Wl.q (v := Value.int .i64 x.n) (q_load sc_2 rfl (.cel (i := 0) rfl rfl)) ?_
          refine Wl.e (e_call (F := (pt b1 44 [Value.int .i64 x.kind, Value.int .i64 x.n, Value.string x.s]) :: F) (args := [Value.pointer none, Value.int .i64 x.n]) Try.call42 rfl (zlist_nil W0 x.n)) (fun _ _ => ?_)
          refine Wl.imp (L' := (pt b1 44 [Value.int .i64 x.kind, Value.int .i64 x.n, Value.string x.s]) :: F) (fun _ h => h) ?_
          refine Wl.q (v := Value.int .i64 2) (q_assign rfl) ?_
          refine Wl.done ?_
          refine Wx.go ?_
          refine Wc.ret ?_
          refine Wx.fin1 rfl (.inl rfl) (fun w hs => ?_)
          exact ⟨(), trivial, rfl, (st_drop (st_pull [0] hs))⟩

theorem zwrite_zero (W0 : World) (q : Nat) (sv : Value) (x : ItemR) :
    Con Try.prog W0 21 #[Value.pointer (some ⟨q, 0, none⟩), Value.agg #[Value.int .i64 x.kind, Value.int .i64 x.n, Value.string x.s]] [pt q 57 [Value.bool false, sv]] (X := Unit) (fun _ => True) (fun _ => .int .i64 2) (fun _ => [pt q 57 [Value.bool false, sv]]) := by
  refine Con.of (args := [Value.pointer (some ⟨q, 0, none⟩), Value.agg #[Value.int .i64 x.kind, Value.int .i64 x.n, Value.string x.s]]) Try.func21 rfl Try.ntmps21 rfl (fun F => ?_)
  show Wc _ W0 _ _ _ _ _ ((pt q 57 [Value.bool false, sv]) :: F)
  refine Wc.seq ?_
  refine Wc.region ?_
  refine Wl.e (e_box (x := .tmp 1) (vs := [Value.int .i64 x.kind, Value.int .i64 x.n, Value.string x.s]) rfl) (fun b1 _ => ?_)
  refine Wl.imp (L' := (pt b1 44 [Value.int .i64 x.kind, Value.int .i64 x.n, Value.string x.s]) :: (pt q 57 [Value.bool false, sv]) :: F) (fun _ h => h) ?_
  refine Wl.q (v := Value.int .i64 0) (q_assign rfl) ?_
  refine Wl.done ?_
  refine Wx.go ?_
  refine Wc.seq ?_
  refine Wc.seq ?_
  refine Wc.region ?_
  refine Wl.q (v := Value.pointer (some ⟨b1, 0, none⟩)) (q_field (m := 0) fo_44_0 rfl rfl) ?_
  refine Wl.q (v := Value.int .i64 x.kind) (q_load sc_3 rfl (.cel (i := 0) rfl rfl)) ?_
  refine Wl.done ?_
  refine Wx.go ?_
  refine Wc.block ?_
  refine Wc.seq ?_
  refine Wc.region ?_
  by_cases h2 : x.kind = 0
  ·
    refine Wl.q (v := Value.bool true) (q_eql (r := true) rfl rfl (decide_eq_true h2)) ?_
    refine Wl.q (v := Value.bool true) (q_assign rfl) ?_
    refine Wl.done ?_
    refine Wx.go ?_
    refine Wc.yes rfl ?_
    refine Wc.seq ?_
    refine Wc.region ?_
    refine Wl.q (v := Value.pointer (some ⟨q, 0, none⟩)) (q_move rfl) ?_
    refine Wl.q (v := Value.pointer (some ⟨b1, 1, none⟩)) (q_field (m := 1) fo_44_1 rfl rfl) ?_
    refine Wl.q (v := Value.int .i64 x.n) (q_load sc_2 rfl (.cel (i := 0) rfl rfl)) ?_
    refine Wl.imp (L' := (pt q 57 [Value.bool false, sv]) :: (pt b1 44 [Value.int .i64 x.kind, Value.int .i64 x.n, Value.string x.s]) :: F) (fun _ h => st_pull [1] h) ?_
    refine Wl.e (e_call (F := (pt b1 44 [Value.int .i64 x.kind, Value.int .i64 x.n, Value.string x.s]) :: F) (args := [Value.pointer (some ⟨q, 0, none⟩), Value.int .i64 x.n]) Try.call40 rfl (zbyte_zero W0 q sv x.n)) (fun _ _ => ?_)
    refine Wl.imp (L' := (pt q 57 [Value.bool false, sv]) :: (pt b1 44 [Value.int .i64 x.kind, Value.int .i64 x.n, Value.string x.s]) :: F) (fun _ h => h) ?_
    refine Wl.q (v := Value.int .i64 2) (q_assign rfl) ?_
    refine Wl.done ?_
    refine Wx.go ?_
    refine Wc.ret ?_
    refine Wx.blockRet ?_
    refine Wx.thenRet ?_
    refine Wx.fin1 rfl (.inl rfl) (fun w hs => ?_)
    exact ⟨(), trivial, rfl, (st_drop (st_pull [1] hs))⟩
  ·
    refine Wl.q (v := Value.bool false) (q_eql (r := false) rfl rfl (decide_eq_false h2)) ?_
    refine Wl.q (v := Value.bool false) (q_assign rfl) ?_
    refine Wl.done ?_
    refine Wx.go ?_
    refine Wc.no rfl ?_
    refine Wc.seq ?_
    refine Wc.region ?_
    by_cases h3 : x.kind = 1
    ·
      refine Wl.q (v := Value.bool true) (q_eql (r := true) rfl rfl (decide_eq_true h3)) ?_
      refine Wl.q (v := Value.bool true) (q_assign rfl) ?_
      refine Wl.done ?_
      refine Wx.go ?_
      refine Wc.yes rfl ?_
      refine Wc.seq ?_
      refine Wc.region ?_
      refine Wl.q (v := Value.pointer (some ⟨q, 0, none⟩)) (q_move rfl) ?_
      refine Wl.q (v := Value.pointer (some ⟨b1, 1, none⟩)) (q_field (m := 1) fo_44_1 rfl rfl) ?_
      refine Wl.q (v := Value.int .i64 x.n) (q_load sc_2 rfl (.cel (i := 0) rfl rfl)) ?_
      refine Wl.imp (L' := (pt q 57 [Value.bool false, sv]) :: (pt b1 44 [Value.int .i64 x.kind, Value.int .i64 x.n, Value.string x.s]) :: F) (fun _ h => st_pull [1] h) ?_
      refine Wl.e (e_call (F := (pt b1 44 [Value.int .i64 x.kind, Value.int .i64 x.n, Value.string x.s]) :: F) (args := [Value.pointer (some ⟨q, 0, none⟩), Value.int .i64 x.n]) Try.call11 rfl (znum_zero W0 q sv x.n)) (fun _ _ => ?_)
      refine Wl.imp (L' := (pt q 57 [Value.bool false, sv]) :: (pt b1 44 [Value.int .i64 x.kind, Value.int .i64 x.n, Value.string x.s]) :: F) (fun _ h => h) ?_
      refine Wl.q (v := Value.int .i64 2) (q_assign rfl) ?_
      refine Wl.done ?_
      refine Wx.go ?_
      refine Wc.ret ?_
      refine Wx.blockRet ?_
      refine Wx.thenRet ?_
      refine Wx.fin1 rfl (.inl rfl) (fun w hs => ?_)
      exact ⟨(), trivial, rfl, (st_drop (st_pull [1] hs))⟩
    ·
      refine Wl.q (v := Value.bool false) (q_eql (r := false) rfl rfl (decide_eq_false h3)) ?_
      refine Wl.q (v := Value.bool false) (q_assign rfl) ?_
      refine Wl.done ?_
      refine Wx.go ?_
      refine Wc.no rfl ?_
      refine Wc.seq ?_
      refine Wc.region ?_
      by_cases h4 : x.kind = 2
      ·
        refine Wl.q (v := Value.bool true) (q_eql (r := true) rfl rfl (decide_eq_true h4)) ?_
        refine Wl.q (v := Value.bool true) (q_assign rfl) ?_
        refine Wl.done ?_
        refine Wx.go ?_
        refine Wc.yes rfl ?_
        refine Wc.seq ?_
        refine Wc.region ?_
        refine Wl.q (v := Value.pointer (some ⟨q, 0, none⟩)) (q_move rfl) ?_
        refine Wl.q (v := Value.pointer (some ⟨b1, 1, none⟩)) (q_field (m := 1) fo_44_1 rfl rfl) ?_
        refine Wl.q (v := Value.int .i64 x.n) (q_load sc_2 rfl (.cel (i := 0) rfl rfl)) ?_
        by_cases h5 : x.n > 0
        ·
          refine Wl.q (v := Value.bool true) (q_gtr (r := true) rfl rfl (decide_eq_true h5)) ?_
          refine Wl.imp (L' := (pt q 57 [Value.bool false, sv]) :: (pt b1 44 [Value.int .i64 x.kind, Value.int .i64 x.n, Value.string x.s]) :: F) (fun _ h => st_pull [1] h) ?_
          refine Wl.e (e_call (F := (pt b1 44 [Value.int .i64 x.kind, Value.int .i64 x.n, Value.string x.s]) :: F) (args := [Value.pointer (some ⟨q, 0, none⟩), Value.bool true]) Try.call41 rfl (zflagt_zero W0 q sv)) (fun _ _ => ?_)
          refine Wl.imp (L' := (pt q 57 [Value.bool false, sv]) :: (pt b1 44 [Value.int .i64 x.kind, Value.int .i64 x.n, Value.string x.s]) :: F) (fun _ h => h) ?_
          refine Wl.q (v := Value.int .i64 2) (q_assign rfl) ?_
          refine Wl.done ?_
          refine Wx.go ?_
          refine Wc.ret ?_
          refine Wx.blockRet ?_
          refine Wx.thenRet ?_
          refine Wx.fin1 rfl (.inl rfl) (fun w hs => ?_)
          exact ⟨(), trivial, rfl, (st_drop (st_pull [1] hs))⟩
        ·
          refine Wl.q (v := Value.bool false) (q_gtr (r := false) rfl rfl (decide_eq_false h5)) ?_
          refine Wl.imp (L' := (pt q 57 [Value.bool false, sv]) :: (pt b1 44 [Value.int .i64 x.kind, Value.int .i64 x.n, Value.string x.s]) :: F) (fun _ h => st_pull [1] h) ?_
          refine Wl.e (e_call (F := (pt b1 44 [Value.int .i64 x.kind, Value.int .i64 x.n, Value.string x.s]) :: F) (args := [Value.pointer (some ⟨q, 0, none⟩), Value.bool false]) Try.call41 rfl (zflagf_zero W0 q sv)) (fun _ _ => ?_)
          refine Wl.imp (L' := (pt q 57 [Value.bool false, sv]) :: (pt b1 44 [Value.int .i64 x.kind, Value.int .i64 x.n, Value.string x.s]) :: F) (fun _ h => h) ?_
          refine Wl.q (v := Value.int .i64 2) (q_assign rfl) ?_
          refine Wl.done ?_
          refine Wx.go ?_
          refine Wc.ret ?_
          refine Wx.blockRet ?_
          refine Wx.thenRet ?_
          refine Wx.fin1 rfl (.inl rfl) (fun w hs => ?_)
          exact ⟨(), trivial, rfl, (st_drop (st_pull [1] hs))⟩
      ·
        refine Wl.q (v := Value.bool false) (q_eql (r := false) rfl rfl (decide_eq_false h4)) ?_
        refine Wl.q (v := Value.bool false) (q_assign rfl) ?_
        refine Wl.done ?_
        refine Wx.go ?_
        refine Wc.no rfl ?_
        refine Wc.seq ?_
        refine Wc.region ?_
        by_cases h6 : x.kind = 3
        ·
          refine Wl.q (v := Value.bool true) (q_eql (r := true) rfl rfl (decide_eq_true h6)) ?_
          refine Wl.q (v := Value.bool true) (q_assign rfl) ?_
          refine Wl.done ?_
          refine Wx.go ?_
          refine Wc.yes rfl ?_
          refine Wc.seq ?_
          refine Wc.region ?_
          refine Wl.q (v := Value.pointer (some ⟨q, 0, none⟩)) (q_move rfl) ?_
          refine Wl.q (v := Value.pointer (some ⟨b1, 2, none⟩)) (q_field (m := 2) fo_44_2 rfl rfl) ?_
          refine Wl.q (v := Value.string x.s) (q_load sc_9 rfl (.cel (i := 0) rfl rfl)) ?_
          refine Wl.imp (L' := (pt q 57 [Value.bool false, sv]) :: (pt b1 44 [Value.int .i64 x.kind, Value.int .i64 x.n, Value.string x.s]) :: F) (fun _ h => st_pull [1] h) ?_
          refine Wl.e (e_call (F := (pt b1 44 [Value.int .i64 x.kind, Value.int .i64 x.n, Value.string x.s]) :: F) (args := [Value.pointer (some ⟨q, 0, none⟩), Value.string x.s]) Try.call28 rfl (ztext_zero W0 q sv x.s)) (fun _ _ => ?_)
          refine Wl.imp (L' := (pt q 57 [Value.bool false, sv]) :: (pt b1 44 [Value.int .i64 x.kind, Value.int .i64 x.n, Value.string x.s]) :: F) (fun _ h => h) ?_
          refine Wl.q (v := Value.int .i64 2) (q_assign rfl) ?_
          refine Wl.done ?_
          refine Wx.go ?_
          refine Wc.ret ?_
          refine Wx.blockRet ?_
          refine Wx.thenRet ?_
          refine Wx.fin1 rfl (.inl rfl) (fun w hs => ?_)
          exact ⟨(), trivial, rfl, (st_drop (st_pull [1] hs))⟩
        ·
          refine Wl.q (v := Value.bool false) (q_eql (r := false) rfl rfl (decide_eq_false h6)) ?_
          refine Wl.q (v := Value.bool false) (q_assign rfl) ?_
          refine Wl.done ?_
          refine Wx.go ?_
          refine Wc.no rfl ?_
          refine Wc.skip ?_
          refine Wx.blockEnd ?_
          refine Wx.go ?_
          refine Wc.seq ?_
          refine Wc.region ?_
          refine Wl.q (v := Value.pointer (some ⟨q, 0, none⟩)) (q_move rfl) ?_
          refine Wl.q (v := Value.pointer (some ⟨b1, 1, none⟩)) (q_field (m := 1) fo_44_1 rfl rfl) ?_
          refine Wl.q (v := Value.int .i64 x.n) (q_load sc_2 rfl (.cel (i := 0) rfl rfl)) ?_
          refine Wl.imp (L' := (pt q 57 [Value.bool false, sv]) :: (pt b1 44 [Value.int .i64 x.kind, Value.int .i64 x.n, Value.string x.s]) :: F) (fun _ h => st_pull [1] h) ?_
          refine Wl.e (e_call (F := (pt b1 44 [Value.int .i64 x.kind, Value.int .i64 x.n, Value.string x.s]) :: F) (args := [Value.pointer (some ⟨q, 0, none⟩), Value.int .i64 x.n]) Try.call42 rfl (zlist_zero W0 q sv x.n)) (fun _ _ => ?_)
          refine Wl.imp (L' := (pt q 57 [Value.bool false, sv]) :: (pt b1 44 [Value.int .i64 x.kind, Value.int .i64 x.n, Value.string x.s]) :: F) (fun _ h => h) ?_
          refine Wl.q (v := Value.int .i64 2) (q_assign rfl) ?_
          refine Wl.done ?_
          refine Wx.go ?_
          refine Wc.ret ?_
          refine Wx.fin1 rfl (.inl rfl) (fun w hs => ?_)
          exact ⟨(), trivial, rfl, (st_drop (st_pull [1] hs))⟩

theorem ztake_nil (W0 : World) (fv : Value) :
    Con Try.prog W0 43 #[Value.pointer none, fv] [] (X := Unit) (fun _ => True) (fun _ => .int .i64 2) (fun _ => []) := by
  refine Con.ofD (args := [Value.pointer none, fv]) Try.func43 rfl Try.ntmps43 rfl (fun F => ?_)
  show Wc _ W0 _ _ _ _ _ (F)
  refine Wc.seq ?_
  refine Wc.region ?_
  refine Wl.e (e_box (x := .tmp 0) (vs := [Value.pointer none]) rfl) (fun tb _ => ?_)
  refine Wl.imp (L' := (pt tb 31 [Value.pointer none]) :: F) (fun _ h => h) ?_
  refine Wl.e (e_alloc (vs := [Value.int .i64 0]) zo_24 rfl) (fun eb _ => ?_)
  refine Wl.imp (L' := (pt eb 24 [Value.int .i64 0]) :: (pt tb 31 [Value.pointer none]) :: F) (fun _ h => h) ?_
  refine Wl.done ?_
  refine Wx.go ?_
  refine Wc.seq ?_
  refine Wc.seq ?_
  refine Wc.region ?_
  refine Wl.q (v := Value.pointer none) (q_load sc_31 rfl (.cel (i := 1) rfl rfl)) ?_
  refine Wl.q (v := Value.bool true) (q_eql_nil (r := true) rfl rfl Try.underlying31 rfl) ?_
  refine Wl.q (v := Value.bool true) (q_move rfl) ?_
  refine Wl.no ?_
  refine Wl.no ?_
  refine Wl.no ?_
  refine Wl.no ?_
  refine Wl.no ?_
  refine Wl.q (v := Value.bool true) (q_pick (t := true) rfl rfl) ?_
  refine Wl.done ?_
  refine Wx.go ?_
  refine Wc.yes rfl ?_
  refine Wc.seq ?_
  refine Wc.region ?_
  refine Wl.e (e_store (i := 0) (v := Value.int .i64 2) sz_24 rfl rfl (fun _ _ => rfl) rfl (by simp)) (fun _ _ => ?_)
  refine Wl.imp (L' := (pt eb 24 [Value.int .i64 2]) :: (pt tb 31 [Value.pointer none]) :: F) (fun _ h => h) ?_
  refine Wl.done ?_
  refine Wx.go ?_
  refine Wc.ret ?_
  refine Wx.thenRet ?_
  refine Wx.finD0 rfl (.inl rfl) sc_24 rfl (.cel (i := 0) rfl rfl) (fun w hs => ?_)
  exact ⟨(), trivial, rfl, (st_drop (st_drop (st_pull [0, 0] hs)))⟩

theorem ztake_zero (W0 : World) (r : Nat) (s : ByteArray) (a : Nat) (fv : Value) :
    Con Try.prog W0 43 #[Value.pointer (some ⟨r, 0, none⟩), fv] [pt r 59 [Value.bool false, Value.string s, Value.int .i64 ((a : Nat) : Int)]] (X := Unit) (fun _ => True) (fun _ => .int .i64 2) (fun _ => [pt r 59 [Value.bool false, Value.string s, Value.int .i64 ((a : Nat) : Int)]]) := by
  refine Con.ofD (args := [Value.pointer (some ⟨r, 0, none⟩), fv]) Try.func43 rfl Try.ntmps43 rfl (fun F => ?_)
  show Wc _ W0 _ _ _ _ _ ((pt r 59 [Value.bool false, Value.string s, Value.int .i64 ((a : Nat) : Int)]) :: F)
  refine Wc.seq ?_
  refine Wc.region ?_
  refine Wl.e (e_box (x := .tmp 0) (vs := [Value.pointer (some ⟨r, 0, none⟩)]) rfl) (fun tb _ => ?_)
  refine Wl.imp (L' := (pt tb 31 [Value.pointer (some ⟨r, 0, none⟩)]) :: (pt r 59 [Value.bool false, Value.string s, Value.int .i64 ((a : Nat) : Int)]) :: F) (fun _ h => h) ?_
  refine Wl.e (e_alloc (vs := [Value.int .i64 0]) zo_24 rfl) (fun eb _ => ?_)
  refine Wl.imp (L' := (pt eb 24 [Value.int .i64 0]) :: (pt tb 31 [Value.pointer (some ⟨r, 0, none⟩)]) :: (pt r 59 [Value.bool false, Value.string s, Value.int .i64 ((a : Nat) : Int)]) :: F) (fun _ h => h) ?_
  refine Wl.done ?_
  refine Wx.go ?_
  refine Wc.seq ?_
  refine Wc.seq ?_
  refine Wc.region ?_
  refine Wl.q (v := Value.pointer (some ⟨r, 0, none⟩)) (q_load sc_31 rfl (.cel (i := 1) rfl rfl)) ?_
  refine Wl.q (v := Value.bool false) (q_eql_nil (r := false) rfl rfl Try.underlying31 rfl) ?_
  refine Wl.q (v := Value.bool false) (q_move rfl) ?_
  refine Wl.q (v := Value.pointer (some ⟨r, 0, none⟩)) (q_load sc_31 rfl (.cel (i := 1) rfl rfl)) ?_
  refine Wl.q (v := Value.pointer (some ⟨r, 0, none⟩)) (q_nil_ptr rfl) ?_
  refine Wl.q (v := Value.pointer (some ⟨r, 0, none⟩)) (q_field (m := 0) fo_59_0 rfl rfl) ?_
  refine Wl.q (v := Value.bool false) (q_load sc_4 rfl (.cel (i := 2) rfl rfl)) ?_
  refine Wl.q (v := Value.bool true) (q_not rfl rfl) ?_
  refine Wl.q (v := Value.bool true) (q_pick (t := false) rfl rfl) ?_
  refine Wl.done ?_
  refine Wx.go ?_
  refine Wc.yes rfl ?_
  refine Wc.seq ?_
  refine Wc.region ?_
  refine Wl.e (e_store (i := 0) (v := Value.int .i64 2) sz_24 rfl rfl (fun _ _ => rfl) rfl (by simp)) (fun _ _ => ?_)
  refine Wl.imp (L' := (pt eb 24 [Value.int .i64 2]) :: (pt tb 31 [Value.pointer (some ⟨r, 0, none⟩)]) :: (pt r 59 [Value.bool false, Value.string s, Value.int .i64 ((a : Nat) : Int)]) :: F) (fun _ h => h) ?_
  refine Wl.done ?_
  refine Wx.go ?_
  refine Wc.ret ?_
  refine Wx.thenRet ?_
  refine Wx.finD0 rfl (.inl rfl) sc_24 rfl (.cel (i := 0) rfl rfl) (fun w hs => ?_)
  exact ⟨(), trivial, rfl, (st_drop (st_drop (st_pull [0, 0] hs)))⟩

theorem zrbyte_nil (W0 : World)  :
    Con Try.prog W0 22 #[Value.pointer none] [] (X := Unit) (fun _ => True) (fun _ => Value.tuple #[Value.int .i64 0, Value.int .i64 2]) (fun _ => []) := by
  refine Con.of (args := [Value.pointer none]) Try.func22 rfl Try.ntmps22 rfl (fun F => ?_)
  show Wc _ W0 _ _ _ _ _ (F)
  refine Wc.seq ?_
  refine Wc.region ?_
  refine Wl.e (e_box (x := .tmp 0) (vs := [Value.pointer none]) rfl) (fun b1 _ => ?_)
  refine Wl.imp (L' := (pt b1 31 [Value.pointer none]) :: F) (fun _ h => h) ?_
  refine Wl.e (e_alloc (vs := [Value.int .i64 0]) zo_3 rfl) (fun b2 _ => ?_)
  refine Wl.imp (L' := (pt b2 3 [Value.int .i64 0]) :: (pt b1 31 [Value.pointer none]) :: F) (fun _ h => h) ?_
  refine Wl.q (v := Value.int .i64 0) (q_assign rfl) ?_
  refine Wl.done ?_
  refine Wx.go ?_
  refine Wc.seq ?_
  refine Wc.region ?_
  refine Wl.q (v := Value.pointer none) (q_load sc_31 rfl (.cel (i := 1) rfl rfl)) ?_
  refine Wl.q (v := Value.func (.func 44) #[] #[Value.pointer (some ⟨b1, 0, none⟩), Value.pointer (some ⟨b2, 0, none⟩)]) (q_makeFunc (us := []) (vs := [Value.pointer (some ⟨b1, 0, none⟩), Value.pointer (some ⟨b2, 0, none⟩)]) rfl rfl) ?_
  refine Wl.e (e_call (F := (pt b2 3 [Value.int .i64 0]) :: (pt b1 31 [Value.pointer none]) :: F) (args := [Value.pointer none, Value.func (.func 44) #[] #[Value.pointer (some ⟨b1, 0, none⟩), Value.pointer (some ⟨b2, 0, none⟩)]]) Try.call43 rfl (ztake_nil W0 (Value.func (.func 44) #[] #[Value.pointer (some ⟨b1, 0, none⟩), Value.pointer (some ⟨b2, 0, none⟩)]))) (fun _ _ => ?_)
  refine Wl.imp (L' := (pt b2 3 [Value.int .i64 0]) :: (pt b1 31 [Value.pointer none]) :: F) (fun _ h => h) ?_
  refine Wl.q (v := Value.int .i64 2) (q_assign rfl) ?_
  refine Wl.done ?_
  refine Wx.go ?_
  refine Wc.seq ?_
  refine Wc.region ?_
  refine Wl.q (v := Value.int .i64 0) (q_load sc_3 rfl (.cel (i := 0) rfl rfl)) ?_
  refine Wl.q (v := Value.int .i64 2) (q_move rfl) ?_
  refine Wl.e (e_store (i := 0) (v := Value.int .i64 0) sz_3 rfl rfl (fun _ _ => rfl) rfl (by simp)) (fun _ _ => ?_)
  refine Wl.imp (L' := (pt b2 3 [Value.int .i64 0]) :: (pt b1 31 [Value.pointer none]) :: F) (fun _ h => h) ?_
  refine Wl.q (v := Value.int .i64 2) (q_assign rfl) ?_
  refine Wl.done ?_
  refine Wx.go ?_
  refine Wc.ret ?_
  refine Wx.finC2 rfl (.inl rfl) sc_3 rfl (.cel (i := 0) rfl rfl) (fun w hs => ?_)
  exact ⟨(), trivial, rfl, (st_drop (st_drop (st_pull [0, 0] hs)))⟩

theorem zrbyte_zero (W0 : World) (r : Nat) (s : ByteArray) (a : Nat)  :
    Con Try.prog W0 22 #[Value.pointer (some ⟨r, 0, none⟩)] [pt r 59 [Value.bool false, Value.string s, Value.int .i64 ((a : Nat) : Int)]] (X := Unit) (fun _ => True) (fun _ => Value.tuple #[Value.int .i64 0, Value.int .i64 2]) (fun _ => [pt r 59 [Value.bool false, Value.string s, Value.int .i64 ((a : Nat) : Int)]]) := by
  refine Con.of (args := [Value.pointer (some ⟨r, 0, none⟩)]) Try.func22 rfl Try.ntmps22 rfl (fun F => ?_)
  show Wc _ W0 _ _ _ _ _ ((pt r 59 [Value.bool false, Value.string s, Value.int .i64 ((a : Nat) : Int)]) :: F)
  refine Wc.seq ?_
  refine Wc.region ?_
  refine Wl.e (e_box (x := .tmp 0) (vs := [Value.pointer (some ⟨r, 0, none⟩)]) rfl) (fun b1 _ => ?_)
  refine Wl.imp (L' := (pt b1 31 [Value.pointer (some ⟨r, 0, none⟩)]) :: (pt r 59 [Value.bool false, Value.string s, Value.int .i64 ((a : Nat) : Int)]) :: F) (fun _ h => h) ?_
  refine Wl.e (e_alloc (vs := [Value.int .i64 0]) zo_3 rfl) (fun b2 _ => ?_)
  refine Wl.imp (L' := (pt b2 3 [Value.int .i64 0]) :: (pt b1 31 [Value.pointer (some ⟨r, 0, none⟩)]) :: (pt r 59 [Value.bool false, Value.string s, Value.int .i64 ((a : Nat) : Int)]) :: F) (fun _ h => h) ?_
  refine Wl.q (v := Value.int .i64 0) (q_assign rfl) ?_
  refine Wl.done ?_
  refine Wx.go ?_
  refine Wc.seq ?_
  refine Wc.region ?_
  refine Wl.q (v := Value.pointer (some ⟨r, 0, none⟩)) (q_load sc_31 rfl (.cel (i := 1) rfl rfl)) ?_
  refine Wl.q (v := Value.func (.func 44) #[] #[Value.pointer (some ⟨b1, 0, none⟩), Value.pointer (some ⟨b2, 0, none⟩)]) (q_makeFunc (us := []) (vs := [Value.pointer (some ⟨b1, 0, none⟩), Value.pointer (some ⟨b2, 0, none⟩)]) rfl rfl) ?_
  refine Wl.imp (L' := (pt r 59 [Value.bool false, Value.string s, Value.int .i64 ((a : Nat) : Int)]) :: (pt b2 3 [Value.int .i64 0]) :: (pt b1 31 [Value.pointer (some ⟨r, 0, none⟩)]) :: F) (fun _ h => st_pull [2] h) ?_
  refine Wl.e (e_call (F := (pt b2 3 [Value.int .i64 0]) :: (pt b1 31 [Value.pointer (some ⟨r, 0, none⟩)]) :: F) (args := [Value.pointer (some ⟨r, 0, none⟩), Value.func (.func 44) #[] #[Value.pointer (some ⟨b1, 0, none⟩), Value.pointer (some ⟨b2, 0, none⟩)]]) Try.call43 rfl (ztake_zero W0 r s a (Value.func (.func 44) #[] #[Value.pointer (some ⟨b1, 0, none⟩), Value.pointer (some ⟨b2, 0, none⟩)]))) (fun _ _ => ?_)
  refine Wl.imp (L' := (pt r 59 [Value.bool false, Value.string s, Value.int .i64 ((a : Nat) : Int)]) :: (pt b2 3 [Value.int .i64 0]) :: (pt b1 31 [Value.pointer (some ⟨r, 0, none⟩)]) :: F) (fun _ h => h) ?_
  refine Wl.q (v := Value.int .i64 2) (q_assign rfl) ?_
  refine Wl.done ?_
  refine Wx.go ?_
  refine Wc.seq ?_
  refine Wc.region ?_
  refine Wl.q (v := Value.int .i64 0) (q_load sc_3 rfl (.cel (i := 1) rfl rfl)) ?_
  refine Wl.q (v := Value.int .i64 2) (q_move rfl) ?_
  refine Wl.e (e_store (i := 1) (v := Value.int .i64 0) sz_3 rfl rfl (fun _ _ => rfl) rfl (by simp)) (fun _ _ => ?_)
  refine Wl.imp (L' := (pt r 59 [Value.bool false, Value.string s, Value.int .i64 ((a : Nat) : Int)]) :: (pt b2 3 [Value.int .i64 0]) :: (pt b1 31 [Value.pointer (some ⟨r, 0, none⟩)]) :: F) (fun _ h => h) ?_
  refine Wl.q (v := Value.int .i64 2) (q_assign rfl) ?_
  refine Wl.done ?_
  refine Wx.go ?_
  refine Wc.ret ?_
  refine Wx.finC2 rfl (.inl rfl) sc_3 rfl (.cel (i := 1) rfl rfl) (fun w hs => ?_)
  exact ⟨(), trivial, rfl, (st_drop (st_drop (st_pull [1, 1] hs)))⟩

theorem zrnumber_nil (W0 : World)  :
    Con Try.prog W0 23 #[Value.pointer none] [] (X := Unit) (fun _ => True) (fun _ => Value.tuple #[Value.int .i64 0, Value.int .i64 2]) (fun _ => []) := by
  refine Con.of (args := [Value.pointer none]) Try.func23 rfl Try.ntmps23 rfl (fun F => ?_)
  show Wc _ W0 _ _ _ _ _ (F)
  refine Wc.seq ?_
  refine Wc.region ?_
  refine Wl.e (e_box (x := .tmp 0) (vs := [Value.pointer none]) rfl) (fun b1 _ => ?_)
  refine Wl.imp (L' := (pt b1 31 [Value.pointer none]) :: F) (fun _ h => h) ?_
  refine Wl.e (e_alloc (vs := [Value.int .i64 0]) zo_2 rfl) (fun b2 _ => ?_)
  refine Wl.imp (L' := (pt b2 2 [Value.int .i64 0]) :: (pt b1 31 [Value.pointer none]) :: F) (fun _ h => h) ?_
  refine Wl.q (v := Value.int .i64 0) (q_assign rfl) ?_
  refine Wl.done ?_
  refine Wx.go ?_
  refine Wc.seq ?_
  refine Wc.region ?_
  refine Wl.q (v := Value.pointer none) (q_load sc_31 rfl (.cel (i := 1) rfl rfl)) ?_
  refine Wl.q (v := Value.func (.func 46) #[] #[Value.pointer (some ⟨b1, 0, none⟩), Value.pointer (some ⟨b2, 0, none⟩)]) (q_makeFunc (us := []) (vs := [Value.pointer (some ⟨b1, 0, none⟩), Value.pointer (some ⟨b2, 0, none⟩)]) rfl rfl) ?_
  refine Wl.e (e_call (F := (pt b2 2 [Value.int .i64 0]) :: (pt b1 31 [Value.pointer none]) :: F) (args := [Value.pointer none, Value.func (.func 46) #[] #[Value.pointer (some ⟨b1, 0, none⟩), Value.pointer (some ⟨b2, 0, none⟩)]]) Try.call43 rfl (ztake_nil W0 (Value.func (.func 46) #[] #[Value.pointer (some ⟨b1, 0, none⟩), Value.pointer (some ⟨b2, 0, none⟩)]))) (fun _ _ => ?_)
  refine Wl.imp (L' := (pt b2 2 [Value.int .i64 0]) :: (pt b1 31 [Value.pointer none]) :: F) (fun _ h => h) ?_
  refine Wl.q (v := Value.int .i64 2) (q_assign rfl) ?_
  refine Wl.done ?_
  refine Wx.go ?_
  refine Wc.seq ?_
  refine Wc.region ?_
  refine Wl.q (v := Value.int .i64 0) (q_load sc_2 rfl (.cel (i := 0) rfl rfl)) ?_
  refine Wl.q (v := Value.int .i64 2) (q_move rfl) ?_
  refine Wl.e (e_store (i := 0) (v := Value.int .i64 0) sz_2 rfl rfl (fun _ _ => rfl) rfl (by simp)) (fun _ _ => ?_)
  refine Wl.imp (L' := (pt b2 2 [Value.int .i64 0]) :: (pt b1 31 [Value.pointer none]) :: F) (fun _ h => h) ?_
  refine Wl.q (v := Value.int .i64 2) (q_assign rfl) ?_
  refine Wl.done ?_
  refine Wx.go ?_
  refine Wc.ret ?_
  refine Wx.finC2 rfl (.inl rfl) sc_2 rfl (.cel (i := 0) rfl rfl) (fun w hs => ?_)
  exact ⟨(), trivial, rfl, (st_drop (st_drop (st_pull [0, 0] hs)))⟩

theorem zrnumber_zero (W0 : World) (r : Nat) (s : ByteArray) (a : Nat)  :
    Con Try.prog W0 23 #[Value.pointer (some ⟨r, 0, none⟩)] [pt r 59 [Value.bool false, Value.string s, Value.int .i64 ((a : Nat) : Int)]] (X := Unit) (fun _ => True) (fun _ => Value.tuple #[Value.int .i64 0, Value.int .i64 2]) (fun _ => [pt r 59 [Value.bool false, Value.string s, Value.int .i64 ((a : Nat) : Int)]]) := by
  refine Con.of (args := [Value.pointer (some ⟨r, 0, none⟩)]) Try.func23 rfl Try.ntmps23 rfl (fun F => ?_)
  show Wc _ W0 _ _ _ _ _ ((pt r 59 [Value.bool false, Value.string s, Value.int .i64 ((a : Nat) : Int)]) :: F)
  refine Wc.seq ?_
  refine Wc.region ?_
  refine Wl.e (e_box (x := .tmp 0) (vs := [Value.pointer (some ⟨r, 0, none⟩)]) rfl) (fun b1 _ => ?_)
  refine Wl.imp (L' := (pt b1 31 [Value.pointer (some ⟨r, 0, none⟩)]) :: (pt r 59 [Value.bool false, Value.string s, Value.int .i64 ((a : Nat) : Int)]) :: F) (fun _ h => h) ?_
  refine Wl.e (e_alloc (vs := [Value.int .i64 0]) zo_2 rfl) (fun b2 _ => ?_)
  refine Wl.imp (L' := (pt b2 2 [Value.int .i64 0]) :: (pt b1 31 [Value.pointer (some ⟨r, 0, none⟩)]) :: (pt r 59 [Value.bool false, Value.string s, Value.int .i64 ((a : Nat) : Int)]) :: F) (fun _ h => h) ?_
  refine Wl.q (v := Value.int .i64 0) (q_assign rfl) ?_
  refine Wl.done ?_
  refine Wx.go ?_
  refine Wc.seq ?_
  refine Wc.region ?_
  refine Wl.q (v := Value.pointer (some ⟨r, 0, none⟩)) (q_load sc_31 rfl (.cel (i := 1) rfl rfl)) ?_
  refine Wl.q (v := Value.func (.func 46) #[] #[Value.pointer (some ⟨b1, 0, none⟩), Value.pointer (some ⟨b2, 0, none⟩)]) (q_makeFunc (us := []) (vs := [Value.pointer (some ⟨b1, 0, none⟩), Value.pointer (some ⟨b2, 0, none⟩)]) rfl rfl) ?_
  refine Wl.imp (L' := (pt r 59 [Value.bool false, Value.string s, Value.int .i64 ((a : Nat) : Int)]) :: (pt b2 2 [Value.int .i64 0]) :: (pt b1 31 [Value.pointer (some ⟨r, 0, none⟩)]) :: F) (fun _ h => st_pull [2] h) ?_
  refine Wl.e (e_call (F := (pt b2 2 [Value.int .i64 0]) :: (pt b1 31 [Value.pointer (some ⟨r, 0, none⟩)]) :: F) (args := [Value.pointer (some ⟨r, 0, none⟩), Value.func (.func 46) #[] #[Value.pointer (some ⟨b1, 0, none⟩), Value.pointer (some ⟨b2, 0, none⟩)]]) Try.call43 rfl (ztake_zero W0 r s a (Value.func (.func 46) #[] #[Value.pointer (some ⟨b1, 0, none⟩), Value.pointer (some ⟨b2, 0, none⟩)]))) (fun _ _ => ?_)
  refine Wl.imp (L' := (pt r 59 [Value.bool false, Value.string s, Value.int .i64 ((a : Nat) : Int)]) :: (pt b2 2 [Value.int .i64 0]) :: (pt b1 31 [Value.pointer (some ⟨r, 0, none⟩)]) :: F) (fun _ h => h) ?_
  refine Wl.q (v := Value.int .i64 2) (q_assign rfl) ?_
  refine Wl.done ?_
  refine Wx.go ?_
  refine Wc.seq ?_
  refine Wc.region ?_
  refine Wl.q (v := Value.int .i64 0) (q_load sc_2 rfl (.cel (i := 1) rfl rfl)) ?_
  refine Wl.q (v := Value.int .i64 2) (q_move rfl) ?_
  refine Wl.e (e_store (i := 1) (v := Value.int .i64 0) sz_2 rfl rfl (fun _ _ => rfl) rfl (by simp)) (fun _ _ => ?_)
  refine Wl.imp (L' := (pt r 59 [Value.bool false, Value.string s, Value.int .i64 ((a : Nat) : Int)]) :: (pt b2 2 [Value.int .i64 0]) :: (pt b1 31 [Value.pointer (some ⟨r, 0, none⟩)]) :: F) (fun _ h => h) ?_
  refine Wl.q (v := Value.int .i64 2) (q_assign rfl) ?_
  refine Wl.done ?_
  refine Wx.go ?_
  refine Wc.ret ?_
  refine Wx.finC2 rfl (.inl rfl) sc_2 rfl (.cel (i := 1) rfl rfl) (fun w hs => ?_)
  exact ⟨(), trivial, rfl, (st_drop (st_drop (st_pull [1, 1] hs)))⟩

theorem zrflag_nil (W0 : World)  :
    Con Try.prog W0 24 #[Value.pointer none] [] (X := Unit) (fun _ => True) (fun _ => Value.tuple #[Value.bool false, Value.int .i64 2]) (fun _ => []) := by
  refine Con.of (args := [Value.pointer none]) Try.func24 rfl Try.ntmps24 rfl (fun F => ?_)
  show Wc _ W0 _ _ _ _ _ (F)
  refine Wc.seq ?_
  refine Wc.region ?_
  refine Wl.e (e_box (x := .tmp 0) (vs := [Value.pointer none]) rfl) (fun b1 _ => ?_)
  refine Wl.imp (L' := (pt b1 31 [Value.pointer none]) :: F) (fun _ h => h) ?_
  refine Wl.e (e_alloc (vs := [Value.bool false]) zo_4 rfl) (fun b2 _ => ?_)
  refine Wl.imp (L' := (pt b2 4 [Value.bool false]) :: (pt b1 31 [Value.pointer none]) :: F) (fun _ h => h) ?_
  refine Wl.q (v := Value.int .i64 0) (q_assign rfl) ?_
  refine Wl.done ?_
  refine Wx.go ?_
  refine Wc.seq ?_
  refine Wc.region ?_
  refine Wl.q (v := Value.pointer none) (q_load sc_31 rfl (.cel (i := 1) rfl rfl)) ?_
  refine Wl.q (v := Value.func (.func 48) #[] #[Value.pointer (some ⟨b1, 0, none⟩), Value.pointer (some ⟨b2, 0, none⟩)]) (q_makeFunc (us := []) (vs := [Value.pointer (some ⟨b1, 0, none⟩), Value.pointer (some ⟨b2, 0, none⟩)]) rfl rfl) ?_
  refine Wl.e (e_call (F := (pt b2 4 [Value.bool false]) :: (pt b1 31 [Value.pointer none]) :: F) (args := [Value.pointer none, Value.func (.func 48) #[] #[Value.pointer (some ⟨b1, 0, none⟩), Value.pointer (some ⟨b2, 0, none⟩)]]) Try.call43 rfl (ztake_nil W0 (Value.func (.func 48) #[] #[Value.pointer (some ⟨b1, 0, none⟩), Value.pointer (some ⟨b2, 0, none⟩)]))) (fun _ _ => ?_)
  refine Wl.imp (L' := (pt b2 4 [Value.bool false]) :: (pt b1 31 [Value.pointer none]) :: F) (fun _ h => h) ?_
  refine Wl.q (v := Value.int .i64 2) (q_assign rfl) ?_
  refine Wl.done ?_
  refine Wx.go ?_
  refine Wc.seq ?_
  refine Wc.region ?_
  refine Wl.q (v := Value.bool false) (q_load sc_4 rfl (.cel (i := 0) rfl rfl)) ?_
  refine Wl.q (v := Value.int .i64 2) (q_move rfl) ?_
  refine Wl.e (e_store (i := 0) (v := Value.bool false) sz_4 rfl rfl (fun _ _ => rfl) rfl (by simp)) (fun _ _ => ?_)
  refine Wl.imp (L' := (pt b2 4 [Value.bool false]) :: (pt b1 31 [Value.pointer none]) :: F) (fun _ h => h) ?_
  refine Wl.q (v := Value.int .i64 2) (q_assign rfl) ?_
  refine Wl.done ?_
  refine Wx.go ?_
  refine Wc.ret ?_
  refine Wx.finC2 rfl (.inl rfl) sc_4 rfl (.cel (i := 0) rfl rfl) (fun w hs => ?_)
  exact ⟨(), trivial, rfl, (st_drop (st_drop (st_pull [0, 0] hs)))⟩

theorem zrflag_zero (W0 : World) (r : Nat) (s : ByteArray) (a : Nat)  :
    Con Try.prog W0 24 #[Value.pointer (some ⟨r, 0, none⟩)] [pt r 59 [Value.bool false, Value.string s, Value.int .i64 ((a : Nat) : Int)]] (X := Unit) (fun _ => True) (fun _ => Value.tuple #[Value.bool false, Value.int .i64 2]) (fun _ => [pt r 59 [Value.bool false, Value.string s, Value.int .i64 ((a : Nat) : Int)]]) := by
  refine Con.of (args := [Value.pointer (some ⟨r, 0, none⟩)]) Try.func24 rfl Try.ntmps24 rfl (fun F => ?_)
  show Wc _ W0 _ _ _ _ _ ((pt r 59 [Value.bool false, Value.string s, Value.int .i64 ((a : Nat) : Int)]) :: F)
  refine Wc.seq ?_
  refine Wc.region ?_
  refine Wl.e (e_box (x := .tmp 0) (vs := [Value.pointer (some ⟨r, 0, none⟩)]) rfl) (fun b1 _ => ?_)
  refine Wl.imp (L' := (pt b1 31 [Value.pointer (some ⟨r, 0, none⟩)]) :: (pt r 59 [Value.bool false, Value.string s, Value.int .i64 ((a : Nat) : Int)]) :: F) (fun _ h => h) ?_
  refine Wl.e (e_alloc (vs := [Value.bool false]) zo_4 rfl) (fun b2 _ => ?_)
  refine Wl.imp (L' := (pt b2 4 [Value.bool false]) :: (pt b1 31 [Value.pointer (some ⟨r, 0, none⟩)]) :: (pt r 59 [Value.bool false, Value.string s, Value.int .i64 ((a : Nat) : Int)]) :: F) (fun _ h => h) ?_
  refine Wl.q (v := Value.int .i64 0) (q_assign rfl) ?_
  refine Wl.done ?_
  refine Wx.go ?_
  refine Wc.seq ?_
  refine Wc.region ?_
  refine Wl.q (v := Value.pointer (some ⟨r, 0, none⟩)) (q_load sc_31 rfl (.cel (i := 1) rfl rfl)) ?_
  refine Wl.q (v := Value.func (.func 48) #[] #[Value.pointer (some ⟨b1, 0, none⟩), Value.pointer (some ⟨b2, 0, none⟩)]) (q_makeFunc (us := []) (vs := [Value.pointer (some ⟨b1, 0, none⟩), Value.pointer (some ⟨b2, 0, none⟩)]) rfl rfl) ?_
  refine Wl.imp (L' := (pt r 59 [Value.bool false, Value.string s, Value.int .i64 ((a : Nat) : Int)]) :: (pt b2 4 [Value.bool false]) :: (pt b1 31 [Value.pointer (some ⟨r, 0, none⟩)]) :: F) (fun _ h => st_pull [2] h) ?_
  refine Wl.e (e_call (F := (pt b2 4 [Value.bool false]) :: (pt b1 31 [Value.pointer (some ⟨r, 0, none⟩)]) :: F) (args := [Value.pointer (some ⟨r, 0, none⟩), Value.func (.func 48) #[] #[Value.pointer (some ⟨b1, 0, none⟩), Value.pointer (some ⟨b2, 0, none⟩)]]) Try.call43 rfl (ztake_zero W0 r s a (Value.func (.func 48) #[] #[Value.pointer (some ⟨b1, 0, none⟩), Value.pointer (some ⟨b2, 0, none⟩)]))) (fun _ _ => ?_)
  refine Wl.imp (L' := (pt r 59 [Value.bool false, Value.string s, Value.int .i64 ((a : Nat) : Int)]) :: (pt b2 4 [Value.bool false]) :: (pt b1 31 [Value.pointer (some ⟨r, 0, none⟩)]) :: F) (fun _ h => h) ?_
  refine Wl.q (v := Value.int .i64 2) (q_assign rfl) ?_
  refine Wl.done ?_
  refine Wx.go ?_
  refine Wc.seq ?_
  refine Wc.region ?_
  refine Wl.q (v := Value.bool false) (q_load sc_4 rfl (.cel (i := 1) rfl rfl)) ?_
  refine Wl.q (v := Value.int .i64 2) (q_move rfl) ?_
  refine Wl.e (e_store (i := 1) (v := Value.bool false) sz_4 rfl rfl (fun _ _ => rfl) rfl (by simp)) (fun _ _ => ?_)
  refine Wl.imp (L' := (pt r 59 [Value.bool false, Value.string s, Value.int .i64 ((a : Nat) : Int)]) :: (pt b2 4 [Value.bool false]) :: (pt b1 31 [Value.pointer (some ⟨r, 0, none⟩)]) :: F) (fun _ h => h) ?_
  refine Wl.q (v := Value.int .i64 2) (q_assign rfl) ?_
  refine Wl.done ?_
  refine Wx.go ?_
  refine Wc.ret ?_
  refine Wx.finC2 rfl (.inl rfl) sc_4 rfl (.cel (i := 1) rfl rfl) (fun w hs => ?_)
  exact ⟨(), trivial, rfl, (st_drop (st_drop (st_pull [1, 1] hs)))⟩

theorem zrtext_nil (W0 : World)  :
    Con Try.prog W0 25 #[Value.pointer none] [] (X := Unit) (fun _ => True) (fun _ => Value.tuple #[Value.string (⟨#[]⟩ : ByteArray), Value.int .i64 2]) (fun _ => []) := by
  refine Con.of (args := [Value.pointer none]) Try.func25 rfl Try.ntmps25 rfl (fun F => ?_)
  show Wc _ W0 _ _ _ _ _ (F)
  refine Wc.seq ?_
  refine Wc.region ?_
  refine Wl.e (e_box (x := .tmp 0) (vs := [Value.pointer none]) rfl) (fun b1 _ => ?_)
  refine Wl.imp (L' := (pt b1 31 [Value.pointer none]) :: F) (fun _ h => h) ?_
  refine Wl.e (e_alloc (vs := [Value.string (⟨#[]⟩)]) zo_9 rfl) (fun b2 _ => ?_)
  refine Wl.imp (L' := (pt b2 9 ([Value.string (⟨#[]⟩)])) :: (pt b1 31 [Value.pointer none]) :: F) (fun _ h => h) ?_
  refine Wl.q (v := Value.int .i64 0) (q_assign rfl) ?_
  refine Wl.done ?_
  refine Wx.go ?_
  refine Wc.seq ?_
  refine Wc.region ?_
  refine Wl.q (v := Value.pointer none) (q_load sc_31 rfl (.cel (i := 1) rfl rfl)) ?_
  refine Wl.q (v := Value.func (.func 49) #[] #[Value.pointer (some ⟨b1, 0, none⟩), Value.pointer (some ⟨b2, 0, none⟩)]) (q_makeFunc (us := []) (vs := [Value.pointer (some ⟨b1, 0, none⟩), Value.pointer (some ⟨b2, 0, none⟩)]) rfl rfl) ?_
  refine Wl.e (e_call (F := (pt b2 9 ([Value.string (⟨#[]⟩)])) :: (pt b1 31 [Value.pointer none]) :: F) (args := [Value.pointer none, Value.func (.func 49) #[] #[Value.pointer (some ⟨b1, 0, none⟩), Value.pointer (some ⟨b2, 0, none⟩)]]) Try.call43 rfl (ztake_nil W0 (Value.func (.func 49) #[] #[Value.pointer (some ⟨b1, 0, none⟩), Value.pointer (some ⟨b2, 0, none⟩)]))) (fun _ _ => ?_)
  refine Wl.imp (L' := (pt b2 9 ([Value.string (⟨#[]⟩)])) :: (pt b1 31 [Value.pointer none]) :: F) (fun _ h => h) ?_
  refine Wl.q (v := Value.int .i64 2) (q_assign rfl) ?_
  refine Wl.done ?_
  refine Wx.go ?_
  refine Wc.seq ?_
  refine Wc.region ?_
  refine Wl.q (v := Value.string (⟨#[]⟩)) (q_load sc_9 rfl (.cel (i := 0) rfl rfl)) ?_
  refine Wl.q (v := Value.int .i64 2) (q_move rfl) ?_
  refine Wl.e (e_store (i := 0) (v := Value.string (⟨#[]⟩)) sz_9 rfl rfl (fun _ _ => rfl) rfl (by simp)) (fun _ _ => ?_)
  refine Wl.imp (L' := (pt b2 9 ([Value.string (⟨#[]⟩)])) :: (pt b1 31 [Value.pointer none]) :: F) (fun _ h => h) ?_
  refine Wl.q (v := Value.int .i64 2) (q_assign rfl) ?_
  refine Wl.done ?_
  refine Wx.go ?_
  refine Wc.ret ?_
  refine Wx.finC2 rfl (.inl rfl) sc_9 rfl (.cel (i := 0) rfl rfl) (fun w hs => ?_)
  exact ⟨(), trivial, rfl, (st_drop (st_drop (st_pull [0, 0] hs)))⟩

theorem zrtext_zero (W0 : World) (r : Nat) (s : ByteArray) (a : Nat)  :
    Con Try.prog W0 25 #[Value.pointer (some ⟨r, 0, none⟩)] [pt r 59 [Value.bool false, Value.string s, Value.int .i64 ((a : Nat) : Int)]] (X := Unit) (fun _ => True) (fun _ => Value.tuple #[Value.string (⟨#[]⟩ : ByteArray), Value.int .i64 2]) (fun _ => [pt r 59 [Value.bool false, Value.string s, Value.int .i64 ((a : Nat) : Int)]]) := by
  refine Con.of (args := [Value.pointer (some ⟨r, 0, none⟩)]) Try.func25 rfl Try.ntmps25 rfl (fun F => ?_)
  show Wc _ W0 _ _ _ _ _ ((pt r 59 [Value.bool false, Value.string s, Value.int .i64 ((a : Nat) : Int)]) :: F)
  refine Wc.seq ?_
  refine Wc.region ?_
  refine Wl.e (e_box (x := .tmp 0) (vs := [Value.pointer (some ⟨r, 0, none⟩)]) rfl) (fun b1 _ => ?_)
  refine Wl.imp (L' := (pt b1 31 [Value.pointer (some ⟨r, 0, none⟩)]) :: (pt r 59 [Value.bool false, Value.string s, Value.int .i64 ((a : Nat) : Int)]) :: F) (fun _ h => h) ?_
  refine Wl.e (e_alloc (vs := [Value.string (⟨#[]⟩)]) zo_9 rfl) (fun b2 _ => ?_)
  refine Wl.imp (L' := (pt b2 9 ([Value.string (⟨#[]⟩)])) :: (pt b1 31 [Value.pointer (some ⟨r, 0, none⟩)]) :: (pt r 59 [Value.bool false, Value.string s, Value.int .i64 ((a : Nat) : Int)]) :: F) (fun _ h => h) ?_
  refine Wl.q (v := Value.int .i64 0) (q_assign rfl) ?_
  refine Wl.done ?_
  refine Wx.go ?_
  refine Wc.seq ?_
  refine Wc.region ?_
  refine Wl.q (v := Value.pointer (some ⟨r, 0, none⟩)) (q_load sc_31 rfl (.cel (i := 1) rfl rfl)) ?_
  refine Wl.q (v := Value.func (.func 49) #[] #[Value.pointer (some ⟨b1, 0, none⟩), Value.pointer (some ⟨b2, 0, none⟩)]) (q_makeFunc (us := []) (vs := [Value.pointer (some ⟨b1, 0, none⟩), Value.pointer (some ⟨b2, 0, none⟩)]) rfl rfl) ?_
  refine Wl.imp (L' := (pt r 59 [Value.bool false, Value.string s, Value.int .i64 ((a : Nat) : Int)]) :: (pt b2 9 ([Value.string (⟨#[]⟩)])) :: (pt b1 31 [Value.pointer (some ⟨r, 0, none⟩)]) :: F) (fun _ h => st_pull [2] h) ?_
  refine Wl.e (e_call (F := (pt b2 9 ([Value.string (⟨#[]⟩)])) :: (pt b1 31 [Value.pointer (some ⟨r, 0, none⟩)]) :: F) (args := [Value.pointer (some ⟨r, 0, none⟩), Value.func (.func 49) #[] #[Value.pointer (some ⟨b1, 0, none⟩), Value.pointer (some ⟨b2, 0, none⟩)]]) Try.call43 rfl (ztake_zero W0 r s a (Value.func (.func 49) #[] #[Value.pointer (some ⟨b1, 0, none⟩), Value.pointer (some ⟨b2, 0, none⟩)]))) (fun _ _ => ?_)
  refine Wl.imp (L' := (pt r 59 [Value.bool false, Value.string s, Value.int .i64 ((a : Nat) : Int)]) :: (pt b2 9 ([Value.string (⟨#[]⟩)])) :: (pt b1 31 [Value.pointer (some ⟨r, 0, none⟩)]) :: F) (fun _ h => h) ?_
  refine Wl.q (v := Value.int .i64 2) (q_assign rfl) ?_
  refine Wl.done ?_
  refine Wx.go ?_
  refine Wc.seq ?_
  refine Wc.region ?_
  refine Wl.q (v := Value.string (⟨#[]⟩)) (q_load sc_9 rfl (.cel (i := 1) rfl rfl)) ?_
  refine Wl.q (v := Value.int .i64 2) (q_move rfl) ?_
  refine Wl.e (e_store (i := 1) (v := Value.string (⟨#[]⟩)) sz_9 rfl rfl (fun _ _ => rfl) rfl (by simp)) (fun _ _ => ?_)
  refine Wl.imp (L' := (pt r 59 [Value.bool false, Value.string s, Value.int .i64 ((a : Nat) : Int)]) :: (pt b2 9 ([Value.string (⟨#[]⟩)])) :: (pt b1 31 [Value.pointer (some ⟨r, 0, none⟩)]) :: F) (fun _ h => h) ?_
  refine Wl.q (v := Value.int .i64 2) (q_assign rfl) ?_
  refine Wl.done ?_
  refine Wx.go ?_
  refine Wc.ret ?_
  refine Wx.finC2 rfl (.inl rfl) sc_9 rfl (.cel (i := 1) rfl rfl) (fun w hs => ?_)
  exact ⟨(), trivial, rfl, (st_drop (st_drop (st_pull [1, 1] hs)))⟩

theorem zrlist_nil (W0 : World)  :
    Con Try.prog W0 26 #[Value.pointer none] [] (X := Unit) (fun _ => True) (fun _ => Value.tuple #[Value.int .i64 0, Value.int .i64 2]) (fun _ => []) := by
  refine Con.of (args := [Value.pointer none]) Try.func26 rfl Try.ntmps26 rfl (fun F => ?_)
  show Wc _ W0 _ _ _ _ _ (F)
  refine Wc.seq ?_
  refine Wc.region ?_
  refine Wl.e (e_box (x := .tmp 0) (vs := [Value.pointer none]) rfl) (fun b1 _ => ?_)
  refine Wl.imp (L' := (pt b1 31 [Value.pointer none]) :: F) (fun _ h => h) ?_
  refine Wl.e (e_alloc (vs := [Value.int .i64 0]) zo_3 rfl) (fun b2 _ => ?_)
  refine Wl.imp (L' := (pt b2 3 [Value.int .i64 0]) :: (pt b1 31 [Value.pointer none]) :: F) (fun _ h => h) ?_
  refine Wl.q (v := Value.int .i64 0) (q_assign rfl) ?_
  refine Wl.done ?_
  refine Wx.go ?_
  refine Wc.seq ?_
  refine Wc.region ?_
  refine Wl.q (v := Value.pointer none) (q_load sc_31 rfl (.cel (i := 1) rfl rfl)) ?_
  refine Wl.q (v := Value.func (.func 50) #[] #[Value.pointer (some ⟨b1, 0, none⟩), Value.pointer (some ⟨b2, 0, none⟩)]) (q_makeFunc (us := []) (vs := [Value.pointer (some ⟨b1, 0, none⟩), Value.pointer (some ⟨b2, 0, none⟩)]) rfl rfl) ?_
  refine Wl.e (e_call (F := (pt b2 3 [Value.int .i64 0]) :: (pt b1 31 [Value.pointer none]) :: F) (args := [Value.pointer none, Value.func (.func 50) #[] #[Value.pointer (some ⟨b1, 0, none⟩), Value.pointer (some ⟨b2, 0, none⟩)]]) Try.call43 rfl (ztake_nil W0 (Value.func (.func 50) #[] #[Value.pointer (some ⟨b1, 0, none⟩), Value.pointer (some ⟨b2, 0, none⟩)]))) (fun _ _ => ?_)
  refine Wl.imp (L' := (pt b2 3 [Value.int .i64 0]) :: (pt b1 31 [Value.pointer none]) :: F) (fun _ h => h) ?_
  refine Wl.q (v := Value.int .i64 2) (q_assign rfl) ?_
  refine Wl.done ?_
  refine Wx.go ?_
  refine Wc.seq ?_
  refine Wc.region ?_
  refine Wl.q (v := Value.int .i64 0) (q_load sc_3 rfl (.cel (i := 0) rfl rfl)) ?_
  refine Wl.q (v := Value.int .i64 2) (q_move rfl) ?_
  refine Wl.e (e_store (i := 0) (v := Value.int .i64 0) sz_3 rfl rfl (fun _ _ => rfl) rfl (by simp)) (fun _ _ => ?_)
  refine Wl.imp (L' := (pt b2 3 [Value.int .i64 0]) :: (pt b1 31 [Value.pointer none]) :: F) (fun _ h => h) ?_
  refine Wl.q (v := Value.int .i64 2) (q_assign rfl) ?_
  refine Wl.done ?_
  refine Wx.go ?_
  refine Wc.ret ?_
  refine Wx.finC2 rfl (.inl rfl) sc_3 rfl (.cel (i := 0) rfl rfl) (fun w hs => ?_)
  exact ⟨(), trivial, rfl, (st_drop (st_drop (st_pull [0, 0] hs)))⟩

theorem zrlist_zero (W0 : World) (r : Nat) (s : ByteArray) (a : Nat)  :
    Con Try.prog W0 26 #[Value.pointer (some ⟨r, 0, none⟩)] [pt r 59 [Value.bool false, Value.string s, Value.int .i64 ((a : Nat) : Int)]] (X := Unit) (fun _ => True) (fun _ => Value.tuple #[Value.int .i64 0, Value.int .i64 2]) (fun _ => [pt r 59 [Value.bool false, Value.string s, Value.int .i64 ((a : Nat) : Int)]]) := by
  refine Con.of (args := [Value.pointer (some ⟨r, 0, none⟩)]) Try.func26 rfl Try.ntmps26 rfl (fun F => ?_)
  show Wc _ W0 _ _ _ _ _ ((pt r 59 [Value.bool false, Value.string s, Value.int .i64 ((a : Nat) : Int)]) :: F)
  refine Wc.seq ?_
  refine Wc.region ?_
  refine Wl.e (e_box (x := .tmp 0) (vs := [Value.pointer (some ⟨r, 0, none⟩)]) rfl) (fun b1 _ => ?_)
  refine Wl.imp (L' := (pt b1 31 [Value.pointer (some ⟨r, 0, none⟩)]) :: (pt r 59 [Value.bool false, Value.string s, Value.int .i64 ((a : Nat) : Int)]) :: F) (fun _ h => h) ?_
  refine Wl.e (e_alloc (vs := [Value.int .i64 0]) zo_3 rfl) (fun b2 _ => ?_)
  refine Wl.imp (L' := (pt b2 3 [Value.int .i64 0]) :: (pt b1 31 [Value.pointer (some ⟨r, 0, none⟩)]) :: (pt r 59 [Value.bool false, Value.string s, Value.int .i64 ((a : Nat) : Int)]) :: F) (fun _ h => h) ?_
  refine Wl.q (v := Value.int .i64 0) (q_assign rfl) ?_
  refine Wl.done ?_
  refine Wx.go ?_
  refine Wc.seq ?_
  refine Wc.region ?_
  refine Wl.q (v := Value.pointer (some ⟨r, 0, none⟩)) (q_load sc_31 rfl (.cel (i := 1) rfl rfl)) ?_
  refine Wl.q (v := Value.func (.func 50) #[] #[Value.pointer (some ⟨b1, 0, none⟩), Value.pointer (some ⟨b2, 0, none⟩)]) (q_makeFunc (us := []) (vs := [Value.pointer (some ⟨b1, 0, none⟩), Value.pointer (some ⟨b2, 0, none⟩)]) rfl rfl) ?_
  refine Wl.imp (L' := (pt r 59 [Value.bool false, Value.string s, Value.int .i64 ((a : Nat) : Int)]) :: (pt b2 3 [Value.int .i64 0]) :: (pt b1 31 [Value.pointer (some ⟨r, 0, none⟩)]) :: F) (fun _ h => st_pull [2] h) ?_
  refine Wl.e (e_call (F := (pt b2 3 [Value.int .i64 0]) :: (pt b1 31 [Value.pointer (some ⟨r, 0, none⟩)]) :: F) (args := [Value.pointer (some ⟨r, 0, none⟩), Value.func (.func 50) #[] #[Value.pointer (some ⟨b1, 0, none⟩), Value.pointer (some ⟨b2, 0, none⟩)]]) Try.call43 rfl (ztake_zero W0 r s a (Value.func (.func 50) #[] #[Value.pointer (some ⟨b1, 0, none⟩), Value.pointer (some ⟨b2, 0, none⟩)]))) (fun _ _ => ?_)
  refine Wl.imp (L' := (pt r 59 [Value.bool false, Value.string s, Value.int .i64 ((a : Nat) : Int)]) :: (pt b2 3 [Value.int .i64 0]) :: (pt b1 31 [Value.pointer (some ⟨r, 0, none⟩)]) :: F) (fun _ h => h) ?_
  refine Wl.q (v := Value.int .i64 2) (q_assign rfl) ?_
  refine Wl.done ?_
  refine Wx.go ?_
  refine Wc.seq ?_
  refine Wc.region ?_
  refine Wl.q (v := Value.int .i64 0) (q_load sc_3 rfl (.cel (i := 1) rfl rfl)) ?_
  refine Wl.q (v := Value.int .i64 2) (q_move rfl) ?_
  refine Wl.e (e_store (i := 1) (v := Value.int .i64 0) sz_3 rfl rfl (fun _ _ => rfl) rfl (by simp)) (fun _ _ => ?_)
  refine Wl.imp (L' := (pt r 59 [Value.bool false, Value.string s, Value.int .i64 ((a : Nat) : Int)]) :: (pt b2 3 [Value.int .i64 0]) :: (pt b1 31 [Value.pointer (some ⟨r, 0, none⟩)]) :: F) (fun _ h => h) ?_
  refine Wl.q (v := Value.int .i64 2) (q_assign rfl) ?_
  refine Wl.done ?_
  refine Wx.go ?_
  refine Wc.ret ?_
  refine Wx.finC2 rfl (.inl rfl) sc_3 rfl (.cel (i := 1) rfl rfl) (fun w hs => ?_)
  exact ⟨(), trivial, rfl, (st_drop (st_drop (st_pull [1, 1] hs)))⟩

theorem zat_nil (W0 : World)  :
    Con Try.prog W0 17 #[Value.pointer none] [] (X := Unit) (fun _ => True) (fun _ => .int .i64 0) (fun _ => []) := by
  refine Con.of (args := [Value.pointer none]) Try.func17 rfl Try.ntmps17 rfl (fun F => ?_)
  show Wc _ W0 _ _ _ _ _ (F)
  refine Wc.seq ?_
  refine Wc.region ?_
  refine Wl.q (v := Value.int .i64 0) (q_assign rfl) ?_
  refine Wl.done ?_
  refine Wx.go ?_
  refine Wc.seq ?_
  refine Wc.seq ?_
  refine Wc.region ?_
  refine Wl.q (v := Value.pointer none) (q_move rfl) ?_
  refine Wl.q (v := Value.bool true) (q_eql_nil (r := true) rfl rfl Try.underlying31 rfl) ?_
  refine Wl.done ?_
  refine Wx.go ?_
  refine Wc.yes rfl ?_
  refine Wc.seq ?_
  refine Wc.region ?_
  refine Wl.q (v := Value.int .i64 0) (q_assign rfl) ?_
  refine Wl.done ?_
  refine Wx.go ?_
  refine Wc.ret ?_
  refine Wx.thenRet ?_
  refine Wx.fin1 rfl (.inl rfl) (fun w hs => ?_)
  exact ⟨(), trivial, rfl, hs⟩

theorem zat_zero (W0 : World) (r : Nat) (s : ByteArray) :
    Con Try.prog W0 17 #[Value.pointer (some ⟨r, 0, none⟩)] [pt r 59 [Value.bool false, Value.string s, Value.int .i64 0]] (X := Unit) (fun _ => True) (fun _ => .int .i64 0) (fun _ => [pt r 59 [Value.bool false, Value.string s, Value.int .i64 0]]) := by
  refine Con.of (args := [Value.pointer (some ⟨r, 0, none⟩)]) Try.func17 rfl Try.ntmps17 rfl (fun F => ?_)
  show Wc _ W0 _ _ _ _ _ ((pt r 59 [Value.bool false, Value.string s, Value.int .i64 0]) :: F)
  refine Wc.seq ?_
  refine Wc.region ?_
  refine Wl.q (v := Value.int .i64 0) (q_assign rfl) ?_
  refine Wl.done ?_
  refine Wx.go ?_
  refine Wc.seq ?_
  refine Wc.seq ?_
  refine Wc.region ?_
  refine Wl.q (v := Value.pointer (some ⟨r, 0, none⟩)) (q_move rfl) ?_
  refine Wl.q (v := Value.bool false) (q_eql_nil (r := false) rfl rfl Try.underlying31 rfl) ?_
  refine Wl.done ?_
  refine Wx.go ?_
  refine Wc.no rfl ?_
  refine Wc.skip ?_
  refine Wx.go ?_
  refine Wc.seq ?_
  refine Wc.region ?_
  refine Wl.q (v := Value.pointer (some ⟨r, 0, none⟩)) (q_move rfl) ?_
  refine Wl.q (v := Value.pointer (some ⟨r, 0, none⟩)) (q_nil_ptr rfl) ?_
  refine Wl.q (v := Value.pointer (some ⟨r, 2, none⟩)) (q_field (m := 2) fo_59_2 rfl rfl) ?_
  refine Wl.q (v := Value.int .i64 0) (q_load sc_3 rfl (.cel (i := 0) rfl rfl)) ?_
  refine Wl.q (v := Value.int .i64 0) (q_assign rfl) ?_
  refine Wl.done ?_
  refine Wx.go ?_
  refine Wc.ret ?_
  refine Wx.fin1 rfl (.inl rfl) (fun w hs => ?_)
  exact ⟨(), trivial, rfl, hs⟩

theorem zend_nil (W0 : World)  :
    Con Try.prog W0 18 #[Value.pointer none] [] (X := Unit) (fun _ => True) (fun _ => .int .i64 2) (fun _ => []) := by
  refine Con.of (args := [Value.pointer none]) Try.func18 rfl Try.ntmps18 rfl (fun F => ?_)
  show Wc _ W0 _ _ _ _ _ (F)
  refine Wc.seq ?_
  refine Wc.region ?_
  refine Wl.q (v := Value.int .i64 0) (q_assign rfl) ?_
  refine Wl.done ?_
  refine Wx.go ?_
  refine Wc.seq ?_
  refine Wc.seq ?_
  refine Wc.region ?_
  refine Wl.q (v := Value.pointer none) (q_move rfl) ?_
  refine Wl.q (v := Value.bool true) (q_eql_nil (r := true) rfl rfl Try.underlying31 rfl) ?_
  refine Wl.q (v := Value.bool true) (q_move rfl) ?_
  refine Wl.no ?_
  refine Wl.no ?_
  refine Wl.no ?_
  refine Wl.no ?_
  refine Wl.no ?_
  refine Wl.q (v := Value.bool true) (q_pick (t := true) rfl rfl) ?_
  refine Wl.done ?_
  refine Wx.go ?_
  refine Wc.yes rfl ?_
  refine Wc.seq ?_
  refine Wc.region ?_
  refine Wl.q (v := Value.int .i64 2) (q_assign rfl) ?_
  refine Wl.done ?_
  refine Wx.go ?_
  refine Wc.ret ?_
  refine Wx.thenRet ?_
  refine Wx.fin1 rfl (.inl rfl) (fun w hs => ?_)
  exact ⟨(), trivial, rfl, hs⟩

theorem zend_zero (W0 : World) (r : Nat) (s : ByteArray) (a : Nat)  :
    Con Try.prog W0 18 #[Value.pointer (some ⟨r, 0, none⟩)] [pt r 59 [Value.bool false, Value.string s, Value.int .i64 ((a : Nat) : Int)]] (X := Unit) (fun _ => True) (fun _ => .int .i64 2) (fun _ => [pt r 59 [Value.bool false, Value.string s, Value.int .i64 ((a : Nat) : Int)]]) := by
  refine Con.of (args := [Value.pointer (some ⟨r, 0, none⟩)]) Try.func18 rfl Try.ntmps18 rfl (fun F => ?_)
  show Wc _ W0 _ _ _ _ _ ((pt r 59 [Value.bool false, Value.string s, Value.int .i64 ((a : Nat) : Int)]) :: F)
  refine Wc.seq ?_
  refine Wc.region ?_
  refine Wl.q (v := Value.int .i64 0) (q_assign rfl) ?_
  refine Wl.done ?_
  refine Wx.go ?_
  refine Wc.seq ?_
  refine Wc.seq ?_
  refine Wc.region ?_
  refine Wl.q (v := Value.pointer (some ⟨r, 0, none⟩)) (q_move rfl) ?_
  refine Wl.q (v := Value.bool false) (q_eql_nil (r := false) rfl rfl Try.underlying31 rfl) ?_
  refine Wl.q (v := Value.bool false) (q_move rfl) ?_
  refine Wl.q (v := Value.pointer (some ⟨r, 0, none⟩)) (q_move rfl) ?_
  refine Wl.q (v := Value.pointer (some ⟨r, 0, none⟩)) (q_nil_ptr rfl) ?_
  refine Wl.q (v := Value.pointer (some ⟨r, 0, none⟩)) (q_field (m := 0) fo_59_0 rfl rfl) ?_
  refine Wl.q (v := Value.bool false) (q_load sc_4 rfl (.cel (i := 0) rfl rfl)) ?_
  refine Wl.q (v := Value.bool true) (q_not rfl rfl) ?_
  refine Wl.q (v := Value.bool true) (q_pick (t := false) rfl rfl) ?_
  refine Wl.done ?_
  refine Wx.go ?_
  refine Wc.yes rfl ?_
  refine Wc.seq ?_
  refine Wc.region ?_
  refine Wl.q (v := Value.int .i64 2) (q_assign rfl) ?_
  refine Wl.done ?_
  refine Wx.go ?_
  refine Wc.ret ?_
  refine Wx.thenRet ?_
  refine Wx.fin1 rfl (.inl rfl) (fun w hs => ?_)
  exact ⟨(), trivial, rfl, hs⟩

set_option maxRecDepth 4000 in
theorem none_law (W0 : World) (x : ItemR) :
    Con Try.prog W0 9 #[Value.agg #[Value.int .i64 x.kind, Value.int .i64 x.n, Value.string x.s]] [] (X := Unit) (fun _ => True) (fun _ => .bool true) (fun _ => []) := by
  refine Con.of (args := [Value.agg #[Value.int .i64 x.kind, Value.int .i64 x.n, Value.string x.s]]) Try.func9 rfl Try.ntmps9 rfl (fun F => ?_)
  show Wc _ W0 _ _ _ _ _ (F)
  refine Wc.seq ?_
  refine Wc.region ?_
  refine Wl.e (e_box (x := .tmp 0) (vs := [Value.int .i64 x.kind, Value.int .i64 x.n, Value.string x.s]) rfl) (fun xb _ => ?_)
  refine Wl.imp (L' := (pt xb 44 [Value.int .i64 x.kind, Value.int .i64 x.n, Value.string x.s]) :: F) (fun _ h => h) ?_
  refine Wl.q (v := Value.bool false) (q_assign rfl) ?_
  refine Wl.done ?_
  refine Wx.go ?_
  refine Wc.seq ?_
  refine Wc.region ?_
  refine Wl.q (v := Value.pointer none) (q_assign rfl) ?_
  refine Wl.done ?_
  refine Wx.go ?_
  refine Wc.seq ?_
  refine Wc.region ?_
  refine Wl.q (v := Value.agg #[Value.bool false, Value.slice none 0 0]) (q_build (pl := [(0, 1), (1, 1)]) Try.underlying57 zo_57 (by kernel_rfl) (by kernel_rfl)) ?_
  refine Wl.e (e_box (x := .tmp 17) (vs := [Value.bool false, Value.slice none 0 0]) rfl) (fun q _ => ?_)
  refine Wl.imp (L' := (pt q 57 [Value.bool false, Value.slice none 0 0]) :: (pt xb 44 [Value.int .i64 x.kind, Value.int .i64 x.n, Value.string x.s]) :: F) (fun _ h => h) ?_
  refine Wl.q (v := Value.pointer (some ⟨q, 0, none⟩)) (q_assign rfl) ?_
  refine Wl.done ?_
  refine Wx.go ?_
  refine Wc.seq ?_
  refine Wc.region ?_
  refine Wl.q (v := Value.pointer none) (q_assign rfl) ?_
  refine Wl.done ?_
  refine Wx.go ?_
  refine Wc.seq ?_
  refine Wc.region ?_
  refine Wl.q (v := Value.agg #[Value.bool false, Value.string (⟨#[]⟩), Value.int .i64 0]) (q_build (pl := [(0, 1), (1, 1), (2, 1)]) Try.underlying59 zo_59 (by kernel_rfl) (by kernel_rfl)) ?_
  refine Wl.e (e_box (x := .tmp 19) (vs := [Value.bool false, Value.string (⟨#[]⟩), Value.int .i64 0]) rfl) (fun r _ => ?_)
  refine Wl.imp (L' := (pt r 59 ([Value.bool false, Value.string (⟨#[]⟩), Value.int .i64 0])) :: (pt q 57 [Value.bool false, Value.slice none 0 0]) :: (pt xb 44 [Value.int .i64 x.kind, Value.int .i64 x.n, Value.string x.s]) :: F) (fun _ h => h) ?_
  refine Wl.q (v := Value.pointer (some ⟨r, 0, none⟩)) (q_assign rfl) ?_
  refine Wl.done ?_
  refine Wx.go ?_
  refine Wc.seq ?_
  refine Wc.seq ?_
  refine Wc.region ?_
  refine Wl.q (v := Value.pointer none) (q_move rfl) ?_
  refine Wl.q (v := Value.agg #[Value.int .i64 x.kind, Value.int .i64 x.n, Value.string x.s]) (q_loadAgg (vs := [Value.int .i64 x.kind, Value.int .i64 x.n, Value.string x.s]) ag_44 rfl (Has.of_pt (i := 2) rfl rfl)) ?_
  refine Wl.e (e_call (F := (pt r 59 ([Value.bool false, Value.string (⟨#[]⟩), Value.int .i64 0])) :: (pt q 57 [Value.bool false, Value.slice none 0 0]) :: (pt xb 44 [Value.int .i64 x.kind, Value.int .i64 x.n, Value.string x.s]) :: F) (args := [Value.pointer none, Value.agg #[Value.int .i64 x.kind, Value.int .i64 x.n, Value.string x.s]]) Try.call21 rfl (zwrite_nil W0 x)) (fun _ _ => ?_)
  refine Wl.imp (L' := (pt r 59 ([Value.bool false, Value.string (⟨#[]⟩), Value.int .i64 0])) :: (pt q 57 [Value.bool false, Value.slice none 0 0]) :: (pt xb 44 [Value.int .i64 x.kind, Value.int .i64 x.n, Value.string x.s]) :: F) (fun _ h => h) ?_
  refine Wl.q (v := Value.bool false) (q_neq (r := true) rfl rfl (decide_eq_true (by decide))) ?_
  refine Wl.q (v := Value.bool false) (q_move rfl) ?_
  refine Wl.q (v := Value.pointer (some ⟨q, 0, none⟩)) (q_move rfl) ?_
  refine Wl.q (v := Value.agg #[Value.int .i64 x.kind, Value.int .i64 x.n, Value.string x.s]) (q_loadAgg (vs := [Value.int .i64 x.kind, Value.int .i64 x.n, Value.string x.s]) ag_44 rfl (Has.of_pt (i := 2) rfl rfl)) ?_
  refine Wl.imp (L' := (pt q 57 [Value.bool false, Value.slice none 0 0]) :: (pt r 59 ([Value.bool false, Value.string (⟨#[]⟩), Value.int .i64 0])) :: (pt xb 44 [Value.int .i64 x.kind, Value.int .i64 x.n, Value.string x.s]) :: F) (fun _ h => st_pull [1] h) ?_
  refine Wl.e (e_call (F := (pt r 59 ([Value.bool false, Value.string (⟨#[]⟩), Value.int .i64 0])) :: (pt xb 44 [Value.int .i64 x.kind, Value.int .i64 x.n, Value.string x.s]) :: F) (args := [Value.pointer (some ⟨q, 0, none⟩), Value.agg #[Value.int .i64 x.kind, Value.int .i64 x.n, Value.string x.s]]) Try.call21 rfl (zwrite_zero W0 q (Value.slice none 0 0) x)) (fun _ _ => ?_)
  refine Wl.imp (L' := (pt q 57 [Value.bool false, Value.slice none 0 0]) :: (pt r 59 ([Value.bool false, Value.string (⟨#[]⟩), Value.int .i64 0])) :: (pt xb 44 [Value.int .i64 x.kind, Value.int .i64 x.n, Value.string x.s]) :: F) (fun _ h => h) ?_
  refine Wl.q (v := Value.bool false) (q_neq (r := true) rfl rfl (decide_eq_true (by decide))) ?_
  refine Wl.q (v := Value.bool false) (q_pick (t := false) rfl rfl) ?_
  refine Wl.q (v := Value.bool false) (q_move rfl) ?_
  refine Wl.q (v := Value.pointer none) (q_move rfl) ?_
  refine Wl.e (e_call (F := (pt q 57 [Value.bool false, Value.slice none 0 0]) :: (pt r 59 ([Value.bool false, Value.string (⟨#[]⟩), Value.int .i64 0])) :: (pt xb 44 [Value.int .i64 x.kind, Value.int .i64 x.n, Value.string x.s]) :: F) (args := [Value.pointer none]) Try.call12 rfl (zbytes_nil W0)) (fun _ _ => ?_)
  refine Wl.imp (L' := (pt q 57 [Value.bool false, Value.slice none 0 0]) :: (pt r 59 ([Value.bool false, Value.string (⟨#[]⟩), Value.int .i64 0])) :: (pt xb 44 [Value.int .i64 x.kind, Value.int .i64 x.n, Value.string x.s]) :: F) (fun _ h => h) ?_
  refine Wl.q (v := Value.bool false) (q_neq_str (r := true) rfl rfl (text_true (rfl))) ?_
  refine Wl.q (v := Value.bool false) (q_pick (t := false) rfl rfl) ?_
  refine Wl.q (v := Value.bool false) (q_move rfl) ?_
  refine Wl.q (v := Value.pointer (some ⟨q, 0, none⟩)) (q_move rfl) ?_
  refine Wl.e (e_call (F := (pt r 59 ([Value.bool false, Value.string (⟨#[]⟩), Value.int .i64 0])) :: (pt xb 44 [Value.int .i64 x.kind, Value.int .i64 x.n, Value.string x.s]) :: F) (args := [Value.pointer (some ⟨q, 0, none⟩)]) Try.call12 rfl (zbytes_zero W0 q (Value.slice none 0 0))) (fun _ _ => ?_)
  refine Wl.imp (L' := (pt q 57 [Value.bool false, Value.slice none 0 0]) :: (pt r 59 ([Value.bool false, Value.string (⟨#[]⟩), Value.int .i64 0])) :: (pt xb 44 [Value.int .i64 x.kind, Value.int .i64 x.n, Value.string x.s]) :: F) (fun _ h => h) ?_
  refine Wl.q (v := Value.bool false) (q_neq_str (r := true) rfl rfl (text_true (rfl))) ?_
  refine Wl.q (v := Value.bool false) (q_pick (t := false) rfl rfl) ?_
  refine Wl.done ?_
  refine Wx.go ?_
  refine Wc.no rfl ?_
  refine Wc.skip ?_
  refine Wx.go ?_
  refine Wc.seq ?_
  refine Wc.region ?_
  refine Wl.q (v := Value.pointer none) (q_move rfl) ?_
  refine Wl.e (e_call (F := (pt q 57 [Value.bool false, Value.slice none 0 0]) :: (pt r 59 ([Value.bool false, Value.string (⟨#[]⟩), Value.int .i64 0])) :: (pt xb 44 [Value.int .i64 x.kind, Value.int .i64 x.n, Value.string x.s]) :: F) (args := [Value.pointer none]) Try.call23 rfl (zrnumber_nil W0)) (fun _ _ => ?_)
  refine Wl.imp (L' := (pt q 57 [Value.bool false, Value.slice none 0 0]) :: (pt r 59 ([Value.bool false, Value.string (⟨#[]⟩), Value.int .i64 0])) :: (pt xb 44 [Value.int .i64 x.kind, Value.int .i64 x.n, Value.string x.s]) :: F) (fun _ h => h) ?_
  refine Wl.q (v := Value.tuple #[Value.int .i64 0, Value.int .i64 2]) (q_move rfl) ?_
  refine Wl.q (v := Value.int .i64 0) (q_extract (i := 0) rfl rfl) ?_
  refine Wl.q (v := Value.int .i64 2) (q_extract (i := 1) rfl rfl) ?_
  refine Wl.q (v := Value.int .i64 0) (q_assign rfl) ?_
  refine Wl.q (v := Value.int .i64 2) (q_assign rfl) ?_
  refine Wl.done ?_
  refine Wx.go ?_
  refine Wc.seq ?_
  refine Wc.region ?_
  refine Wl.q (v := Value.pointer (some ⟨r, 0, none⟩)) (q_move rfl) ?_
  refine Wl.imp (L' := (pt r 59 ([Value.bool false, Value.string (⟨#[]⟩), Value.int .i64 0])) :: (pt q 57 [Value.bool false, Value.slice none 0 0]) :: (pt xb 44 [Value.int .i64 x.kind, Value.int .i64 x.n, Value.string x.s]) :: F) (fun _ h => st_pull [1] h) ?_
  refine Wl.e (e_call (F := (pt q 57 [Value.bool false, Value.slice none 0 0]) :: (pt xb 44 [Value.int .i64 x.kind, Value.int .i64 x.n, Value.string x.s]) :: F) (args := [Value.pointer (some ⟨r, 0, none⟩)]) Try.call25 rfl (zrtext_zero W0 r (⟨#[]⟩) 0)) (fun _ _ => ?_)
  refine Wl.imp (L' := (pt r 59 ([Value.bool false, Value.string (⟨#[]⟩), Value.int .i64 0])) :: (pt q 57 [Value.bool false, Value.slice none 0 0]) :: (pt xb 44 [Value.int .i64 x.kind, Value.int .i64 x.n, Value.string x.s]) :: F) (fun _ h => h) ?_
  refine Wl.q (v := Value.tuple #[Value.string (⟨#[]⟩ : ByteArray), Value.int .i64 2]) (q_move rfl) ?_
  refine Wl.q (v := Value.string (⟨#[]⟩ : ByteArray)) (q_extract (i := 0) rfl rfl) ?_
  refine Wl.q (v := Value.int .i64 2) (q_extract (i := 1) rfl rfl) ?_
  refine Wl.q (v := Value.string (⟨#[]⟩ : ByteArray)) (q_assign rfl) ?_
  refine Wl.q (v := Value.int .i64 2) (q_assign rfl) ?_
  refine Wl.done ?_
  refine Wx.go ?_
  refine Wc.seq ?_
  refine Wc.region ?_
  refine Wl.q (v := Value.pointer none) (q_move rfl) ?_
  refine Wl.e (e_call (F := (pt r 59 ([Value.bool false, Value.string (⟨#[]⟩), Value.int .i64 0])) :: (pt q 57 [Value.bool false, Value.slice none 0 0]) :: (pt xb 44 [Value.int .i64 x.kind, Value.int .i64 x.n, Value.string x.s]) :: F) (args := [Value.pointer none]) Try.call22 rfl (zrbyte_nil W0)) (fun _ _ => ?_)
  refine Wl.imp (L' := (pt r 59 ([Value.bool false, Value.string (⟨#[]⟩), Value.int .i64 0])) :: (pt q 57 [Value.bool false, Value.slice none 0 0]) :: (pt xb 44 [Value.int .i64 x.kind, Value.int .i64 x.n, Value.string x.s]) :: F) (fun _ h => h) ?_
  refine Wl.q (v := Value.tuple #[Value.int .i64 0, Value.int .i64 2]) (q_move rfl) ?_
  refine Wl.q (v := Value.int .i64 0) (q_extract (i := 0) rfl rfl) ?_
  refine Wl.q (v := Value.int .i64 2) (q_extract (i := 1) rfl rfl) ?_
  refine Wl.q (v := Value.int .i64 0) (q_assign rfl) ?_
  refine Wl.q (v := Value.int .i64 2) (q_assign rfl) ?_
  refine Wl.done ?_
  refine Wx.go ?_
  refine Wc.seq ?_
  refine Wc.region ?_
  refine Wl.q (v := Value.pointer (some ⟨r, 0, none⟩)) (q_move rfl) ?_
  refine Wl.e (e_call (F := (pt q 57 [Value.bool false, Value.slice none 0 0]) :: (pt xb 44 [Value.int .i64 x.kind, Value.int .i64 x.n, Value.string x.s]) :: F) (args := [Value.pointer (some ⟨r, 0, none⟩)]) Try.call24 rfl (zrflag_zero W0 r (⟨#[]⟩) 0)) (fun _ _ => ?_)
  refine Wl.imp (L' := (pt r 59 ([Value.bool false, Value.string (⟨#[]⟩), Value.int .i64 0])) :: (pt q 57 [Value.bool false, Value.slice none 0 0]) :: (pt xb 44 [Value.int .i64 x.kind, Value.int .i64 x.n, Value.string x.s]) :: F) (fun _ h => h) ?_
  refine Wl.q (v := Value.tuple #[Value.bool false, Value.int .i64 2]) (q_move rfl) ?_
  refine Wl.q (v := Value.bool false) (q_extract (i := 0) rfl rfl) ?_
  refine Wl.q (v := Value.int .i64 2) (q_extract (i := 1) rfl rfl) ?_
  refine Wl.q (v := Value.bool false) (q_assign rfl) ?_
  refine Wl.q (v := Value.int .i64 2) (q_assign rfl) ?_
  refine Wl.done ?_
  refine Wx.go ?_
  refine Wc.seq ?_
  refine Wc.region ?_
  refine Wl.q (v := Value.pointer none) (q_move rfl) ?_
  refine Wl.e (e_call (F := (pt r 59 ([Value.bool false, Value.string (⟨#[]⟩), Value.int .i64 0])) :: (pt q 57 [Value.bool false, Value.slice none 0 0]) :: (pt xb 44 [Value.int .i64 x.kind, Value.int .i64 x.n, Value.string x.s]) :: F) (args := [Value.pointer none]) Try.call26 rfl (zrlist_nil W0)) (fun _ _ => ?_)
  refine Wl.imp (L' := (pt r 59 ([Value.bool false, Value.string (⟨#[]⟩), Value.int .i64 0])) :: (pt q 57 [Value.bool false, Value.slice none 0 0]) :: (pt xb 44 [Value.int .i64 x.kind, Value.int .i64 x.n, Value.string x.s]) :: F) (fun _ h => h) ?_
  refine Wl.q (v := Value.tuple #[Value.int .i64 0, Value.int .i64 2]) (q_move rfl) ?_
  refine Wl.q (v := Value.int .i64 0) (q_extract (i := 0) rfl rfl) ?_
  refine Wl.q (v := Value.int .i64 2) (q_extract (i := 1) rfl rfl) ?_
  refine Wl.q (v := Value.int .i64 0) (q_assign rfl) ?_
  refine Wl.q (v := Value.int .i64 2) (q_assign rfl) ?_
  refine Wl.done ?_
  refine Wx.go ?_
  refine Wc.seq ?_
  refine Wc.region ?_
  refine Wl.q (v := Value.int .i64 2) (q_move rfl) ?_
  refine Wl.q (v := Value.bool true) (q_eql (r := true) rfl rfl (decide_eq_true (by decide))) ?_
  refine Wl.q (v := Value.bool true) (q_move rfl) ?_
  refine Wl.q (v := Value.int .i64 2) (q_move rfl) ?_
  refine Wl.q (v := Value.bool true) (q_eql (r := true) rfl rfl (decide_eq_true (by decide))) ?_
  refine Wl.q (v := Value.bool true) (q_pick (t := true) rfl rfl) ?_
  refine Wl.q (v := Value.bool true) (q_move rfl) ?_
  refine Wl.q (v := Value.int .i64 2) (q_move rfl) ?_
  refine Wl.q (v := Value.bool true) (q_eql (r := true) rfl rfl (decide_eq_true (by decide))) ?_
  refine Wl.q (v := Value.bool true) (q_pick (t := true) rfl rfl) ?_
  refine Wl.q (v := Value.bool true) (q_move rfl) ?_
  refine Wl.q (v := Value.int .i64 2) (q_move rfl) ?_
  refine Wl.q (v := Value.bool true) (q_eql (r := true) rfl rfl (decide_eq_true (by decide))) ?_
  refine Wl.q (v := Value.bool true) (q_pick (t := true) rfl rfl) ?_
  refine Wl.q (v := Value.bool true) (q_move rfl) ?_
  refine Wl.q (v := Value.int .i64 2) (q_move rfl) ?_
  refine Wl.q (v := Value.bool true) (q_eql (r := true) rfl rfl (decide_eq_true (by decide))) ?_
  refine Wl.q (v := Value.bool true) (q_pick (t := true) rfl rfl) ?_
  refine Wl.q (v := Value.bool true) (q_move rfl) ?_
  refine Wl.q (v := Value.pointer none) (q_move rfl) ?_
  refine Wl.e (e_call (F := (pt r 59 ([Value.bool false, Value.string (⟨#[]⟩), Value.int .i64 0])) :: (pt q 57 [Value.bool false, Value.slice none 0 0]) :: (pt xb 44 [Value.int .i64 x.kind, Value.int .i64 x.n, Value.string x.s]) :: F) (args := [Value.pointer none]) Try.call17 rfl (zat_nil W0)) (fun _ _ => ?_)
  refine Wl.imp (L' := (pt r 59 ([Value.bool false, Value.string (⟨#[]⟩), Value.int .i64 0])) :: (pt q 57 [Value.bool false, Value.slice none 0 0]) :: (pt xb 44 [Value.int .i64 x.kind, Value.int .i64 x.n, Value.string x.s]) :: F) (fun _ h => h) ?_
  refine Wl.q (v := Value.bool true) (q_eql (r := true) rfl rfl (decide_eq_true (by decide))) ?_
  refine Wl.q (v := Value.bool true) (q_pick (t := true) rfl rfl) ?_
  refine Wl.q (v := Value.bool true) (q_move rfl) ?_
  refine Wl.q (v := Value.pointer (some ⟨r, 0, none⟩)) (q_move rfl) ?_
  refine Wl.e (e_call (F := (pt q 57 [Value.bool false, Value.slice none 0 0]) :: (pt xb 44 [Value.int .i64 x.kind, Value.int .i64 x.n, Value.string x.s]) :: F) (args := [Value.pointer (some ⟨r, 0, none⟩)]) Try.call17 rfl (zat_zero W0 r (⟨#[]⟩))) (fun _ _ => ?_)
  refine Wl.imp (L' := (pt r 59 ([Value.bool false, Value.string (⟨#[]⟩), Value.int .i64 0])) :: (pt q 57 [Value.bool false, Value.slice none 0 0]) :: (pt xb 44 [Value.int .i64 x.kind, Value.int .i64 x.n, Value.string x.s]) :: F) (fun _ h => h) ?_
  refine Wl.q (v := Value.bool true) (q_eql (r := true) rfl rfl (decide_eq_true (by decide))) ?_
  refine Wl.q (v := Value.bool true) (q_pick (t := true) rfl rfl) ?_
  refine Wl.q (v := Value.bool true) (q_move rfl) ?_
  refine Wl.q (v := Value.pointer none) (q_move rfl) ?_
  refine Wl.e (e_call (F := (pt r 59 ([Value.bool false, Value.string (⟨#[]⟩), Value.int .i64 0])) :: (pt q 57 [Value.bool false, Value.slice none 0 0]) :: (pt xb 44 [Value.int .i64 x.kind, Value.int .i64 x.n, Value.string x.s]) :: F) (args := [Value.pointer none]) Try.call18 rfl (zend_nil W0)) (fun _ _ => ?_)
  refine Wl.imp (L' := (pt r 59 ([Value.bool false, Value.string (⟨#[]⟩), Value.int .i64 0])) :: (pt q 57 [Value.bool false, Value.slice none 0 0]) :: (pt xb 44 [Value.int .i64 x.kind, Value.int .i64 x.n, Value.string x.s]) :: F) (fun _ h => h) ?_
  refine Wl.q (v := Value.bool true) (q_eql (r := true) rfl rfl (decide_eq_true (by decide))) ?_
  refine Wl.q (v := Value.bool true) (q_pick (t := true) rfl rfl) ?_
  refine Wl.q (v := Value.bool true) (q_move rfl) ?_
  refine Wl.q (v := Value.pointer (some ⟨r, 0, none⟩)) (q_move rfl) ?_
  refine Wl.e (e_call (F := (pt q 57 [Value.bool false, Value.slice none 0 0]) :: (pt xb 44 [Value.int .i64 x.kind, Value.int .i64 x.n, Value.string x.s]) :: F) (args := [Value.pointer (some ⟨r, 0, none⟩)]) Try.call18 rfl (zend_zero W0 r (⟨#[]⟩) 0)) (fun _ _ => ?_)
  refine Wl.imp (L' := (pt r 59 ([Value.bool false, Value.string (⟨#[]⟩), Value.int .i64 0])) :: (pt q 57 [Value.bool false, Value.slice none 0 0]) :: (pt xb 44 [Value.int .i64 x.kind, Value.int .i64 x.n, Value.string x.s]) :: F) (fun _ h => h) ?_
  refine Wl.q (v := Value.bool true) (q_eql (r := true) rfl rfl (decide_eq_true (by decide))) ?_
  refine Wl.q (v := Value.bool true) (q_pick (t := true) rfl rfl) ?_
  refine Wl.q (v := Value.bool true) (q_move rfl) ?_
  refine Wl.e (e_call (F := (pt r 59 ([Value.bool false, Value.string (⟨#[]⟩), Value.int .i64 0])) :: (pt q 57 [Value.bool false, Value.slice none 0 0]) :: (pt xb 44 [Value.int .i64 x.kind, Value.int .i64 x.n, Value.string x.s]) :: F) (args := []) Try.call13 rfl (alive_c W0)) (fun _ _ => ?_)
  refine Wl.imp (L' := (pt r 59 ([Value.bool false, Value.string (⟨#[]⟩), Value.int .i64 0])) :: (pt q 57 [Value.bool false, Value.slice none 0 0]) :: (pt xb 44 [Value.int .i64 x.kind, Value.int .i64 x.n, Value.string x.s]) :: F) (fun _ h => h) ?_
  refine Wl.q (v := Value.bool true) (q_pick (t := true) rfl rfl) ?_
  refine Wl.q (v := Value.bool true) (q_assign rfl) ?_
  refine Wl.done ?_
  refine Wx.go ?_
  refine Wc.ret ?_
  refine Wx.fin1 rfl (.inl rfl) (fun w hs => ?_)
  exact ⟨(), trivial, rfl, (st_drop (st_drop (st_drop (st_pull [0, 0, 0] hs))))⟩

end Go.Proofs.Ytlbanhhdoiidnaa
