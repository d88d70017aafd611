import Derived.Test.YtkndmgfahghcjaaGreatJnZ
import Derived.Test.YtkndmgfahghcjaaGreatJnL
/- Contracts of the calls. -/
namespace Go.Proofs.YtkndmgfahghcjaaGreat
open Go Go.SL Go.Dk Go.Jn Go.RowKit
set_option linter.unusedVariables false
set_option maxRecDepth 8000

theorem len_nil (W0 : World)  :
  Con Tryz.prog W0 73 #[Value.pointer none] [] (X := Unit) (fun _ => True) (fun _ => .int .i64 0) (fun _ => []) := by
 refine Con.of (args := [Value.pointer none]) Tryz.func73 rfl Tryz.ntmps73 rfl (fun F => ?_)
 show Wc _ W0 _ _ _ _ _ (F)
 refine Wc.seq ?_
 refine Wc.region ?_
 refine Wl.q (v := Value.int .i64 0) (q_assign rfl) ?_
 refine Wl.done ?_
 refine Wx.go ?_
 refine Wc.seq ?_
 refine Wc.seq ?_
 refine Wc.region ?_
 refine Wl.q (v := Value.pointer none) (q_move rfl) ?_
 refine Wl.e (e_call (F := F) (args := [Value.pointer none]) Tryz.call58 rfl (there_nil W0)) (fun _ _ => ?_)
 refine Wl.imp (L' := F) (fun _ h => h) ?_
 refine Wl.q (v := Value.bool true) (q_not rfl rfl) ?_
 refine Wl.done ?_
 refine Wx.go ?_
 refine Wc.yes rfl ?_
 refine Wc.seq ?_
 refine Wc.region ?_
 refine Wl.q (v := Value.int .i64 0) (q_assign rfl) ?_
 refine Wl.done ?_
 refine Wx.go ?_
 refine Wc.ret ?_
 refine Wx.thenRet ?_
 refine Wx.fin1 rfl (.inl rfl) (fun w hs => ?_)
 exact ⟨(), trivial, rfl, hs⟩

theorem open_nil (W0 : World)  :
  Con Tryz.prog W0 48 #[Value.pointer none] [] (X := Unit) (fun _ => True) (fun _ => .tuple #[.pointer none, .int .i64 2]) (fun _ => []) := by
 refine Con.of (args := [Value.pointer none]) Tryz.func48 rfl Tryz.ntmps48 rfl (fun F => ?_)
 show Wc _ W0 _ _ _ _ _ (F)
 refine Wc.seq ?_
 refine Wc.region ?_
 refine Wl.q (v := Value.pointer none) (q_assign rfl) ?_
 refine Wl.q (v := Value.int .i64 0) (q_assign rfl) ?_
 refine Wl.done ?_
 refine Wx.go ?_
 refine Wc.seq ?_
 refine Wc.block ?_
 refine Wc.seq ?_
 refine Wc.region ?_
 refine Wl.q (v := Value.pointer none) (q_move rfl) ?_
 refine Wl.e (e_call (F := F) (args := [Value.pointer none]) Tryz.call73 rfl (len_nil W0)) (fun _ _ => ?_)
 refine Wl.imp (L' := F) (fun _ h => h) ?_
 refine Wl.q (v := Value.bool true) (q_eql (r := true) rfl rfl (decide_eq_true (by decide))) ?_
 refine Wl.q (v := Value.bool true) (q_assign rfl) ?_
 refine Wl.done ?_
 refine Wx.go ?_
 refine Wc.yes rfl ?_
 refine Wc.seq ?_
 refine Wc.region ?_
 refine Wl.q (v := Value.pointer none) (q_assign rfl) ?_
 refine Wl.q (v := Value.int .i64 2) (q_assign rfl) ?_
 refine Wl.done ?_
 refine Wx.go ?_
 refine Wc.ret ?_
 refine Wx.blockRet ?_
 refine Wx.thenRet ?_
 refine Wx.fin2 rfl (.inl rfl) (fun w hs => ?_)
 exact ⟨(), trivial, rfl, hs⟩

end Go.Proofs.YtkndmgfahghcjaaGreat

