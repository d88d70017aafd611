import Derived.Test.YtkndmgfahghcjaaGreatStE
/- Contracts of the calls. -/
namespace Go.Proofs.YtkndmgfahghcjaaGreat
open Go Go.SL Go.St Go.Wr Go.RowKit
open Go.Dk (DS WF)
open Go.Jn (JS Ok openD_up)
set_option linter.unusedVariables false
set_option maxRecDepth 8000

theorem nget_nil (W0 : World) (n : ByteArray) :
  Con Tryz.prog W0 22 #[Value.pointer none, Value.string n] [] (X := Unit) (fun _ => True) (fun _ => .tuple #[.string ⟨#[]⟩, .bool false]) (fun _ => []) := by
 refine Con.of (args := [Value.pointer none, Value.string n]) Tryz.func22 rfl Tryz.ntmps22 rfl (fun F => ?_)
 show Wc _ W0 _ _ _ _ _ (F)
 refine Wc.seq ?_
 refine Wc.region ?_
 refine Wl.q (v := Value.string (⟨#[]⟩)) (q_assign rfl) ?_
 refine Wl.q (v := Value.bool false) (q_assign rfl) ?_
 refine Wl.done ?_
 refine Wx.go ?_
 refine Wc.seq ?_
 refine Wc.seq ?_
 refine Wc.region ?_
 refine Wl.q (v := Value.pointer none) (q_move rfl) ?_
 refine Wl.e (e_call (F := F) (args := [Value.pointer none]) Tryz.call51 rfl (st_nil W0)) (fun _ _ => ?_)
 refine Wl.imp (L' := F) (fun _ h => h) ?_
 refine Wl.q (v := Value.bool true) (q_not rfl rfl) ?_
 refine Wl.done ?_
 refine Wx.go ?_
 refine Wc.yes rfl ?_
 refine Wc.seq ?_
 refine Wc.region ?_
 refine Wl.q (v := Value.string (⟨#[]⟩)) (q_assign rfl) ?_
 refine Wl.q (v := Value.bool false) (q_assign rfl) ?_
 refine Wl.done ?_
 refine Wx.go ?_
 refine Wc.ret ?_
 refine Wx.thenRet ?_
 refine Wx.fin2 rfl (.inl rfl) (fun w hs => ?_)
 exact ⟨(), trivial, rfl, hs⟩

theorem nget_zero (W0 : World) (sp : Nat) (n : ByteArray) :
  Con Tryz.prog W0 22 #[Value.pointer (some ⟨sp, 0, none⟩), Value.string n] [pt sp 49 [Value.pointer none, Value.map none]] (X := Unit) (fun _ => True) (fun _ => .tuple #[.string ⟨#[]⟩, .bool false]) (fun _ => [pt sp 49 [Value.pointer none, Value.map none]]) := by
 refine Con.of (args := [Value.pointer (some ⟨sp, 0, none⟩), Value.string n]) Tryz.func22 rfl Tryz.ntmps22 rfl (fun F => ?_)
 show Wc _ W0 _ _ _ _ _ ((pt sp 49 [Value.pointer none, Value.map none]) :: F)
 refine Wc.seq ?_
 refine Wc.region ?_
 refine Wl.q (v := Value.string (⟨#[]⟩)) (q_assign rfl) ?_
 refine Wl.q (v := Value.bool false) (q_assign rfl) ?_
 refine Wl.done ?_
 refine Wx.go ?_
 refine Wc.seq ?_
 refine Wc.seq ?_
 refine Wc.region ?_
 refine Wl.q (v := Value.pointer (some ⟨sp, 0, none⟩)) (q_move rfl) ?_
 refine Wl.e (e_call (F := F) (args := [Value.pointer (some ⟨sp, 0, none⟩)]) Tryz.call51 rfl (st_zero W0 sp)) (fun _ _ => ?_)
 refine Wl.imp (L' := (pt sp 49 [Value.pointer none, Value.map none]) :: F) (fun _ h => h) ?_
 refine Wl.q (v := Value.bool true) (q_not rfl rfl) ?_
 refine Wl.done ?_
 refine Wx.go ?_
 refine Wc.yes rfl ?_
 refine Wc.seq ?_
 refine Wc.region ?_
 refine Wl.q (v := Value.string (⟨#[]⟩)) (q_assign rfl) ?_
 refine Wl.q (v := Value.bool false) (q_assign rfl) ?_
 refine Wl.done ?_
 refine Wx.go ?_
 refine Wc.ret ?_
 refine Wx.thenRet ?_
 refine Wx.fin2 rfl (.inl rfl) (fun w hs => ?_)
 exact ⟨(), trivial, rfl, hs⟩

theorem nnames_nil (W0 : World)  :
  Con Tryz.prog W0 24 #[Value.pointer none] [] (X := Unit) (fun _ => True) (fun _ => .slice none 0 0) (fun _ => []) := by
 refine Con.of (args := [Value.pointer none]) Tryz.func24 rfl Tryz.ntmps24 rfl (fun F => ?_)
 show Wc _ W0 _ _ _ _ _ (F)
 refine Wc.seq ?_
 refine Wc.region ?_
 refine Wl.q (v := Value.slice none 0 0) (q_assign rfl) ?_
 refine Wl.done ?_
 refine Wx.go ?_
 refine Wc.seq ?_
 refine Wc.seq ?_
 refine Wc.region ?_
 refine Wl.q (v := Value.pointer none) (q_move rfl) ?_
 refine Wl.e (e_call (F := F) (args := [Value.pointer none]) Tryz.call51 rfl (st_nil W0)) (fun _ _ => ?_)
 refine Wl.imp (L' := F) (fun _ h => h) ?_
 refine Wl.q (v := Value.bool true) (q_not rfl rfl) ?_
 refine Wl.done ?_
 refine Wx.go ?_
 refine Wc.yes rfl ?_
 refine Wc.seq ?_
 refine Wc.region ?_
 refine Wl.q (v := Value.slice none 0 0) (q_assign rfl) ?_
 refine Wl.done ?_
 refine Wx.go ?_
 refine Wc.ret ?_
 refine Wx.thenRet ?_
 refine Wx.fin1 rfl (.inl rfl) (fun w hs => ?_)
 exact ⟨(), trivial, rfl, hs⟩

theorem nnames_zero (W0 : World) (sp : Nat)  :
  Con Tryz.prog W0 24 #[Value.pointer (some ⟨sp, 0, none⟩)] [pt sp 49 [Value.pointer none, Value.map none]] (X := Unit) (fun _ => True) (fun _ => .slice none 0 0) (fun _ => [pt sp 49 [Value.pointer none, Value.map none]]) := by
 refine Con.of (args := [Value.pointer (some ⟨sp, 0, none⟩)]) Tryz.func24 rfl Tryz.ntmps24 rfl (fun F => ?_)
 show Wc _ W0 _ _ _ _ _ ((pt sp 49 [Value.pointer none, Value.map none]) :: F)
 refine Wc.seq ?_
 refine Wc.region ?_
 refine Wl.q (v := Value.slice none 0 0) (q_assign rfl) ?_
 refine Wl.done ?_
 refine Wx.go ?_
 refine Wc.seq ?_
 refine Wc.seq ?_
 refine Wc.region ?_
 refine Wl.q (v := Value.pointer (some ⟨sp, 0, none⟩)) (q_move rfl) ?_
 refine Wl.e (e_call (F := F) (args := [Value.pointer (some ⟨sp, 0, none⟩)]) Tryz.call51 rfl (st_zero W0 sp)) (fun _ _ => ?_)
 refine Wl.imp (L' := (pt sp 49 [Value.pointer none, Value.map none]) :: F) (fun _ h => h) ?_
 refine Wl.q (v := Value.bool true) (q_not rfl rfl) ?_
 refine Wl.done ?_
 refine Wx.go ?_
 refine Wc.yes rfl ?_
 refine Wc.seq ?_
 refine Wc.region ?_
 refine Wl.q (v := Value.slice none 0 0) (q_assign rfl) ?_
 refine Wl.done ?_
 refine Wx.go ?_
 refine Wc.ret ?_
 refine Wx.thenRet ?_
 refine Wx.fin1 rfl (.inl rfl) (fun w hs => ?_)
 exact ⟨(), trivial, rfl, hs⟩

theorem nchange_nil (W0 : World) (vl : Value) :
  Con Tryz.prog W0 20 #[Value.pointer none, vl] [] (X := Unit) (fun _ => True) (fun _ => .int .i64 2) (fun _ => []) := by
 refine Con.of (args := [Value.pointer none, vl]) Tryz.func20 rfl Tryz.ntmps20 rfl (fun F => ?_)
 show Wc _ W0 _ _ _ _ _ (F)
 refine Wc.seq ?_
 refine Wc.region ?_
 refine Wl.q (v := Value.int .i64 0) (q_assign rfl) ?_
 refine Wl.done ?_
 refine Wx.go ?_
 refine Wc.seq ?_
 refine Wc.seq ?_
 refine Wc.region ?_
 refine Wl.q (v := Value.pointer none) (q_move rfl) ?_
 refine Wl.e (e_call (F := F) (args := [Value.pointer none]) Tryz.call51 rfl (st_nil W0)) (fun _ _ => ?_)
 refine Wl.imp (L' := F) (fun _ h => h) ?_
 refine Wl.q (v := Value.bool true) (q_not rfl rfl) ?_
 refine Wl.done ?_
 refine Wx.go ?_
 refine Wc.yes rfl ?_
 refine Wc.seq ?_
 refine Wc.region ?_
 refine Wl.q (v := Value.int .i64 2) (q_assign rfl) ?_
 refine Wl.done ?_
 refine Wx.go ?_
 refine Wc.ret ?_
 refine Wx.thenRet ?_
 refine Wx.fin1 rfl (.inl rfl) (fun w hs => ?_)
 exact ⟨(), trivial, rfl, hs⟩

theorem nchange_zero (W0 : World) (sp : Nat) (vl : Value) :
  Con Tryz.prog W0 20 #[Value.pointer (some ⟨sp, 0, none⟩), vl] [pt sp 49 [Value.pointer none, Value.map none]] (X := Unit) (fun _ => True) (fun _ => .int .i64 2) (fun _ => [pt sp 49 [Value.pointer none, Value.map none]]) := by
 refine Con.of (args := [Value.pointer (some ⟨sp, 0, none⟩), vl]) Tryz.func20 rfl Tryz.ntmps20 rfl (fun F => ?_)
 show Wc _ W0 _ _ _ _ _ ((pt sp 49 [Value.pointer none, Value.map none]) :: F)
 refine Wc.seq ?_
 refine Wc.region ?_
 refine Wl.q (v := Value.int .i64 0) (q_assign rfl) ?_
 refine Wl.done ?_
 refine Wx.go ?_
 refine Wc.seq ?_
 refine Wc.seq ?_
 refine Wc.region ?_
 refine Wl.q (v := Value.pointer (some ⟨sp, 0, none⟩)) (q_move rfl) ?_
 refine Wl.e (e_call (F := F) (args := [Value.pointer (some ⟨sp, 0, none⟩)]) Tryz.call51 rfl (st_zero W0 sp)) (fun _ _ => ?_)
 refine Wl.imp (L' := (pt sp 49 [Value.pointer none, Value.map none]) :: F) (fun _ h => h) ?_
 refine Wl.q (v := Value.bool true) (q_not rfl rfl) ?_
 refine Wl.done ?_
 refine Wx.go ?_
 refine Wc.yes rfl ?_
 refine Wc.seq ?_
 refine Wc.region ?_
 refine Wl.q (v := Value.int .i64 2) (q_assign rfl) ?_
 refine Wl.done ?_
 refine Wx.go ?_
 refine Wc.ret ?_
 refine Wx.thenRet ?_
 refine Wx.fin1 rfl (.inl rfl) (fun w hs => ?_)
 exact ⟨(), trivial, rfl, hs⟩

theorem nseq_nil (W0 : World)  :
  Con Tryz.prog W0 25 #[Value.pointer none] [] (X := Unit) (fun _ => True) (fun _ => .int .i64 0) (fun _ => []) := by
 refine Con.of (args := [Value.pointer none]) Tryz.func25 rfl Tryz.ntmps25 rfl (fun F => ?_)
 show Wc _ W0 _ _ _ _ _ (F)
 refine Wc.seq ?_
 refine Wc.region ?_
 refine Wl.q (v := Value.int .i64 0) (q_assign rfl) ?_
 refine Wl.done ?_
 refine Wx.go ?_
 refine Wc.seq ?_
 refine Wc.seq ?_
 refine Wc.region ?_
 refine Wl.q (v := Value.pointer none) (q_move rfl) ?_
 refine Wl.e (e_call (F := F) (args := [Value.pointer none]) Tryz.call51 rfl (st_nil W0)) (fun _ _ => ?_)
 refine Wl.imp (L' := F) (fun _ h => h) ?_
 refine Wl.q (v := Value.bool true) (q_not rfl rfl) ?_
 refine Wl.done ?_
 refine Wx.go ?_
 refine Wc.yes rfl ?_
 refine Wc.seq ?_
 refine Wc.region ?_
 refine Wl.q (v := Value.int .i64 0) (q_assign rfl) ?_
 refine Wl.done ?_
 refine Wx.go ?_
 refine Wc.ret ?_
 refine Wx.thenRet ?_
 refine Wx.fin1 rfl (.inl rfl) (fun w hs => ?_)
 exact ⟨(), trivial, rfl, hs⟩

theorem nseq_zero (W0 : World) (sp : Nat)  :
  Con Tryz.prog W0 25 #[Value.pointer (some ⟨sp, 0, none⟩)] [pt sp 49 [Value.pointer none, Value.map none]] (X := Unit) (fun _ => True) (fun _ => .int .i64 0) (fun _ => [pt sp 49 [Value.pointer none, Value.map none]]) := by
 refine Con.of (args := [Value.pointer (some ⟨sp, 0, none⟩)]) Tryz.func25 rfl Tryz.ntmps25 rfl (fun F => ?_)
 show Wc _ W0 _ _ _ _ _ ((pt sp 49 [Value.pointer none, Value.map none]) :: F)
 refine Wc.seq ?_
 refine Wc.region ?_
 refine Wl.q (v := Value.int .i64 0) (q_assign rfl) ?_
 refine Wl.done ?_
 refine Wx.go ?_
 refine Wc.seq ?_
 refine Wc.seq ?_
 refine Wc.region ?_
 refine Wl.q (v := Value.pointer (some ⟨sp, 0, none⟩)) (q_move rfl) ?_
 refine Wl.e (e_call (F := F) (args := [Value.pointer (some ⟨sp, 0, none⟩)]) Tryz.call51 rfl (st_zero W0 sp)) (fun _ _ => ?_)
 refine Wl.imp (L' := (pt sp 49 [Value.pointer none, Value.map none]) :: F) (fun _ h => h) ?_
 refine Wl.q (v := Value.bool true) (q_not rfl rfl) ?_
 refine Wl.done ?_
 refine Wx.go ?_
 refine Wc.yes rfl ?_
 refine Wc.seq ?_
 refine Wc.region ?_
 refine Wl.q (v := Value.int .i64 0) (q_assign rfl) ?_
 refine Wl.done ?_
 refine Wx.go ?_
 refine Wc.ret ?_
 refine Wx.thenRet ?_
 refine Wx.fin1 rfl (.inl rfl) (fun w hs => ?_)
 exact ⟨(), trivial, rfl, hs⟩

theorem sopen_nil (W0 : World)  :
  Con Tryz.prog W0 19 #[Value.pointer none] [] (X := Unit) (fun _ => True) (fun _ => .tuple #[.pointer none, .int .i64 2]) (fun _ => []) := by
 refine Con.of (args := [Value.pointer none]) Tryz.func19 rfl Tryz.ntmps19 rfl (fun F => ?_)
 show Wc _ W0 _ _ _ _ _ (F)
 refine Wc.seq ?_
 refine Wc.region ?_
 refine Wl.q (v := Value.pointer none) (q_assign rfl) ?_
 refine Wl.q (v := Value.int .i64 0) (q_assign rfl) ?_
 refine Wl.done ?_
 refine Wx.go ?_
 refine Wc.seq ?_
 refine Wc.region ?_
 refine Wl.q (v := Value.pointer none) (q_move rfl) ?_
 refine Wl.e (e_call (F := F) (args := [Value.pointer none]) Tryz.call48 rfl (open_nil W0)) (fun _ _ => ?_)
 refine Wl.imp (L' := F) (fun _ h => h) ?_
 refine Wl.q (v := Value.tuple #[Value.pointer none, Value.int .i64 2]) (q_move rfl) ?_
 refine Wl.q (v := Value.pointer none) (q_extract (i := 0) rfl rfl) ?_
 refine Wl.q (v := Value.int .i64 2) (q_extract (i := 1) rfl rfl) ?_
 refine Wl.q (v := Value.pointer none) (q_assign rfl) ?_
 refine Wl.q (v := Value.int .i64 2) (q_assign rfl) ?_
 refine Wl.done ?_
 refine Wx.go ?_
 refine Wc.seq ?_
 refine Wc.seq ?_
 refine Wc.region ?_
 refine Wl.q (v := Value.int .i64 2) (q_move rfl) ?_
 refine Wl.q (v := Value.bool true) (q_neq (r := false) rfl rfl (decide_eq_false (by decide))) ?_
 refine Wl.done ?_
 refine Wx.go ?_
 refine Wc.yes rfl ?_
 refine Wc.seq ?_
 refine Wc.region ?_
 refine Wl.q (v := Value.int .i64 2) (q_move rfl) ?_
 refine Wl.q (v := Value.pointer none) (q_assign rfl) ?_
 refine Wl.q (v := Value.int .i64 2) (q_assign rfl) ?_
 refine Wl.done ?_
 refine Wx.go ?_
 refine Wc.ret ?_
 refine Wx.thenRet ?_
 refine Wx.fin2 rfl (.inl rfl) (fun w hs => ?_)
 exact ⟨(), trivial, rfl, hs⟩

set_option maxHeartbeats 4000000 in
theorem none_law (W0 : World) (vl : Value) (l : List PairR) (hl : Rd W0 vl l.length (l.flatMap pairCells)) (n : ByteArray) :
  Con Tryz.prog W0 6 #[vl, Value.string n] [] (X := Unit) (fun _ => True) (fun _ => .bool true) (fun _ => []) := by
 refine Con.of (args := [vl, Value.string n]) Tryz.func6 rfl Tryz.ntmps6 rfl (fun F => ?_)
 show Wc _ W0 _ _ _ _ _ (F)
 refine Wc.seq ?_
 refine Wc.region ?_
 refine Wl.q (v := Value.bool false) (q_assign rfl) ?_
 refine Wl.done ?_
 refine Wx.go ?_
 refine Wc.seq ?_
 refine Wc.region ?_
 refine Wl.q (v := Value.pointer none) (q_assign rfl) ?_
 refine Wl.done ?_
 refine Wx.go ?_
 refine Wc.seq ?_
 refine Wc.seq ?_
 refine Wc.region ?_
 refine Wl.q (v := Value.int .i64 0) (q_assign rfl) ?_
 refine Wl.done ?_
 refine Wx.go ?_
 refine Wc.block ?_
 refine Wc.rounds 3 ?_
 refine Wn.round ?_
 refine Wc.seq ?_
 refine Wc.seq ?_
 refine Wc.region ?_
 refine Wl.q (v := Value.int .i64 0) (q_move rfl) ?_
 refine Wl.q (v := Value.bool true) (q_lss (r := true) rfl rfl (decide_eq_true (by decide))) ?_
 refine Wl.done ?_
 refine Wx.go ?_
 refine Wc.yes rfl ?_
 refine Wc.skip ?_
 refine Wx.go ?_
 refine Wc.seq ?_
 refine Wc.block ?_
 refine Wc.seq ?_
 refine Wc.region ?_
 refine Wl.q (v := Value.pointer none) (q_move rfl) ?_
 refine Wl.q (v := Value.pointer none) (q_assign rfl) ?_
 refine Wl.done ?_
 refine Wx.go ?_
 refine Wc.seq ?_
 refine Wc.seq ?_
 refine Wc.region ?_
 refine Wl.q (v := Value.int .i64 0) (q_move rfl) ?_
 refine Wl.q (v := Value.bool false) (q_eql (r := false) rfl rfl (decide_eq_false (by decide))) ?_
 refine Wl.done ?_
 refine Wx.go ?_
 refine Wc.no rfl ?_
 refine Wc.skip ?_
 refine Wx.go ?_
 refine Wc.seq ?_
 refine Wc.region ?_
 refine Wl.q (v := Value.pointer none) (q_move rfl) ?_
 refine Wl.q (v := Value.string n) (q_move rfl) ?_
 refine Wl.e (e_call (F := F) (args := [Value.pointer none, Value.string n]) Tryz.call22 rfl (nget_nil W0 n)) (fun _ _ => ?_)
 refine Wl.imp (L' := F) (fun _ h => h) ?_
 refine Wl.q (v := Value.tuple #[Value.string (⟨#[]⟩), Value.bool false]) (q_move rfl) ?_
 refine Wl.q (v := Value.string (⟨#[]⟩)) (q_extract (i := 0) rfl rfl) ?_
 refine Wl.q (v := Value.bool false) (q_extract (i := 1) rfl rfl) ?_
 refine Wl.q (v := Value.string (⟨#[]⟩)) (q_assign rfl) ?_
 refine Wl.q (v := Value.bool false) (q_assign rfl) ?_
 refine Wl.done ?_
 refine Wx.go ?_
 refine Wc.seq ?_
 refine Wc.region ?_
 refine Wl.q (v := Value.string (⟨#[]⟩)) (q_move rfl) ?_
 refine Wl.q (v := Value.bool false) (q_neq_str (r := true) rfl rfl (text_true (rfl))) ?_
 refine Wl.q (v := Value.bool false) (q_move rfl) ?_
 refine Wl.q (v := Value.bool false) (q_move rfl) ?_
 refine Wl.q (v := Value.bool false) (q_pick (t := false) rfl rfl) ?_
 refine Wl.q (v := Value.bool false) (q_move rfl) ?_
 refine Wl.q (v := Value.pointer none) (q_move rfl) ?_
 refine Wl.e (e_call (F := F) (args := [Value.pointer none]) Tryz.call24 rfl (nnames_nil W0)) (fun _ _ => ?_)
 refine Wl.imp (L' := F) (fun _ h => h) ?_
 refine Wl.q (v := Value.int .i64 0) (q_len_slice Tryz.underlying50 rfl) ?_
 refine Wl.q (v := Value.bool false) (q_neq (r := true) rfl rfl (decide_eq_true (by decide))) ?_
 refine Wl.q (v := Value.bool false) (q_pick (t := false) rfl rfl) ?_
 refine Wl.q (v := Value.bool false) (q_move rfl) ?_
 refine Wl.q (v := Value.pointer none) (q_move rfl) ?_
 refine Wl.q (v := vl) (q_move rfl) ?_
 refine Wl.e (e_call (F := F) (args := [Value.pointer none, vl]) Tryz.call20 rfl (nchange_nil W0 vl)) (fun _ _ => ?_)
 refine Wl.imp (L' := F) (fun _ h => h) ?_
 refine Wl.q (v := Value.bool false) (q_neq (r := true) rfl rfl (decide_eq_true (by decide))) ?_
 refine Wl.q (v := Value.bool false) (q_pick (t := false) rfl rfl) ?_
 refine Wl.q (v := Value.bool false) (q_move rfl) ?_
 refine Wl.q (v := Value.pointer none) (q_move rfl) ?_
 refine Wl.e (e_call (F := F) (args := [Value.pointer none]) Tryz.call25 rfl (nseq_nil W0)) (fun _ _ => ?_)
 refine Wl.imp (L' := F) (fun _ h => h) ?_
 refine Wl.q (v := Value.bool false) (q_neq (r := true) rfl rfl (decide_eq_true (by decide))) ?_
 refine Wl.q (v := Value.bool false) (q_pick (t := false) rfl rfl) ?_
 refine Wl.done ?_
 refine Wx.go ?_
 refine Wc.no rfl ?_
 refine Wc.skip ?_
 refine Wx.blockEnd ?_
 refine Wx.go ?_
 refine Wc.region ?_
 refine Wl.q (v := Value.int .i64 0) (q_move rfl) ?_
 refine Wl.q (v := Value.int .i64 1) (q_add (c := 1) rfl rfl (by decide)) ?_
 refine Wl.q (v := Value.int .i64 1) (q_assign rfl) ?_
 refine Wl.done ?_
 refine Wx.again ?_
 refine Wn.round ?_
 refine Wc.seq ?_
 refine Wc.seq ?_
 refine Wc.region ?_
 refine Wl.q (v := Value.int .i64 1) (q_move rfl) ?_
 refine Wl.q (v := Value.bool true) (q_lss (r := true) rfl rfl (decide_eq_true (by decide))) ?_
 refine Wl.done ?_
 refine Wx.go ?_
 refine Wc.yes rfl ?_
 refine Wc.skip ?_
 refine Wx.go ?_
 refine Wc.seq ?_
 refine Wc.block ?_
 refine Wc.seq ?_
 refine Wc.region ?_
 refine Wl.q (v := Value.pointer none) (q_move rfl) ?_
 refine Wl.q (v := Value.pointer none) (q_assign rfl) ?_
 refine Wl.done ?_
 refine Wx.go ?_
 refine Wc.seq ?_
 refine Wc.seq ?_
 refine Wc.region ?_
 refine Wl.q (v := Value.int .i64 1) (q_move rfl) ?_
 refine Wl.q (v := Value.bool true) (q_eql (r := true) rfl rfl (decide_eq_true (by decide))) ?_
 refine Wl.done ?_
 refine Wx.go ?_
 refine Wc.yes rfl ?_
 refine Wc.region ?_
 refine Wl.q (v := Value.agg #[Value.pointer none, Value.map none]) (q_build (pl := [(0, 1), (1, 1)]) Tryz.underlying49 zo_49 (by kernel_rfl) (by kernel_rfl)) ?_
 refine Wl.e (e_box (x := .tmp 20) (vs := [Value.pointer none, Value.map none]) rfl) (fun sp _ => ?_)
 refine Wl.imp (L' := (pt sp 49 [Value.pointer none, Value.map none]) :: F) (fun _ h => h) ?_
 refine Wl.q (v := Value.pointer (some ⟨sp, 0, none⟩)) (q_assign rfl) ?_
 refine Wl.done ?_
 refine Wx.go ?_
 refine Wc.seq ?_
 refine Wc.region ?_
 refine Wl.q (v := Value.pointer (some ⟨sp, 0, none⟩)) (q_move rfl) ?_
 refine Wl.q (v := Value.string n) (q_move rfl) ?_
 refine Wl.e (e_call (F := F) (args := [Value.pointer (some ⟨sp, 0, none⟩), Value.string n]) Tryz.call22 rfl (nget_zero W0 sp n)) (fun _ _ => ?_)
 refine Wl.imp (L' := (pt sp 49 [Value.pointer none, Value.map none]) :: F) (fun _ h => h) ?_
 refine Wl.q (v := Value.tuple #[Value.string (⟨#[]⟩), Value.bool false]) (q_move rfl) ?_
 refine Wl.q (v := Value.string (⟨#[]⟩)) (q_extract (i := 0) rfl rfl) ?_
 refine Wl.q (v := Value.bool false) (q_extract (i := 1) rfl rfl) ?_
 refine Wl.q (v := Value.string (⟨#[]⟩)) (q_assign rfl) ?_
 refine Wl.q (v := Value.bool false) (q_assign rfl) ?_
 refine Wl.done ?_
 refine Wx.go ?_
 refine Wc.seq ?_
 refine Wc.region ?_
 refine Wl.q (v := Value.string (⟨#[]⟩)) (q_move rfl) ?_
 refine Wl.q (v := Value.bool false) (q_neq_str (r := true) rfl rfl (text_true (rfl))) ?_
 refine Wl.q (v := Value.bool false) (q_move rfl) ?_
 refine Wl.q (v := Value.bool false) (q_move rfl) ?_
 refine Wl.q (v := Value.bool false) (q_pick (t := false) rfl rfl) ?_
 refine Wl.q (v := Value.bool false) (q_move rfl) ?_
 refine Wl.q (v := Value.pointer (some ⟨sp, 0, none⟩)) (q_move rfl) ?_
 refine Wl.e (e_call (F := F) (args := [Value.pointer (some ⟨sp, 0, none⟩)]) Tryz.call24 rfl (nnames_zero W0 sp)) (fun _ _ => ?_)
 refine Wl.imp (L' := (pt sp 49 [Value.pointer none, Value.map none]) :: F) (fun _ h => h) ?_
 refine Wl.q (v := Value.int .i64 0) (q_len_slice Tryz.underlying50 rfl) ?_
 refine Wl.q (v := Value.bool false) (q_neq (r := true) rfl rfl (decide_eq_true (by decide))) ?_
 refine Wl.q (v := Value.bool false) (q_pick (t := false) rfl rfl) ?_
 refine Wl.q (v := Value.bool false) (q_move rfl) ?_
 refine Wl.q (v := Value.pointer (some ⟨sp, 0, none⟩)) (q_move rfl) ?_
 refine Wl.q (v := vl) (q_move rfl) ?_
 refine Wl.e (e_call (F := F) (args := [Value.pointer (some ⟨sp, 0, none⟩), vl]) Tryz.call20 rfl (nchange_zero W0 sp vl)) (fun _ _ => ?_)
 refine Wl.imp (L' := (pt sp 49 [Value.pointer none, Value.map none]) :: F) (fun _ h => h) ?_
 refine Wl.q (v := Value.bool false) (q_neq (r := true) rfl rfl (decide_eq_true (by decide))) ?_
 refine Wl.q (v := Value.bool false) (q_pick (t := false) rfl rfl) ?_
 refine Wl.q (v := Value.bool false) (q_move rfl) ?_
 refine Wl.q (v := Value.pointer (some ⟨sp, 0, none⟩)) (q_move rfl) ?_
 refine Wl.e (e_call (F := F) (args := [Value.pointer (some ⟨sp, 0, none⟩)]) Tryz.call25 rfl (nseq_zero W0 sp)) (fun _ _ => ?_)
 refine Wl.imp (L' := (pt sp 49 [Value.pointer none, Value.map none]) :: F) (fun _ h => h) ?_
 refine Wl.q (v := Value.bool false) (q_neq (r := true) rfl rfl (decide_eq_true (by decide))) ?_
 refine Wl.q (v := Value.bool false) (q_pick (t := false) rfl rfl) ?_
 refine Wl.done ?_
 refine Wx.go ?_
 refine Wc.no rfl ?_
 refine Wc.skip ?_
 refine Wx.blockEnd ?_
 refine Wx.go ?_
 refine Wc.region ?_
 refine Wl.q (v := Value.int .i64 1) (q_move rfl) ?_
 refine Wl.q (v := Value.int .i64 2) (q_add (c := 2) rfl rfl (by decide)) ?_
 refine Wl.q (v := Value.int .i64 2) (q_assign rfl) ?_
 refine Wl.done ?_
 refine Wx.again ?_
 refine Wn.round ?_
 refine Wc.seq ?_
 refine Wc.seq ?_
 refine Wc.region ?_
 refine Wl.q (v := Value.int .i64 2) (q_move rfl) ?_
 refine Wl.q (v := Value.bool false) (q_lss (r := false) rfl rfl (decide_eq_false (by decide))) ?_
 refine Wl.done ?_
 refine Wx.go ?_
 refine Wc.no rfl ?_
 refine Wc.exit ?_
 refine Wx.thenExit ?_
 refine Wx.thenExit ?_
 refine Wx.out ?_
 refine Wx.go ?_
 refine Wc.seq ?_
 refine Wc.region ?_
 refine Wl.q (v := Value.pointer none) (q_assign rfl) ?_
 refine Wl.done ?_
 refine Wx.go ?_
 refine Wc.seq ?_
 refine Wc.region ?_
 refine Wl.q (v := Value.pointer none) (q_move rfl) ?_
 refine Wl.e (e_call (F := (pt sp 49 [Value.pointer none, Value.map none]) :: F) (args := [Value.pointer none]) Tryz.call19 rfl (sopen_nil W0)) (fun _ _ => ?_)
 refine Wl.imp (L' := (pt sp 49 [Value.pointer none, Value.map none]) :: F) (fun _ h => h) ?_
 refine Wl.q (v := Value.tuple #[Value.pointer none, Value.int .i64 2]) (q_move rfl) ?_
 refine Wl.q (v := Value.pointer none) (q_extract (i := 0) rfl rfl) ?_
 refine Wl.q (v := Value.int .i64 2) (q_extract (i := 1) rfl rfl) ?_
 refine Wl.q (v := Value.pointer none) (q_assign rfl) ?_
 refine Wl.q (v := Value.int .i64 2) (q_assign rfl) ?_
 refine Wl.done ?_
 refine Wx.go ?_
 refine Wc.seq ?_
 refine Wc.region ?_
 refine Wl.q (v := Value.pointer none) (q_move rfl) ?_
 refine Wl.q (v := Value.bool true) (q_eql_nil (r := true) rfl rfl Tryz.underlying36 rfl) ?_
 refine Wl.q (v := Value.bool true) (q_move rfl) ?_
 refine Wl.q (v := Value.int .i64 2) (q_move rfl) ?_
 refine Wl.q (v := Value.bool true) (q_eql (r := true) rfl rfl (decide_eq_true (by decide))) ?_
 refine Wl.q (v := Value.bool true) (q_pick (t := true) rfl rfl) ?_
 refine Wl.q (v := Value.bool true) (q_move rfl) ?_
 refine Wl.e (e_call (F := (pt sp 49 [Value.pointer none, Value.map none]) :: F) (args := []) Tryz.call17 rfl (alive_c07 W0)) (fun _ _ => ?_)
 refine Wl.imp (L' := (pt sp 49 [Value.pointer none, Value.map none]) :: F) (fun _ h => h) ?_
 refine Wl.q (v := Value.bool true) (q_pick (t := true) rfl rfl) ?_
 refine Wl.q (v := Value.bool true) (q_assign rfl) ?_
 refine Wl.done ?_
 refine Wx.go ?_
 refine Wc.ret ?_
 refine Wx.fin1 rfl (.inl rfl) (fun w hs => ?_)
 exact ⟨(), trivial, rfl, (st_drop (st_pull [0] hs))⟩

end Go.Proofs.YtkndmgfahghcjaaGreat

