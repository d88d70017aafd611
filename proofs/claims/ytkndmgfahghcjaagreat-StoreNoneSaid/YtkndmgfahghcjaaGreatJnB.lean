import Derived.Test.YtkndmgfahghcjaaGreatJnA
import Derived.Test.YtkndmgfahghcjaaGreatSLM
import Derived.Test.YtkndmgfahghcjaaGreatSLK
import Derived.ChangeKeysEq
/- Contracts of the calls. -/
namespace Go.Proofs.YtkndmgfahghcjaaGreat
open Go Go.SL Go.Dk Go.Jn Go.RowKit
set_option linter.unusedVariables false
set_option maxRecDepth 8000
theorem fo_117_0 : fieldOff Tryz.prog 117 0 = some 0 := by kernel_rfl
theorem fo_117_3 : fieldOff Tryz.prog 117 3 = some 3 := by kernel_rfl
theorem fo_117_1 : fieldOff Tryz.prog 117 1 = some 1 := by kernel_rfl
theorem fo_117_2 : fieldOff Tryz.prog 117 2 = some 2 := by kernel_rfl
theorem zo_132 : zeroOf Tryz.prog 132 = some (Value.agg #[Value.pointer none, Value.slice none 0 0]) := by kernel_rfl
@[reducible] def isJ (j dp : Nat) (s : JS) : HP := pt j 117 [.pointer (some ⟨dp, 0, none⟩), .string s.text, .int .i64 s.seq, .bool s.dead]
theorem cI : Tryz.prog.cellsOf 3 = 1 := by kernel_rfl
theorem eqIn (d : Nat) (a b : Int) (w : World) : (Op.equalIn (d + 1) 3 (.int .i64 a) (.int .i64 b)).run Tryz.prog w = .ok (a == b) w := by
 simp [Op.equalIn, run_underlying Tryz.underlying3]
theorem eqI2 (a b : Int) (w : World) : (Op.equal 111 (.agg #[.int .i64 a, .int .i64 b]) (.agg #[.int .i64 0, .int .i64 0])).run Tryz.prog w = .ok (decide (a = 0 ∧ b = 0)) w := by
 obtain ⟨i, hi⟩ := info_of_underlying Tryz.underlying3
 have h : ∀ d : Nat, (Op.equalIn (d + 1 + 1) 111 (.agg #[.int .i64 a, .int .i64 b]) (.agg #[.int .i64 0, .int .i64 0])).run Tryz.prog w = .ok (decide (a = 0 ∧ b = 0)) w := fun d => by
  rw [run_equalIn_array w (d + 1) _ _ Tryz.underlying111 hi, cI, show List.range 2 = [0, 1] from rfl]
  simp [Op.eqItems, part, eqIn]
  by_cases ha : a = 0 <;> by_cases hb : b = 0 <;> simp [ha, hb]
 exact h 9998

theorem jthere_c (W0 : World) (j dp : Nat) (t : ByteArray) (q : Int) (dead : Bool) :
  Con Tryz.prog W0 78 #[Value.pointer (some ⟨j, 0, none⟩)] [pt j 117 [Value.pointer (some ⟨dp, 0, none⟩), Value.string t, Value.int .i64 q, Value.bool dead]] (X := Unit) (fun _ => True) (fun _ => .bool true) (fun _ => [pt j 117 [Value.pointer (some ⟨dp, 0, none⟩), Value.string t, Value.int .i64 q, Value.bool dead]]) := by
 refine Con.of (args := [Value.pointer (some ⟨j, 0, none⟩)]) Tryz.func78 rfl Tryz.ntmps78 rfl (fun F => ?_)
 show Wc _ W0 _ _ _ _ _ ((pt j 117 [Value.pointer (some ⟨dp, 0, none⟩), Value.string t, Value.int .i64 q, Value.bool dead]) :: F)
 refine Wc.seq ?_
 refine Wc.region ?_
 refine Wl.q (v := Value.bool false) (q_assign rfl) ?_
 refine Wl.done ?_
 refine Wx.go ?_
 refine Wc.seq ?_
 refine Wc.region ?_
 refine Wl.q (v := Value.pointer (some ⟨j, 0, none⟩)) (q_move rfl) ?_
 refine Wl.q (v := Value.bool true) (q_neq_nil (r := false) rfl rfl Tryz.underlying46 rfl) ?_
 refine Wl.q (v := Value.bool true) (q_move rfl) ?_
 refine Wl.q (v := Value.pointer (some ⟨j, 0, none⟩)) (q_move rfl) ?_
 refine Wl.q (v := Value.pointer (some ⟨j, 0, none⟩)) (q_nil_ptr rfl) ?_
 refine Wl.q (v := Value.pointer (some ⟨j, 0, none⟩)) (q_field (m := 0) fo_117_0 rfl rfl) ?_
 refine Wl.q (v := Value.pointer (some ⟨dp, 0, none⟩)) (q_load sc_33 rfl (.cel (i := 0) rfl rfl)) ?_
 refine Wl.q (v := Value.bool true) (q_neq_nil (r := false) rfl rfl Tryz.underlying33 rfl) ?_
 refine Wl.q (v := Value.bool true) (q_pick (t := true) rfl rfl) ?_
 refine Wl.q (v := Value.bool true) (q_assign rfl) ?_
 refine Wl.done ?_
 refine Wx.go ?_
 refine Wc.ret ?_
 refine Wx.fin1 rfl (.inl rfl) (fun w hs => ?_)
 exact ⟨(), trivial, rfl, hs⟩

theorem jstate_dead (W0 : World) (j dp : Nat) (t : ByteArray) (q : Int) (d : DS) :
  Con Tryz.prog W0 79 #[Value.pointer (some ⟨j, 0, none⟩)] [pt j 117 [Value.pointer (some ⟨dp, 0, none⟩), Value.string t, Value.int .i64 q, Value.bool true], isDisk dp d] (X := Unit) (fun _ => True) (fun _ => .int .i64 6) (fun _ => [pt j 117 [Value.pointer (some ⟨dp, 0, none⟩), Value.string t, Value.int .i64 q, Value.bool true], isDisk dp d]) := by
 refine Con.of (args := [Value.pointer (some ⟨j, 0, none⟩)]) Tryz.func79 rfl Tryz.ntmps79 rfl (fun F => ?_)
 show Wc _ W0 _ _ _ _ _ ((pt j 117 [Value.pointer (some ⟨dp, 0, none⟩), Value.string t, Value.int .i64 q, Value.bool true]) :: (isDisk dp d) :: F)
 refine Wc.seq ?_
 refine Wc.region ?_
 refine Wl.q (v := Value.int .i64 0) (q_assign rfl) ?_
 refine Wl.done ?_
 refine Wx.go ?_
 refine Wc.seq ?_
 refine Wc.block ?_
 refine Wc.seq ?_
 refine Wc.region ?_
 refine Wl.q (v := Value.pointer (some ⟨j, 0, none⟩)) (q_move rfl) ?_
 refine Wl.e (e_call (F := (isDisk dp d) :: F) (args := [Value.pointer (some ⟨j, 0, none⟩)]) Tryz.call78 rfl (jthere_c W0 j dp t q true)) (fun _ _ => ?_)
 refine Wl.imp (L' := (pt j 117 [Value.pointer (some ⟨dp, 0, none⟩), Value.string t, Value.int .i64 q, Value.bool true]) :: (isDisk dp d) :: F) (fun _ h => h) ?_
 refine Wl.q (v := Value.bool false) (q_not rfl rfl) ?_
 refine Wl.q (v := Value.bool false) (q_assign rfl) ?_
 refine Wl.done ?_
 refine Wx.go ?_
 refine Wc.no rfl ?_
 refine Wc.seq ?_
 refine Wc.region ?_
 refine Wl.q (v := Value.pointer (some ⟨j, 0, none⟩)) (q_move rfl) ?_
 refine Wl.q (v := Value.pointer (some ⟨j, 0, none⟩)) (q_nil_ptr rfl) ?_
 refine Wl.q (v := Value.pointer (some ⟨j, 3, none⟩)) (q_field (m := 3) fo_117_3 rfl rfl) ?_
 refine Wl.q (v := Value.bool true) (q_load sc_4 rfl (.cel (i := 0) rfl rfl)) ?_
 refine Wl.q (v := Value.bool true) (q_move rfl) ?_
 refine Wl.no ?_
 refine Wl.no ?_
 refine Wl.no ?_
 refine Wl.no ?_
 refine Wl.no ?_
 refine Wl.no ?_
 refine Wl.q (v := Value.bool true) (q_pick (t := true) rfl rfl) ?_
 refine Wl.q (v := Value.bool true) (q_assign rfl) ?_
 refine Wl.done ?_
 refine Wx.go ?_
 refine Wc.yes rfl ?_
 refine Wc.seq ?_
 refine Wc.region ?_
 refine Wl.q (v := Value.int .i64 6) (q_assign rfl) ?_
 refine Wl.done ?_
 refine Wx.go ?_
 refine Wc.ret ?_
 refine Wx.blockRet ?_
 refine Wx.thenRet ?_
 refine Wx.fin1 rfl (.inl rfl) (fun w hs => ?_)
 exact ⟨(), trivial, rfl, hs⟩

theorem jstate_down (W0 : World) (j dp : Nat) (t : ByteArray) (q : Int) (d : DS) (hd : d.down = true) :
  Con Tryz.prog W0 79 #[Value.pointer (some ⟨j, 0, none⟩)] [pt j 117 [Value.pointer (some ⟨dp, 0, none⟩), Value.string t, Value.int .i64 q, Value.bool false], isDisk dp d] (X := Unit) (fun _ => True) (fun _ => .int .i64 6) (fun _ => [pt j 117 [Value.pointer (some ⟨dp, 0, none⟩), Value.string t, Value.int .i64 q, Value.bool false], isDisk dp d]) := by
 refine Con.of (args := [Value.pointer (some ⟨j, 0, none⟩)]) Tryz.func79 rfl Tryz.ntmps79 rfl (fun F => ?_)
 show Wc _ W0 _ _ _ _ _ ((pt j 117 [Value.pointer (some ⟨dp, 0, none⟩), Value.string t, Value.int .i64 q, Value.bool false]) :: (isDisk dp d) :: F)
 refine Wc.seq ?_
 refine Wc.region ?_
 refine Wl.q (v := Value.int .i64 0) (q_assign rfl) ?_
 refine Wl.done ?_
 refine Wx.go ?_
 refine Wc.seq ?_
 refine Wc.block ?_
 refine Wc.seq ?_
 refine Wc.region ?_
 refine Wl.q (v := Value.pointer (some ⟨j, 0, none⟩)) (q_move rfl) ?_
 refine Wl.e (e_call (F := (isDisk dp d) :: F) (args := [Value.pointer (some ⟨j, 0, none⟩)]) Tryz.call78 rfl (jthere_c W0 j dp t q false)) (fun _ _ => ?_)
 refine Wl.imp (L' := (pt j 117 [Value.pointer (some ⟨dp, 0, none⟩), Value.string t, Value.int .i64 q, Value.bool false]) :: (isDisk dp d) :: F) (fun _ h => h) ?_
 refine Wl.q (v := Value.bool false) (q_not rfl rfl) ?_
 refine Wl.q (v := Value.bool false) (q_assign rfl) ?_
 refine Wl.done ?_
 refine Wx.go ?_
 refine Wc.no rfl ?_
 refine Wc.seq ?_
 refine Wc.region ?_
 refine Wl.q (v := Value.pointer (some ⟨j, 0, none⟩)) (q_move rfl) ?_
 refine Wl.q (v := Value.pointer (some ⟨j, 0, none⟩)) (q_nil_ptr rfl) ?_
 refine Wl.q (v := Value.pointer (some ⟨j, 3, none⟩)) (q_field (m := 3) fo_117_3 rfl rfl) ?_
 refine Wl.q (v := Value.bool false) (q_load sc_4 rfl (.cel (i := 0) rfl rfl)) ?_
 refine Wl.q (v := Value.bool false) (q_move rfl) ?_
 refine Wl.q (v := Value.pointer (some ⟨j, 0, none⟩)) (q_move rfl) ?_
 refine Wl.q (v := Value.pointer (some ⟨j, 0, none⟩)) (q_nil_ptr rfl) ?_
 refine Wl.q (v := Value.pointer (some ⟨j, 0, none⟩)) (q_field (m := 0) fo_117_0 rfl rfl) ?_
 refine Wl.q (v := Value.pointer (some ⟨dp, 0, none⟩)) (q_load sc_33 rfl (.cel (i := 0) rfl rfl)) ?_
 refine Wl.imp (L' := (isDisk dp d) :: (pt j 117 [Value.pointer (some ⟨dp, 0, none⟩), Value.string t, Value.int .i64 q, Value.bool false]) :: F) (fun _ h => st_pull [1] h) ?_
 refine Wl.e (e_call (F := (pt j 117 [Value.pointer (some ⟨dp, 0, none⟩), Value.string t, Value.int .i64 q, Value.bool false]) :: F) (args := [Value.pointer (some ⟨dp, 0, none⟩)]) Tryz.call29 rfl (Con.eqs (val' := fun _ => Value.bool false) (post' := fun _ => [isDisk dp d]) (up_c W0 dp d ) (fun _ => (by rw [hd]; rfl)) (fun _ => rfl))) (fun _ _ => ?_)
 refine Wl.imp (L' := (isDisk dp d) :: (pt j 117 [Value.pointer (some ⟨dp, 0, none⟩), Value.string t, Value.int .i64 q, Value.bool false]) :: F) (fun _ h => h) ?_
 refine Wl.q (v := Value.bool true) (q_not rfl rfl) ?_
 refine Wl.q (v := Value.bool true) (q_pick (t := false) rfl rfl) ?_
 refine Wl.q (v := Value.bool true) (q_assign rfl) ?_
 refine Wl.done ?_
 refine Wx.go ?_
 refine Wc.yes rfl ?_
 refine Wc.seq ?_
 refine Wc.region ?_
 refine Wl.q (v := Value.int .i64 6) (q_assign rfl) ?_
 refine Wl.done ?_
 refine Wx.go ?_
 refine Wc.ret ?_
 refine Wx.blockRet ?_
 refine Wx.thenRet ?_
 refine Wx.fin1 rfl (.inl rfl) (fun w hs => ?_)
 exact ⟨(), trivial, rfl, (st_pull [1, 0] (hs))⟩

theorem jstate_on (W0 : World) (j dp : Nat) (t : ByteArray) (q : Int) (d : DS) (hd : d.down = false) :
  Con Tryz.prog W0 79 #[Value.pointer (some ⟨j, 0, none⟩)] [pt j 117 [Value.pointer (some ⟨dp, 0, none⟩), Value.string t, Value.int .i64 q, Value.bool false], isDisk dp d] (X := Unit) (fun _ => True) (fun _ => .int .i64 0) (fun _ => [pt j 117 [Value.pointer (some ⟨dp, 0, none⟩), Value.string t, Value.int .i64 q, Value.bool false], isDisk dp d]) := by
 refine Con.of (args := [Value.pointer (some ⟨j, 0, none⟩)]) Tryz.func79 rfl Tryz.ntmps79 rfl (fun F => ?_)
 show Wc _ W0 _ _ _ _ _ ((pt j 117 [Value.pointer (some ⟨dp, 0, none⟩), Value.string t, Value.int .i64 q, Value.bool false]) :: (isDisk dp d) :: F)
 refine Wc.seq ?_
 refine Wc.region ?_
 refine Wl.q (v := Value.int .i64 0) (q_assign rfl) ?_
 refine Wl.done ?_
 refine Wx.go ?_
 refine Wc.seq ?_
 refine Wc.block ?_
 refine Wc.seq ?_
 refine Wc.region ?_
 refine Wl.q (v := Value.pointer (some ⟨j, 0, none⟩)) (q_move rfl) ?_
 refine Wl.e (e_call (F := (isDisk dp d) :: F) (args := [Value.pointer (some ⟨j, 0, none⟩)]) Tryz.call78 rfl (jthere_c W0 j dp t q false)) (fun _ _ => ?_)
 refine Wl.imp (L' := (pt j 117 [Value.pointer (some ⟨dp, 0, none⟩), Value.string t, Value.int .i64 q, Value.bool false]) :: (isDisk dp d) :: F) (fun _ h => h) ?_
 refine Wl.q (v := Value.bool false) (q_not rfl rfl) ?_
 refine Wl.q (v := Value.bool false) (q_assign rfl) ?_
 refine Wl.done ?_
 refine Wx.go ?_
 refine Wc.no rfl ?_
 refine Wc.seq ?_
 refine Wc.region ?_
 refine Wl.q (v := Value.pointer (some ⟨j, 0, none⟩)) (q_move rfl) ?_
 refine Wl.q (v := Value.pointer (some ⟨j, 0, none⟩)) (q_nil_ptr rfl) ?_
 refine Wl.q (v := Value.pointer (some ⟨j, 3, none⟩)) (q_field (m := 3) fo_117_3 rfl rfl) ?_
 refine Wl.q (v := Value.bool false) (q_load sc_4 rfl (.cel (i := 0) rfl rfl)) ?_
 refine Wl.q (v := Value.bool false) (q_move rfl) ?_
 refine Wl.q (v := Value.pointer (some ⟨j, 0, none⟩)) (q_move rfl) ?_
 refine Wl.q (v := Value.pointer (some ⟨j, 0, none⟩)) (q_nil_ptr rfl) ?_
 refine Wl.q (v := Value.pointer (some ⟨j, 0, none⟩)) (q_field (m := 0) fo_117_0 rfl rfl) ?_
 refine Wl.q (v := Value.pointer (some ⟨dp, 0, none⟩)) (q_load sc_33 rfl (.cel (i := 0) rfl rfl)) ?_
 refine Wl.imp (L' := (isDisk dp d) :: (pt j 117 [Value.pointer (some ⟨dp, 0, none⟩), Value.string t, Value.int .i64 q, Value.bool false]) :: F) (fun _ h => st_pull [1] h) ?_
 refine Wl.e (e_call (F := (pt j 117 [Value.pointer (some ⟨dp, 0, none⟩), Value.string t, Value.int .i64 q, Value.bool false]) :: F) (args := [Value.pointer (some ⟨dp, 0, none⟩)]) Tryz.call29 rfl (Con.eqs (val' := fun _ => Value.bool true) (post' := fun _ => [isDisk dp d]) (up_c W0 dp d ) (fun _ => (by rw [hd]; rfl)) (fun _ => rfl))) (fun _ _ => ?_)
 refine Wl.imp (L' := (isDisk dp d) :: (pt j 117 [Value.pointer (some ⟨dp, 0, none⟩), Value.string t, Value.int .i64 q, Value.bool false]) :: F) (fun _ h => h) ?_
 refine Wl.q (v := Value.bool false) (q_not rfl rfl) ?_
 refine Wl.q (v := Value.bool false) (q_pick (t := false) rfl rfl) ?_
 refine Wl.q (v := Value.bool false) (q_assign rfl) ?_
 refine Wl.done ?_
 refine Wx.go ?_
 refine Wc.no rfl ?_
 refine Wc.skip ?_
 refine Wx.blockEnd ?_
 refine Wx.go ?_
 refine Wc.seq ?_
 refine Wc.region ?_
 refine Wl.q (v := Value.int .i64 0) (q_assign rfl) ?_
 refine Wl.done ?_
 refine Wx.go ?_
 refine Wc.ret ?_
 refine Wx.fin1 rfl (.inl rfl) (fun w hs => ?_)
 exact ⟨(), trivial, rfl, (st_pull [1, 0] (hs))⟩

theorem jstate_off (W0 : World) (j dp : Nat) (t : ByteArray) (q : Int) (d : DS) (dead : Bool) (h : dead = true ∨ d.down = true) : Con Tryz.prog W0 79 #[.pointer (some ⟨j, 0, none⟩)] [pt j 117 [Value.pointer (some ⟨dp, 0, none⟩), Value.string t, Value.int .i64 q, Value.bool dead], isDisk dp d] (X := Unit) (fun _ => True) (fun _ => .int .i64 6) (fun _ => [pt j 117 [Value.pointer (some ⟨dp, 0, none⟩), Value.string t, Value.int .i64 q, Value.bool dead], isDisk dp d]) := by
 cases dead
 · exact jstate_down W0 j dp t q d (h.resolve_left (by simp))
 · exact jstate_dead W0 j dp t q d

theorem seq_in (W0 : World) (j dp : Nat) (t : ByteArray) (q : Int) (dead : Bool) :
  Con Tryz.prog W0 49 #[Value.pointer (some ⟨j, 0, none⟩)] [pt j 117 [Value.pointer (some ⟨dp, 0, none⟩), Value.string t, Value.int .i64 q, Value.bool dead]] (X := Unit) (fun _ => True) (fun _ => .int .i64 q) (fun _ => [pt j 117 [Value.pointer (some ⟨dp, 0, none⟩), Value.string t, Value.int .i64 q, Value.bool dead]]) := by
 refine Con.of (args := [Value.pointer (some ⟨j, 0, none⟩)]) Tryz.func49 rfl Tryz.ntmps49 rfl (fun F => ?_)
 show Wc _ W0 _ _ _ _ _ ((pt j 117 [Value.pointer (some ⟨dp, 0, none⟩), Value.string t, Value.int .i64 q, Value.bool dead]) :: F)
 refine Wc.seq ?_
 refine Wc.region ?_
 refine Wl.q (v := Value.int .i64 0) (q_assign rfl) ?_
 refine Wl.done ?_
 refine Wx.go ?_
 refine Wc.seq ?_
 refine Wc.seq ?_
 refine Wc.region ?_
 refine Wl.q (v := Value.pointer (some ⟨j, 0, none⟩)) (q_move rfl) ?_
 refine Wl.e (e_call (F := F) (args := [Value.pointer (some ⟨j, 0, none⟩)]) Tryz.call78 rfl (jthere_c W0 j dp t q dead)) (fun _ _ => ?_)
 refine Wl.imp (L' := (pt j 117 [Value.pointer (some ⟨dp, 0, none⟩), Value.string t, Value.int .i64 q, Value.bool dead]) :: F) (fun _ h => h) ?_
 refine Wl.q (v := Value.bool false) (q_not rfl rfl) ?_
 refine Wl.done ?_
 refine Wx.go ?_
 refine Wc.no rfl ?_
 refine Wc.skip ?_
 refine Wx.go ?_
 refine Wc.seq ?_
 refine Wc.region ?_
 refine Wl.q (v := Value.pointer (some ⟨j, 0, none⟩)) (q_move rfl) ?_
 refine Wl.q (v := Value.pointer (some ⟨j, 0, none⟩)) (q_nil_ptr rfl) ?_
 refine Wl.q (v := Value.pointer (some ⟨j, 2, none⟩)) (q_field (m := 2) fo_117_2 rfl rfl) ?_
 refine Wl.q (v := Value.int .i64 q) (q_load sc_3 rfl (.cel (i := 0) rfl rfl)) ?_
 refine Wl.q (v := Value.int .i64 q) (q_assign rfl) ?_
 refine Wl.done ?_
 refine Wx.go ?_
 refine Wc.ret ?_
 refine Wx.fin1 rfl (.inl rfl) (fun w hs => ?_)
 exact ⟨(), trivial, rfl, hs⟩

theorem room_in (W0 : World) (j dp : Nat) (t : ByteArray) (q : Int) (d : DS) (dead : Bool) (h1 : 1 ≤ d.secs.length) (hm : d.secs.length ≤ 4096) :
  Con Tryz.prog W0 84 #[Value.pointer (some ⟨j, 0, none⟩)] [pt j 117 [Value.pointer (some ⟨dp, 0, none⟩), Value.string t, Value.int .i64 q, Value.bool dead], isDisk dp d] (X := Unit) (fun _ => True) (fun _ => .int .i64 ((half d.secs * 64 : Nat) : Int)) (fun _ => [pt j 117 [Value.pointer (some ⟨dp, 0, none⟩), Value.string t, Value.int .i64 q, Value.bool dead], isDisk dp d]) := by
 refine Con.of (args := [Value.pointer (some ⟨j, 0, none⟩)]) Tryz.func84 rfl Tryz.ntmps84 rfl (fun F => ?_)
 show Wc _ W0 _ _ _ _ _ ((pt j 117 [Value.pointer (some ⟨dp, 0, none⟩), Value.string t, Value.int .i64 q, Value.bool dead]) :: (isDisk dp d) :: F)
 refine Wc.seq ?_
 refine Wc.region ?_
 refine Wl.q (v := Value.int .i64 0) (q_assign rfl) ?_
 refine Wl.done ?_
 refine Wx.go ?_
 refine Wc.seq ?_
 refine Wc.seq ?_
 refine Wc.region ?_
 refine Wl.q (v := Value.pointer (some ⟨j, 0, none⟩)) (q_move rfl) ?_
 refine Wl.e (e_call (F := (isDisk dp d) :: F) (args := [Value.pointer (some ⟨j, 0, none⟩)]) Tryz.call78 rfl (jthere_c W0 j dp t q dead)) (fun _ _ => ?_)
 refine Wl.imp (L' := (pt j 117 [Value.pointer (some ⟨dp, 0, none⟩), Value.string t, Value.int .i64 q, Value.bool dead]) :: (isDisk dp d) :: F) (fun _ h => h) ?_
 refine Wl.q (v := Value.bool false) (q_not rfl rfl) ?_
 refine Wl.done ?_
 refine Wx.go ?_
 refine Wc.no rfl ?_
 refine Wc.skip ?_
 refine Wx.go ?_
 refine Wc.seq ?_
 refine Wc.region ?_
 refine Wl.q (v := Value.pointer (some ⟨j, 0, none⟩)) (q_move rfl) ?_
 refine Wl.q (v := Value.pointer (some ⟨j, 0, none⟩)) (q_nil_ptr rfl) ?_
 refine Wl.q (v := Value.pointer (some ⟨j, 0, none⟩)) (q_field (m := 0) fo_117_0 rfl rfl) ?_
 refine Wl.q (v := Value.pointer (some ⟨dp, 0, none⟩)) (q_load sc_33 rfl (.cel (i := 0) rfl rfl)) ?_
 refine Wl.imp (L' := (isDisk dp d) :: (pt j 117 [Value.pointer (some ⟨dp, 0, none⟩), Value.string t, Value.int .i64 q, Value.bool dead]) :: F) (fun _ h => st_pull [1] h) ?_
 refine Wl.e (e_call (F := (pt j 117 [Value.pointer (some ⟨dp, 0, none⟩), Value.string t, Value.int .i64 q, Value.bool dead]) :: F) (args := [Value.pointer (some ⟨dp, 0, none⟩)]) Tryz.call76 rfl (sectors_c W0 dp d h1 hm)) (fun _ _ => ?_)
 refine Wl.imp (L' := (isDisk dp d) :: (pt j 117 [Value.pointer (some ⟨dp, 0, none⟩), Value.string t, Value.int .i64 q, Value.bool dead]) :: F) (fun _ h => h) ?_
 have hh : half d.secs ≤ 4096 := by unfold half; omega
 refine Wl.q (v := Value.int .i64 (((half d.secs) * 64 : Nat) : Int)) (q_mul (c := (((half d.secs) * 64 : Nat) : Int)) rfl rfl (by rw [wrap_i64] <;> omega)) ?_
 refine Wl.q (v := Value.int .i64 (((half d.secs) * 64 : Nat) : Int)) (q_assign rfl) ?_
 refine Wl.done ?_
 refine Wx.go ?_
 refine Wc.ret ?_
 refine Wx.fin1 rfl (.inl rfl) (fun w hs => ?_)
 exact ⟨(), trivial, rfl, (st_pull [1, 0] (hs))⟩


theorem st_swap4 {W0 w : World} {a b c x : HP} {L : List HP} (h : st W0 w (x :: a :: b :: c :: L)) : st W0 w (a :: b :: c :: x :: L) := st_pull [1, 1, 1] h

theorem load_c (W0 : World) (j dp : Nat) (t : ByteArray) (q l : Int) (dead : Bool) (d : DS) (hw : WF d) (hd : d.down = false) (h4 : 4 ≤ d.secs.length) (hsn : d.since.length < 1099511627776) (h0 : 0 ≤ l) (hl : l ≤ ((half d.secs * 64 : Nat) : Int)) (hq : 0 ≤ q) :
    Con Tryz.prog W0 77 #[Value.pointer (some ⟨j, 0, none⟩), Value.int .i64 l] [pt j 117 [Value.pointer (some ⟨dp, 0, none⟩), Value.string t, Value.int .i64 q, Value.bool dead], isDisk dp d] (X := Unit) (fun _ => True) (fun _ => .int .i64 0) (fun _ => [isDisk dp d, pt j 117 [Value.pointer (some ⟨dp, 0, none⟩), Value.string (textR (rd d) (first d.secs q) l), Value.int .i64 q, Value.bool dead]]) := by
  refine Con.of (args := [Value.pointer (some ⟨j, 0, none⟩), Value.int .i64 l]) Tryz.func77 rfl Tryz.ntmps77 rfl (fun F => ?_)
  have hm := hw.l.len
  have hh : half d.secs ≤ 2047 := by unfold half; omega
  have hf2 : first d.secs q ≤ 4096 := by unfold first; split <;> omega
  show Wc _ W0 _ _ _ _ _ ((pt j 117 [Value.pointer (some ⟨dp, 0, none⟩), Value.string t, Value.int .i64 q, Value.bool dead]) :: (isDisk dp d) :: F)
  refine Wc.seq ?_
  refine Wc.region ?_
  refine Wl.q (v := Value.int .i64 0) (q_assign rfl) ?_
  refine Wl.done ?_
  refine Wx.go ?_
  refine Wc.seq ?_
  refine Wc.region ?_
  refine Wl.e (e_alloc (vs := [Value.pointer none, Value.slice none 0 0]) zo_132 rfl) (fun bb _ => ?_)
  refine Wl.imp (L' := (pt bb 132 [Value.pointer none, Value.slice none 0 0]) :: (pt j 117 [Value.pointer (some ⟨dp, 0, none⟩), Value.string t, Value.int .i64 q, Value.bool dead]) :: (isDisk dp d) :: F) (fun _ h => h) ?_
  refine Wl.done ?_
  refine Wx.go ?_
  refine Wc.seq ?_
  refine Wc.seq ?_
  refine Wc.drawsS [8] ((pt bb 132 [Value.pointer none, Value.slice none 0 0]) :: (pt j 117 [Value.pointer (some ⟨dp, 0, none⟩), Value.string t, Value.int .i64 q, Value.bool dead]) :: (isDisk dp d) :: []) (by kernel_rfl) ?_
  refine Wr.pure (v := Value.pointer (some ⟨j, 0, none⟩)) 0 rfl (by kernel_rfl) (.inr (fun _ h => st_take [0, 0, 0] h)) (.inl ⟨rfl, fun _ => q_move rfl⟩) ?_
  refine Wr.pure (v := Value.pointer (some ⟨j, 0, none⟩)) 1 rfl (by kernel_rfl) (.inr (fun _ h => st_take [0, 0, 0] h)) (.inl ⟨rfl, fun _ => q_nil_ptr rfl⟩) ?_
  refine Wr.pure (v := Value.pointer (some ⟨j, 0, none⟩)) 2 rfl (by kernel_rfl) (.inr (fun _ h => st_take [0, 0, 0] h)) (.inl ⟨rfl, fun _ => q_field (m := 0) fo_117_0 rfl rfl⟩) ?_
  refine Wr.take (v := Value.pointer (some ⟨dp, 0, none⟩)) 3 rfl (by kernel_rfl) (fun _ h => st_take [0, 0, 0] h) (.inl ⟨rfl, q_load sc_33 rfl (.cel (i := 1) rfl rfl)⟩) ?_
  refine Wr.pure (v := Value.pointer (some ⟨j, 0, none⟩)) 4 rfl (by kernel_rfl) (.inr (fun _ h => st_take [0, 0, 0] h)) (.inl ⟨rfl, fun _ => q_move rfl⟩) ?_
  refine Wr.pure (v := Value.pointer (some ⟨j, 0, none⟩)) 5 rfl (by kernel_rfl) (.inr (fun _ h => st_take [0, 0, 0] h)) (.inl ⟨rfl, fun _ => q_nil_ptr rfl⟩) ?_
  refine Wr.pure (v := Value.pointer (some ⟨j, 2, none⟩)) 6 rfl (by kernel_rfl) (.inr (fun _ h => st_take [0, 0, 0] h)) (.inl ⟨rfl, fun _ => q_field (m := 2) fo_117_2 rfl rfl⟩) ?_
  refine Wr.take (v := Value.int .i64 q) 7 rfl (by kernel_rfl) (fun _ h => st_take [0, 0, 0] h) (.inl ⟨rfl, q_load sc_3 rfl (.cel (i := 1) rfl rfl)⟩) ?_
  refine Wr.imp (L' := (isDisk dp d) :: (pt bb 132 [Value.pointer none, Value.slice none 0 0]) :: (pt j 117 [Value.pointer (some ⟨dp, 0, none⟩), Value.string t, Value.int .i64 q, Value.bool dead]) :: F) (fun _ h => st_pull [2] h) ?_
  refine Wr.e 8 (by kernel_rfl) rfl (e_call (F := (pt bb 132 [Value.pointer none, Value.slice none 0 0]) :: (pt j 117 [Value.pointer (some ⟨dp, 0, none⟩), Value.string t, Value.int .i64 q, Value.bool dead]) :: F) (args := [Value.pointer (some ⟨dp, 0, none⟩), Value.int .i64 q]) Tryz.call92 rfl (first_c W0 dp d q hq (by omega) hm)) (.inl (by kernel_rfl)) (fun _ _ => ?_)
  refine Wr.imp (L' := (isDisk dp d) :: (pt bb 132 [Value.pointer none, Value.slice none 0 0]) :: (pt j 117 [Value.pointer (some ⟨dp, 0, none⟩), Value.string t, Value.int .i64 q, Value.bool dead]) :: F) (fun _ h => h) ?_
  refine Wr.rebaseS [] ((isDisk dp d) :: (pt bb 132 [Value.pointer none, Value.slice none 0 0]) :: (pt j 117 [Value.pointer (some ⟨dp, 0, none⟩), Value.string t, Value.int .i64 q, Value.bool dead]) :: []) (by kernel_rfl) ?_
  refine Wr.pure (v := Value.int .i64 ((first d.secs q : Nat) : Int)) 9 rfl (by kernel_rfl) (.inr (fun _ h => st_take [0, 0, 0] h)) (.inl ⟨rfl, fun _ => q_assign rfl⟩) ?_
  refine Wr.done (by kernel_rfl) ?_
  refine Wx.go ?_
  refine Wc.block ?_
  refine Wc.loop (X := Nat × Value × Value) (fun (k, a, v) E => E 6 = Value.int .i64 (((first d.secs q + k) : Nat) : Int) ∧ E 0 = Value.pointer (some ⟨j, 0, none⟩) ∧ E 1 = Value.int .i64 l ∧ E 5 = Value.pointer (some ⟨bb, 0, none⟩) ∧ (a = .pointer none ∨ a = .pointer (some ⟨bb, 0, none⟩)) ∧ k ≤ (l.toNat + 63) / 64 ∧ (k = 0 → v = .slice none 0 0)) (fun (k, a, v) => (isDisk dp d) :: (pt j 117 [Value.pointer (some ⟨dp, 0, none⟩), Value.string t, Value.int .i64 q, Value.bool dead]) :: (pt bb 132 [a, v]) :: (sl 5 1 v ((catR (rd d) (first d.secs q) k).size) (Lib.strCells (catR (rd d) (first d.secs q) k))) :: F) (fun (k, a, v) => (l.toNat + 63) / 64 - k) (0, .pointer none, .slice none 0 0) ?_ ?_ ?_
  · exact ⟨rfl, rfl, rfl, rfl, (.inl rfl), (by omega), (fun _ => rfl)⟩
  · exact fun w hs => by have h2 := (st_pull [0, 1, 0] (hs)); exact st_swap4 (st_sl_nil h2)
  · rintro ⟨k, a, v⟩ E2 ⟨hE6_0, hE0_0, hE1_0, hE5_0, ha, hk, hv⟩
    dsimp only at *
    have hcs : (catR (rd d) (first d.secs q) k).size = k * 64 := catR_size k (fun i hi => rd_size hw (first_le h4 q (by omega)))
    refine Wc.seq ?_
    refine Wc.seq ?_
    refine Wc.region ?_
    refine Wl.imp (L' := (pt bb 132 [a, v]) :: (sl 5 1 v ((catR (rd d) (first d.secs q) k).size) (Lib.strCells (catR (rd d) (first d.secs q) k))) :: (isDisk dp d) :: (pt j 117 [Value.pointer (some ⟨dp, 0, none⟩), Value.string t, Value.int .i64 q, Value.bool dead]) :: F) (fun _ h => st_pull [2, 2] h) ?_
    refine Wl.e (e_call (F := (isDisk dp d) :: (pt j 117 [Value.pointer (some ⟨dp, 0, none⟩), Value.string t, Value.int .i64 q, Value.bool dead]) :: F) (args := [Value.pointer (some ⟨bb, 0, none⟩)]) Tryz.call93 (mcons (by exact hE5_0) mnil) (blen_c W0 bb ((catR (rd d) (first d.secs q) k).size) a v (Lib.strCells (catR (rd d) (first d.secs q) k)))) (fun _ _ => ?_)
    refine Wl.imp (L' := (pt bb 132 [a, v]) :: (sl 5 1 v ((catR (rd d) (first d.secs q) k).size) (Lib.strCells (catR (rd d) (first d.secs q) k))) :: (isDisk dp d) :: (pt j 117 [Value.pointer (some ⟨dp, 0, none⟩), Value.string t, Value.int .i64 q, Value.bool dead]) :: F) (fun _ h => h) ?_
    refine Wl.q (v := Value.int .i64 l) (q_move hE1_0) ?_
    by_cases hlt : (((catR (rd d) (first d.secs q) k).size : Nat) : Int) < l
    ·
      refine Wl.q (v := Value.bool true) (q_lss (r := true) rfl rfl (decide_eq_true hlt)) ?_
      refine Wl.done ?_
      refine Wx.go ?_
      refine Wc.yes rfl ?_
      refine Wc.skip ?_
      refine Wx.go ?_
      refine Wc.seq ?_
      refine Wc.block ?_
      refine Wc.seq ?_
      refine Wc.region ?_
      refine Wl.q (v := Value.pointer (some ⟨j, 0, none⟩)) (q_move hE0_0) ?_
      refine Wl.q (v := Value.pointer (some ⟨j, 0, none⟩)) (q_nil_ptr rfl) ?_
      refine Wl.q (v := Value.pointer (some ⟨j, 0, none⟩)) (q_field (m := 0) fo_117_0 rfl rfl) ?_
      refine Wl.q (v := Value.pointer (some ⟨dp, 0, none⟩)) (q_load sc_33 rfl (.cel (i := 3) rfl rfl)) ?_
      refine Wl.q (v := Value.int .i64 (((first d.secs q + k) : Nat) : Int)) (q_move hE6_0) ?_
      refine Wl.imp (L' := (isDisk dp d) :: (pt bb 132 [a, v]) :: (sl 5 1 v ((catR (rd d) (first d.secs q) k).size) (Lib.strCells (catR (rd d) (first d.secs q) k))) :: (pt j 117 [Value.pointer (some ⟨dp, 0, none⟩), Value.string t, Value.int .i64 q, Value.bool dead]) :: F) (fun _ h => st_pull [2] h) ?_
      refine Wl.e (e_call (F := (pt bb 132 [a, v]) :: (sl 5 1 v ((catR (rd d) (first d.secs q) k).size) (Lib.strCells (catR (rd d) (first d.secs q) k))) :: (pt j 117 [Value.pointer (some ⟨dp, 0, none⟩), Value.string t, Value.int .i64 q, Value.bool dead]) :: F) (args := [Value.pointer (some ⟨dp, 0, none⟩), Value.int .i64 (((first d.secs q + k) : Nat) : Int)]) Tryz.call74 rfl (Con.eqs (val' := fun _ => Value.tuple #[Value.string (rd d (first d.secs q + k)), Value.int .i64 0]) (post' := fun _ => [isDisk dp d]) (read_c W0 dp d (((first d.secs q + k) : Nat) : Int) hsn) (fun _ => (by rw [rd_read hd (first_le h4 q (by omega))])) (fun _ => rfl))) (fun _ _ => ?_)
      refine Wl.imp (L' := (isDisk dp d) :: (pt bb 132 [a, v]) :: (sl 5 1 v ((catR (rd d) (first d.secs q) k).size) (Lib.strCells (catR (rd d) (first d.secs q) k))) :: (pt j 117 [Value.pointer (some ⟨dp, 0, none⟩), Value.string t, Value.int .i64 q, Value.bool dead]) :: F) (fun _ h => h) ?_
      refine Wl.q (v := Value.tuple #[Value.string (rd d (first d.secs q + k)), Value.int .i64 0]) (q_move rfl) ?_
      refine Wl.q (v := Value.string (rd d (first d.secs q + k))) (q_extract (i := 0) rfl rfl) ?_
      refine Wl.q (v := Value.int .i64 0) (q_extract (i := 1) rfl rfl) ?_
      refine Wl.q (v := Value.string (rd d (first d.secs q + k))) (q_assign rfl) ?_
      refine Wl.q (v := Value.int .i64 0) (q_assign rfl) ?_
      refine Wl.done ?_
      refine Wx.go ?_
      refine Wc.seq ?_
      refine Wc.seq ?_
      refine Wc.region ?_
      refine Wl.q (v := Value.int .i64 0) (q_move rfl) ?_
      refine Wl.q (v := Value.bool false) (q_neq (r := true) rfl rfl (decide_eq_true (by decide))) ?_
      refine Wl.done ?_
      refine Wx.go ?_
      refine Wc.no rfl ?_
      refine Wc.skip ?_
      refine Wx.go ?_
      refine Wc.region ?_
      refine Wl.q (v := Value.string (rd d (first d.secs q + k))) (q_move rfl) ?_
      refine Wl.imp (L' := (pt bb 132 [a, v]) :: (sl 5 1 v ((catR (rd d) (first d.secs q) k).size) (Lib.strCells (catR (rd d) (first d.secs q) k))) :: (isDisk dp d) :: (pt j 117 [Value.pointer (some ⟨dp, 0, none⟩), Value.string t, Value.int .i64 q, Value.bool dead]) :: F) (fun _ h => st_pull [1, 1] h) ?_
      refine Wl.e (e_call (F := (isDisk dp d) :: (pt j 117 [Value.pointer (some ⟨dp, 0, none⟩), Value.string t, Value.int .i64 q, Value.bool dead]) :: F) (args := [Value.pointer (some ⟨bb, 0, none⟩), Value.string (rd d (first d.secs q + k))]) Tryz.call94 (mcons (by exact hE5_0) (mcons rfl mnil)) (bwrite_c W0 bb ((catR (rd d) (first d.secs q) k).size) a v (Lib.strCells (catR (rd d) (first d.secs q) k)) (rd d (first d.secs q + k)) ha (by rw [rd_size hw (first_le h4 q (by omega))]; omega))) (fun v2 _ => ?_)
      refine Wl.imp (L' := (pt bb 132 [Value.pointer (some ⟨bb, 0, none⟩), v2]) :: (sl 5 1 v2 (((catR (rd d) (first d.secs q) k).size) + (rd d (first d.secs q + k)).size) ((Lib.strCells (catR (rd d) (first d.secs q) k)) ++ Lib.strCells (rd d (first d.secs q + k)))) :: (isDisk dp d) :: (pt j 117 [Value.pointer (some ⟨dp, 0, none⟩), Value.string t, Value.int .i64 q, Value.bool dead]) :: F) (fun _ h => h) ?_
      refine Wl.done ?_
      refine Wx.blockEnd ?_
      refine Wx.go ?_
      refine Wc.region ?_
      refine Wl.q (v := Value.int .i64 (((first d.secs q + k) : Nat) : Int)) (q_move hE6_0) ?_
      refine Wl.q (v := Value.int .i64 (((first d.secs q + k) + 1 : Nat) : Int)) (q_add (c := (((first d.secs q + k) + 1 : Nat) : Int)) rfl rfl (by rw [wrap_i64] <;> omega)) ?_
      refine Wl.q (v := Value.int .i64 (((first d.secs q + k) + 1 : Nat) : Int)) (q_assign rfl) ?_
      refine Wl.done ?_
      refine Wx.at (k + 1, .pointer (some ⟨bb, 0, none⟩), v2) ⟨(by simp only; omega), rfl, hE0_0, hE1_0, hE5_0, (.inr rfl), (by omega), (fun h => absurd h (Nat.succ_ne_zero k))⟩ (fun w hs => by have h2 : st W0 w ((isDisk dp d) :: (pt j 117 [Value.pointer (some ⟨dp, 0, none⟩), Value.string t, Value.int .i64 q, Value.bool dead]) :: (pt bb 132 [Value.pointer (some ⟨bb, 0, none⟩), v2]) :: (sl 5 1 v2 ((catR (rd d) (first d.secs q) (k + 1)).size) (Lib.strCells (catR (rd d) (first d.secs q) (k + 1)))) :: F) := (by rw [catR, ByteArray.size_append, strCells_app]; exact (st_pull [2, 2, 0, 0] (hs))); exact h2)
    ·
      refine Wl.q (v := Value.bool false) (q_lss (r := false) rfl rfl (decide_eq_false hlt)) ?_
      refine Wl.done ?_
      refine Wx.go ?_
      refine Wc.no rfl ?_
      refine Wc.exit ?_
      refine Wx.thenExit ?_
      refine Wx.thenExit ?_
      refine Wx.out ?_
      refine Wx.go ?_
      refine Wc.seq ?_
      refine Wc.region ?_
      refine Wl.q (v := Value.pointer (some ⟨j, 0, none⟩)) (q_move hE0_0) ?_
      refine Wl.e (e_call (F := (isDisk dp d) :: (pt j 117 [Value.pointer (some ⟨dp, 0, none⟩), Value.string t, Value.int .i64 q, Value.bool dead]) :: F) (args := [Value.pointer (some ⟨bb, 0, none⟩)]) Tryz.call95 (mcons (by exact hE5_0) mnil) (bstr_c W0 bb a v (catR (rd d) (first d.secs q) k) (by omega) (fun h => hv (by omega)))) (fun _ _ => ?_)
      refine Wl.imp (L' := (pt bb 132 [a, v]) :: (isDisk dp d) :: (pt j 117 [Value.pointer (some ⟨dp, 0, none⟩), Value.string t, Value.int .i64 q, Value.bool dead]) :: F) (fun _ h => h) ?_
      refine Wl.q (v := Value.int .i64 ((l.toNat : Nat) : Int)) (q_move (Eq.trans hE1_0 (congrArg (Value.int .i64) (Int.toNat_of_nonneg h0).symm))) ?_
      refine Wl.q (v := Value.string ((catR (rd d) (first d.secs q) k).extract 0 l.toNat)) (q_slice_str (l := 0) (h := l.toNat) Tryz.underlying9 rfl rfl ⟨_, rfl⟩ (by omega) (by omega) rfl) ?_
      refine Wl.q (v := Value.pointer (some ⟨j, 0, none⟩)) (q_nil_ptr rfl) ?_
      refine Wl.q (v := Value.pointer (some ⟨j, 1, none⟩)) (q_field (m := 1) fo_117_1 rfl rfl) ?_
      refine Wl.e (e_store (i := 2) (v := Value.string ((catR (rd d) (first d.secs q) k).extract 0 l.toNat)) sz_9 rfl rfl (fun _ _ => rfl) rfl (by simp)) (fun _ _ => ?_)
      refine Wl.imp (L' := (pt bb 132 [a, v]) :: (isDisk dp d) :: (pt j 117 [Value.pointer (some ⟨dp, 0, none⟩), Value.string ((catR (rd d) (first d.secs q) k).extract 0 l.toNat), Value.int .i64 q, Value.bool dead]) :: F) (fun _ h => h) ?_
      refine Wl.done ?_
      refine Wx.go ?_
      refine Wc.seq ?_
      refine Wc.region ?_
      refine Wl.q (v := Value.int .i64 0) (q_assign rfl) ?_
      refine Wl.done ?_
      refine Wx.go ?_
      refine Wc.ret ?_
      refine Wx.fin1 rfl (.inl rfl) (fun w hs => ?_)
      have he : k = (l.toNat + 63) / 64 := by omega
      exact ⟨(), trivial, rfl, by unfold textR; rw [← he]; exact (st_drop (st_pull [0] hs))⟩

end Go.Proofs.YtkndmgfahghcjaaGreat

