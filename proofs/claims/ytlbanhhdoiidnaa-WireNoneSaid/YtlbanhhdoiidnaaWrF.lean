/- The wire: contracts of its calls. -/
import Derived.Test.YtlbanhhdoiidnaaWrE
namespace Go.Proofs.Ytlbanhhdoiidnaa
open Go Go.SL Go.Wr Go.RowKit
open Go.Dk (beyondF beyondB beyond_step beyond_le beyond_one beyond_two)
set_option linter.unusedVariables false
theorem fo_44_0 : fieldOff Try.prog 44 0 = some 0 := by kernel_rfl
theorem fo_44_1 : fieldOff Try.prog 44 1 = some 1 := by kernel_rfl
theorem fo_44_2 : fieldOff Try.prog 44 2 = some 2 := by kernel_rfl
theorem wbyte_neg (W0 : World) (q : Nat) (l : List UInt8) (n : Int) (sv : Value) (hn : n < 0) :
    Con Try.prog W0 40 #[Value.pointer (some ⟨q, 0, none⟩), Value.int .i64 n] [pt q 57 [Value.bool true, sv], sl 5 1 sv l.length (l.map u8v)] (X := Unit) (fun _ => True) (fun _ => .int .i64 1) (fun _ => [pt q 57 [Value.bool true, sv], sl 5 1 sv l.length (l.map u8v)]) := by
  refine Con.of (args := [Value.pointer (some ⟨q, 0, none⟩), Value.int .i64 n]) Try.func40 rfl Try.ntmps40 rfl (fun F => ?_)
  show Wc _ W0 _ _ _ _ _ ((pt q 57 [Value.bool true, sv]) :: (sl 5 1 sv l.length (l.map u8v)) :: F)
  refine Wc.seq ?_
  refine Wc.region ?_
  refine Wl.q (v := Value.int .i64 0) (q_assign rfl) ?_
  refine Wl.done ?_
  refine Wx.go ?_
  refine Wc.seq ?_
  refine Wc.block ?_
  refine Wc.seq ?_
  refine Wc.region ?_
  refine Wl.q (v := Value.pointer (some ⟨q, 0, none⟩)) (q_move rfl) ?_
  refine Wl.e (e_call (F := (sl 5 1 sv l.length (l.map u8v)) :: F) (args := [Value.pointer (some ⟨q, 0, none⟩)]) Try.call27 rfl (wthere_yes W0 q (sv))) (fun _ _ => ?_)
  refine Wl.imp (L' := (pt q 57 [Value.bool true, sv]) :: (sl 5 1 sv l.length (l.map u8v)) :: F) (fun _ h => h) ?_
  refine Wl.q (v := Value.bool false) (q_not rfl rfl) ?_
  refine Wl.q (v := Value.bool false) (q_assign rfl) ?_
  refine Wl.done ?_
  refine Wx.go ?_
  refine Wc.no rfl ?_
  refine Wc.seq ?_
  refine Wc.region ?_
  refine Wl.q (v := Value.int .i64 n) (q_move rfl) ?_
  refine Wl.q (v := Value.bool true) (q_lss (r := true) rfl rfl (decide_eq_true (hn))) ?_
  refine Wl.q (v := Value.bool true) (q_move rfl) ?_
  refine Wl.no ?_
  refine Wl.no ?_
  refine Wl.q (v := Value.bool true) (q_pick (t := true) rfl rfl) ?_
  refine Wl.q (v := Value.bool true) (q_assign rfl) ?_
  refine Wl.done ?_
  refine Wx.go ?_
  refine Wc.yes rfl ?_
  refine Wc.seq ?_
  refine Wc.region ?_
  refine Wl.q (v := Value.int .i64 1) (q_assign rfl) ?_
  refine Wl.done ?_
  refine Wx.go ?_
  refine Wc.ret ?_
  refine Wx.blockRet ?_
  refine Wx.thenRet ?_
  refine Wx.fin1 rfl (.inl rfl) (fun w hs => ?_)
  exact ⟨(), trivial, rfl, hs⟩

theorem wbyte_big (W0 : World) (q : Nat) (l : List UInt8) (n : Int) (sv : Value) (h0 : 0 ≤ n) (hn : 255 < n) :
    Con Try.prog W0 40 #[Value.pointer (some ⟨q, 0, none⟩), Value.int .i64 n] [pt q 57 [Value.bool true, sv], sl 5 1 sv l.length (l.map u8v)] (X := Unit) (fun _ => True) (fun _ => .int .i64 1) (fun _ => [pt q 57 [Value.bool true, sv], sl 5 1 sv l.length (l.map u8v)]) := by
  refine Con.of (args := [Value.pointer (some ⟨q, 0, none⟩), Value.int .i64 n]) Try.func40 rfl Try.ntmps40 rfl (fun F => ?_)
  show Wc _ W0 _ _ _ _ _ ((pt q 57 [Value.bool true, sv]) :: (sl 5 1 sv l.length (l.map u8v)) :: F)
  refine Wc.seq ?_
  refine Wc.region ?_
  refine Wl.q (v := Value.int .i64 0) (q_assign rfl) ?_
  refine Wl.done ?_
  refine Wx.go ?_
  refine Wc.seq ?_
  refine Wc.block ?_
  refine Wc.seq ?_
  refine Wc.region ?_
  refine Wl.q (v := Value.pointer (some ⟨q, 0, none⟩)) (q_move rfl) ?_
  refine Wl.e (e_call (F := (sl 5 1 sv l.length (l.map u8v)) :: F) (args := [Value.pointer (some ⟨q, 0, none⟩)]) Try.call27 rfl (wthere_yes W0 q (sv))) (fun _ _ => ?_)
  refine Wl.imp (L' := (pt q 57 [Value.bool true, sv]) :: (sl 5 1 sv l.length (l.map u8v)) :: F) (fun _ h => h) ?_
  refine Wl.q (v := Value.bool false) (q_not rfl rfl) ?_
  refine Wl.q (v := Value.bool false) (q_assign rfl) ?_
  refine Wl.done ?_
  refine Wx.go ?_
  refine Wc.no rfl ?_
  refine Wc.seq ?_
  refine Wc.region ?_
  refine Wl.q (v := Value.int .i64 n) (q_move rfl) ?_
  refine Wl.q (v := Value.bool false) (q_lss (r := false) rfl rfl (decide_eq_false (by omega))) ?_
  refine Wl.q (v := Value.bool false) (q_move rfl) ?_
  refine Wl.q (v := Value.int .i64 n) (q_move rfl) ?_
  refine Wl.q (v := Value.bool true) (q_gtr (r := true) rfl rfl (decide_eq_true (hn))) ?_
  refine Wl.q (v := Value.bool true) (q_pick (t := false) rfl rfl) ?_
  refine Wl.q (v := Value.bool true) (q_assign rfl) ?_
  refine Wl.done ?_
  refine Wx.go ?_
  refine Wc.yes rfl ?_
  refine Wc.seq ?_
  refine Wc.region ?_
  refine Wl.q (v := Value.int .i64 1) (q_assign rfl) ?_
  refine Wl.done ?_
  refine Wx.go ?_
  refine Wc.ret ?_
  refine Wx.blockRet ?_
  refine Wx.thenRet ?_
  refine Wx.fin1 rfl (.inl rfl) (fun w hs => ?_)
  exact ⟨(), trivial, rfl, hs⟩

theorem wbyte_o (W0 : World) (q : Nat) (l : List UInt8) (n : Nat) (sv : Value) (hn : n < 256) (hl : l.length < 100000000000000) :
    Con Try.prog W0 40 #[Value.pointer (some ⟨q, 0, none⟩), Value.int .i64 ((n : Nat) : Int)] [pt q 57 [Value.bool true, sv], sl 5 1 sv l.length (l.map u8v)] (X := Value) (fun _ => True) (fun _ => .int .i64 0) (fun v => [pt q 57 [Value.bool true, v], sl 5 1 v ((l ++ [UInt8.ofNat n]).length) ((l ++ [UInt8.ofNat n]).map u8v)]) := by
  refine Con.of (args := [Value.pointer (some ⟨q, 0, none⟩), Value.int .i64 ((n : Nat) : Int)]) Try.func40 rfl Try.ntmps40 rfl (fun F => ?_)
  show Wc _ W0 _ _ _ _ _ ((pt q 57 [Value.bool true, sv]) :: (sl 5 1 sv l.length (l.map u8v)) :: F)
  refine Wc.seq ?_
  refine Wc.region ?_
  refine Wl.q (v := Value.int .i64 0) (q_assign rfl) ?_
  refine Wl.done ?_
  refine Wx.go ?_
  refine Wc.seq ?_
  refine Wc.block ?_
  refine Wc.seq ?_
  refine Wc.region ?_
  refine Wl.q (v := Value.pointer (some ⟨q, 0, none⟩)) (q_move rfl) ?_
  refine Wl.e (e_call (F := (sl 5 1 sv l.length (l.map u8v)) :: F) (args := [Value.pointer (some ⟨q, 0, none⟩)]) Try.call27 rfl (wthere_yes W0 q (sv))) (fun _ _ => ?_)
  refine Wl.imp (L' := (pt q 57 [Value.bool true, sv]) :: (sl 5 1 sv l.length (l.map u8v)) :: F) (fun _ h => h) ?_
  refine Wl.q (v := Value.bool false) (q_not rfl rfl) ?_
  refine Wl.q (v := Value.bool false) (q_assign rfl) ?_
  refine Wl.done ?_
  refine Wx.go ?_
  refine Wc.no rfl ?_
  refine Wc.seq ?_
  refine Wc.region ?_
  refine Wl.q (v := Value.int .i64 ((n : Nat) : Int)) (q_move rfl) ?_
  refine Wl.q (v := Value.bool false) (q_lss (r := false) rfl rfl (decide_eq_false (by omega))) ?_
  refine Wl.q (v := Value.bool false) (q_move rfl) ?_
  refine Wl.q (v := Value.int .i64 ((n : Nat) : Int)) (q_move rfl) ?_
  refine Wl.q (v := Value.bool false) (q_gtr (r := false) rfl rfl (decide_eq_false (by omega))) ?_
  refine Wl.q (v := Value.bool false) (q_pick (t := false) rfl rfl) ?_
  refine Wl.q (v := Value.bool false) (q_assign rfl) ?_
  refine Wl.done ?_
  refine Wx.go ?_
  refine Wc.no rfl ?_
  refine Wc.skip ?_
  refine Wx.blockEnd ?_
  refine Wx.go ?_
  refine Wc.seq ?_
  refine Wc.region ?_
  refine Wl.q (v := Value.pointer (some ⟨q, 0, none⟩)) (q_move rfl) ?_
  refine Wl.q (v := Value.pointer (some ⟨q, 0, none⟩)) (q_move rfl) ?_
  refine Wl.q (v := Value.pointer (some ⟨q, 0, none⟩)) (q_nil_ptr rfl) ?_
  refine Wl.q (v := Value.pointer (some ⟨q, 1, none⟩)) (q_field (m := 1) fo_57_1 rfl rfl) ?_
  refine Wl.q (v := sv) (q_load sc_40 rfl (.cel (i := 0) rfl rfl)) ?_
  refine Wl.q (v := Value.int .i64 ((n : Nat) : Int)) (q_move rfl) ?_
  refine Wl.q (v := Value.int .u8 ((n : Nat) : Int)) (q_conv_int (c := ((n : Nat) : Int)) Try.underlying5 (by rw [Try.underlying3]; rfl) rfl (by rw [conv8]; omega)) ?_
  refine Wl.e (e_buildSlice (cs := [Value.int .u8 ((n : Nat) : Int)]) se_40 zo_5 (by decide) (by decide) (by kernel_rfl)) (fun b1 _ => ?_)
  refine Wl.imp (L' := (pt b1 5 [Value.int .u8 ((n : Nat) : Int)]) :: (pt q 57 [Value.bool true, sv]) :: (sl 5 1 sv l.length (l.map u8v)) :: F) (fun _ h => h) ?_
  refine Wl.e (e_append (i := 2) (k := 1) (m := 1) (off := 0) (news := [Value.int .u8 ((n : Nat) : Int)]) Try.underlying40 sz_5 by_5 zo_5 rfl rfl rfl rfl rfl (Has.of_pt (i := 0) rfl rfl) rfl (by decide) (by simp only [maxLen]; omega) (by omega)) (fun v3 _ => ?_)
  refine Wl.imp (L' := (pt b1 5 [Value.int .u8 ((n : Nat) : Int)]) :: (pt q 57 [Value.bool true, sv]) :: (sl 5 1 v3 (l.length + 1) ((l.map u8v) ++ [Value.int .u8 ((n : Nat) : Int)])) :: F) (fun _ h => h) ?_
  refine Wl.q (v := Value.pointer (some ⟨q, 0, none⟩)) (q_nil_ptr rfl) ?_
  refine Wl.q (v := Value.pointer (some ⟨q, 1, none⟩)) (q_field (m := 1) fo_57_1 rfl rfl) ?_
  refine Wl.e (e_store (i := 1) (v := v3) sz_40 rfl rfl (fun _ h => sl_one (i := 2) h rfl) rfl (by simp)) (fun _ _ => ?_)
  refine Wl.imp (L' := (pt b1 5 [Value.int .u8 ((n : Nat) : Int)]) :: (pt q 57 [Value.bool true, v3]) :: (sl 5 1 v3 (l.length + 1) ((l.map u8v) ++ [Value.int .u8 ((n : Nat) : Int)])) :: F) (fun _ h => h) ?_
  refine Wl.done ?_
  refine Wx.go ?_
  refine Wc.seq ?_
  refine Wc.region ?_
  refine Wl.q (v := Value.int .i64 0) (q_assign rfl) ?_
  refine Wl.done ?_
  refine Wx.go ?_
  refine Wc.ret ?_
  refine Wx.fin1 rfl (.inl rfl) (fun w hs => ?_)
  exact ⟨v3, trivial, rfl, by simp only [List.length_append, List.length_singleton, u8_snoc l hn]; exact (st_drop (st_pull [0] hs))⟩

theorem wbyte_c (W0 : World) (q : Nat) (l : List UInt8) (n : Int) (hl : l.length < 50000000000000) :
    Con Try.prog W0 40 #[Value.pointer (some ⟨q, 0, none⟩), Value.int .i64 n] [isW q l] (X := Unit) (fun _ => True) (fun _ => .int .i64 (byteW n).1) (fun _ => [isW q (l ++ (byteW n).2)]) := Con.wr fun sv => by
  by_cases h0 : n < 0
  · have e : byteW n = (1, []) := if_pos (.inl h0)
    rw [e]; exact (wbyte_neg W0 q l n sv h0).mono fun _ _ => ⟨(), trivial, rfl, fun _ _ h => isW_mk (by rw [List.append_nil]; exact h)⟩
  by_cases h1 : 255 < n
  · have e : byteW n = (1, []) := if_pos (.inr h1)
    rw [e]; exact (wbyte_big W0 q l n sv (by omega) h1).mono fun _ _ => ⟨(), trivial, rfl, fun _ _ h => isW_mk (by rw [List.append_nil]; exact h)⟩
  obtain ⟨m, rfl⟩ := Int.eq_ofNat_of_zero_le (show 0 ≤ n by omega)
  have e : byteW (m : Int) = (0, [UInt8.ofNat m]) := if_neg (by omega)
  rw [e]; exact (wbyte_o W0 q l m sv (by omega) (by omega)).mono fun _ _ => ⟨(), trivial, rfl, fun _ _ h => isW_mk h⟩

theorem wflag_t (W0 : World) (q : Nat) (l : List UInt8) (hl : l.length < 50000000000000) :
    Con Try.prog W0 41 #[Value.pointer (some ⟨q, 0, none⟩), Value.bool true] [isW q l] (X := Unit) (fun _ => True) (fun _ => .int .i64 (byteW 1).1) (fun _ => [isW q (l ++ (byteW 1).2)]) := by
  refine Con.of (args := [Value.pointer (some ⟨q, 0, none⟩), Value.bool true]) Try.func41 rfl Try.ntmps41 rfl (fun F => ?_)
  show Wc _ W0 _ _ _ _ _ ((isW q l) :: F)
  refine Wc.seq ?_
  refine Wc.region ?_
  refine Wl.q (v := Value.int .i64 0) (q_assign rfl) ?_
  refine Wl.done ?_
  refine Wx.go ?_
  refine Wc.seq ?_
  refine Wc.seq ?_
  refine Wc.region ?_
  refine Wl.q (v := Value.bool true) (q_move rfl) ?_
  refine Wl.done ?_
  refine Wx.go ?_
  refine Wc.yes rfl ?_
  refine Wc.seq ?_
  refine Wc.region ?_
  refine Wl.q (v := Value.pointer (some ⟨q, 0, none⟩)) (q_move rfl) ?_
  refine Wl.e (e_call (F := F) (args := [Value.pointer (some ⟨q, 0, none⟩), Value.int .i64 1]) Try.call40 rfl (wbyte_c W0 q l 1 hl)) (fun _ _ => ?_)
  refine Wl.imp (L' := (isW q (l ++ (byteW 1).2)) :: F) (fun _ h => h) ?_
  refine Wl.q (v := Value.int .i64 ((byteW 1).1)) (q_assign rfl) ?_
  refine Wl.done ?_
  refine Wx.go ?_
  refine Wc.ret ?_
  refine Wx.thenRet ?_
  refine Wx.fin1 rfl (.inl rfl) (fun w hs => ?_)
  exact ⟨(), trivial, rfl, hs⟩

theorem wflag_f (W0 : World) (q : Nat) (l : List UInt8) (hl : l.length < 50000000000000) :
    Con Try.prog W0 41 #[Value.pointer (some ⟨q, 0, none⟩), Value.bool false] [isW q l] (X := Unit) (fun _ => True) (fun _ => .int .i64 (byteW 0).1) (fun _ => [isW q (l ++ (byteW 0).2)]) := by
  refine Con.of (args := [Value.pointer (some ⟨q, 0, none⟩), Value.bool false]) Try.func41 rfl Try.ntmps41 rfl (fun F => ?_)
  show Wc _ W0 _ _ _ _ _ ((isW q l) :: F)
  refine Wc.seq ?_
  refine Wc.region ?_
  refine Wl.q (v := Value.int .i64 0) (q_assign rfl) ?_
  refine Wl.done ?_
  refine Wx.go ?_
  refine Wc.seq ?_
  refine Wc.seq ?_
  refine Wc.region ?_
  refine Wl.q (v := Value.bool false) (q_move rfl) ?_
  refine Wl.done ?_
  refine Wx.go ?_
  refine Wc.no rfl ?_
  refine Wc.skip ?_
  refine Wx.go ?_
  refine Wc.seq ?_
  refine Wc.region ?_
  refine Wl.q (v := Value.pointer (some ⟨q, 0, none⟩)) (q_move rfl) ?_
  refine Wl.e (e_call (F := F) (args := [Value.pointer (some ⟨q, 0, none⟩), Value.int .i64 0]) Try.call40 rfl (wbyte_c W0 q l 0 hl)) (fun _ _ => ?_)
  refine Wl.imp (L' := (isW q (l ++ (byteW 0).2)) :: F) (fun _ h => h) ?_
  refine Wl.q (v := Value.int .i64 ((byteW 0).1)) (q_assign rfl) ?_
  refine Wl.done ?_
  refine Wx.go ?_
  refine Wc.ret ?_
  refine Wx.fin1 rfl (.inl rfl) (fun w hs => ?_)
  exact ⟨(), trivial, rfl, hs⟩

theorem wlist_neg (W0 : World) (q : Nat) (l : List UInt8) (n : Int) (sv : Value) (hn : n < 0) :
    Con Try.prog W0 42 #[Value.pointer (some ⟨q, 0, none⟩), Value.int .i64 n] [pt q 57 [Value.bool true, sv], sl 5 1 sv l.length (l.map u8v)] (X := Unit) (fun _ => True) (fun _ => .int .i64 1) (fun _ => [pt q 57 [Value.bool true, sv], sl 5 1 sv l.length (l.map u8v)]) := by
  refine Con.of (args := [Value.pointer (some ⟨q, 0, none⟩), Value.int .i64 n]) Try.func42 rfl Try.ntmps42 rfl (fun F => ?_)
  show Wc _ W0 _ _ _ _ _ ((pt q 57 [Value.bool true, sv]) :: (sl 5 1 sv l.length (l.map u8v)) :: F)
  refine Wc.seq ?_
  refine Wc.region ?_
  refine Wl.q (v := Value.int .i64 0) (q_assign rfl) ?_
  refine Wl.done ?_
  refine Wx.go ?_
  refine Wc.seq ?_
  refine Wc.block ?_
  refine Wc.seq ?_
  refine Wc.region ?_
  refine Wl.q (v := Value.pointer (some ⟨q, 0, none⟩)) (q_move rfl) ?_
  refine Wl.e (e_call (F := (sl 5 1 sv l.length (l.map u8v)) :: F) (args := [Value.pointer (some ⟨q, 0, none⟩)]) Try.call27 rfl (wthere_yes W0 q (sv))) (fun _ _ => ?_)
  refine Wl.imp (L' := (pt q 57 [Value.bool true, sv]) :: (sl 5 1 sv l.length (l.map u8v)) :: F) (fun _ h => h) ?_
  refine Wl.q (v := Value.bool false) (q_not rfl rfl) ?_
  refine Wl.q (v := Value.bool false) (q_assign rfl) ?_
  refine Wl.done ?_
  refine Wx.go ?_
  refine Wc.no rfl ?_
  refine Wc.seq ?_
  refine Wc.region ?_
  refine Wl.q (v := Value.int .i64 n) (q_move rfl) ?_
  refine Wl.q (v := Value.bool true) (q_lss (r := true) rfl rfl (decide_eq_true (hn))) ?_
  refine Wl.q (v := Value.bool true) (q_assign rfl) ?_
  refine Wl.done ?_
  refine Wx.go ?_
  refine Wc.yes rfl ?_
  refine Wc.seq ?_
  refine Wc.region ?_
  refine Wl.q (v := Value.int .i64 1) (q_assign rfl) ?_
  refine Wl.done ?_
  refine Wx.go ?_
  refine Wc.ret ?_
  refine Wx.blockRet ?_
  refine Wx.thenRet ?_
  refine Wx.fin1 rfl (.inl rfl) (fun w hs => ?_)
  exact ⟨(), trivial, rfl, hs⟩

theorem wlist_big (W0 : World) (q : Nat) (l : List UInt8) (n : Int) (sv : Value) (h0 : 0 ≤ n) (hn : 65536 < n) :
    Con Try.prog W0 42 #[Value.pointer (some ⟨q, 0, none⟩), Value.int .i64 n] [pt q 57 [Value.bool true, sv], sl 5 1 sv l.length (l.map u8v)] (X := Unit) (fun _ => True) (fun _ => .int .i64 3) (fun _ => [pt q 57 [Value.bool true, sv], sl 5 1 sv l.length (l.map u8v)]) := by
  refine Con.of (args := [Value.pointer (some ⟨q, 0, none⟩), Value.int .i64 n]) Try.func42 rfl Try.ntmps42 rfl (fun F => ?_)
  show Wc _ W0 _ _ _ _ _ ((pt q 57 [Value.bool true, sv]) :: (sl 5 1 sv l.length (l.map u8v)) :: F)
  refine Wc.seq ?_
  refine Wc.region ?_
  refine Wl.q (v := Value.int .i64 0) (q_assign rfl) ?_
  refine Wl.done ?_
  refine Wx.go ?_
  refine Wc.seq ?_
  refine Wc.block ?_
  refine Wc.seq ?_
  refine Wc.region ?_
  refine Wl.q (v := Value.pointer (some ⟨q, 0, none⟩)) (q_move rfl) ?_
  refine Wl.e (e_call (F := (sl 5 1 sv l.length (l.map u8v)) :: F) (args := [Value.pointer (some ⟨q, 0, none⟩)]) Try.call27 rfl (wthere_yes W0 q (sv))) (fun _ _ => ?_)
  refine Wl.imp (L' := (pt q 57 [Value.bool true, sv]) :: (sl 5 1 sv l.length (l.map u8v)) :: F) (fun _ h => h) ?_
  refine Wl.q (v := Value.bool false) (q_not rfl rfl) ?_
  refine Wl.q (v := Value.bool false) (q_assign rfl) ?_
  refine Wl.done ?_
  refine Wx.go ?_
  refine Wc.no rfl ?_
  refine Wc.seq ?_
  refine Wc.region ?_
  refine Wl.q (v := Value.int .i64 n) (q_move rfl) ?_
  refine Wl.q (v := Value.bool false) (q_lss (r := false) rfl rfl (decide_eq_false (by omega))) ?_
  refine Wl.q (v := Value.bool false) (q_assign rfl) ?_
  refine Wl.done ?_
  refine Wx.go ?_
  refine Wc.no rfl ?_
  refine Wc.seq ?_
  refine Wc.region ?_
  refine Wl.q (v := Value.int .i64 n) (q_move rfl) ?_
  refine Wl.q (v := Value.bool true) (q_gtr (r := true) rfl rfl (decide_eq_true (hn))) ?_
  refine Wl.q (v := Value.bool true) (q_assign rfl) ?_
  refine Wl.done ?_
  refine Wx.go ?_
  refine Wc.yes rfl ?_
  refine Wc.seq ?_
  refine Wc.region ?_
  refine Wl.q (v := Value.int .i64 3) (q_assign rfl) ?_
  refine Wl.done ?_
  refine Wx.go ?_
  refine Wc.ret ?_
  refine Wx.blockRet ?_
  refine Wx.thenRet ?_
  refine Wx.fin1 rfl (.inl rfl) (fun w hs => ?_)
  exact ⟨(), trivial, rfl, hs⟩

theorem wlist_o (W0 : World) (q : Nat) (l : List UInt8) (n : Int) (sv : Value) (h0 : 0 ≤ n) (hn : n ≤ 65536) (hl : l.length < 100000000000000) :
    Con Try.prog W0 42 #[Value.pointer (some ⟨q, 0, none⟩), Value.int .i64 n] [pt q 57 [Value.bool true, sv], sl 5 1 sv l.length (l.map u8v)] (X := Value) (fun _ => True) (fun _ => .int .i64 0) (fun v => [pt q 57 [Value.bool true, v], sl 5 1 v ((l ++ enc (zz n)).length) ((l ++ enc (zz n)).map u8v)]) := by
  refine Con.of (args := [Value.pointer (some ⟨q, 0, none⟩), Value.int .i64 n]) Try.func42 rfl Try.ntmps42 rfl (fun F => ?_)
  show Wc _ W0 _ _ _ _ _ ((pt q 57 [Value.bool true, sv]) :: (sl 5 1 sv l.length (l.map u8v)) :: F)
  refine Wc.seq ?_
  refine Wc.region ?_
  refine Wl.q (v := Value.int .i64 0) (q_assign rfl) ?_
  refine Wl.done ?_
  refine Wx.go ?_
  refine Wc.seq ?_
  refine Wc.block ?_
  refine Wc.seq ?_
  refine Wc.region ?_
  refine Wl.q (v := Value.pointer (some ⟨q, 0, none⟩)) (q_move rfl) ?_
  refine Wl.e (e_call (F := (sl 5 1 sv l.length (l.map u8v)) :: F) (args := [Value.pointer (some ⟨q, 0, none⟩)]) Try.call27 rfl (wthere_yes W0 q (sv))) (fun _ _ => ?_)
  refine Wl.imp (L' := (pt q 57 [Value.bool true, sv]) :: (sl 5 1 sv l.length (l.map u8v)) :: F) (fun _ h => h) ?_
  refine Wl.q (v := Value.bool false) (q_not rfl rfl) ?_
  refine Wl.q (v := Value.bool false) (q_assign rfl) ?_
  refine Wl.done ?_
  refine Wx.go ?_
  refine Wc.no rfl ?_
  refine Wc.seq ?_
  refine Wc.region ?_
  refine Wl.q (v := Value.int .i64 n) (q_move rfl) ?_
  refine Wl.q (v := Value.bool false) (q_lss (r := false) rfl rfl (decide_eq_false (by omega))) ?_
  refine Wl.q (v := Value.bool false) (q_assign rfl) ?_
  refine Wl.done ?_
  refine Wx.go ?_
  refine Wc.no rfl ?_
  refine Wc.seq ?_
  refine Wc.region ?_
  refine Wl.q (v := Value.int .i64 n) (q_move rfl) ?_
  refine Wl.q (v := Value.bool false) (q_gtr (r := false) rfl rfl (decide_eq_false (by omega))) ?_
  refine Wl.q (v := Value.bool false) (q_assign rfl) ?_
  refine Wl.done ?_
  refine Wx.go ?_
  refine Wc.no rfl ?_
  refine Wc.skip ?_
  refine Wx.blockEnd ?_
  refine Wx.go ?_
  refine Wc.seq ?_
  refine Wc.region ?_
  refine Wl.q (v := Value.pointer (some ⟨q, 0, none⟩)) (q_move rfl) ?_
  refine Wl.q (v := Value.int .i64 n) (q_move rfl) ?_
  refine Wl.e (e_call (F := F) (args := [Value.pointer (some ⟨q, 0, none⟩), Value.int .i64 n]) Try.call11 rfl (wnumber_o W0 q l n sv (by omega) (by omega) hl)) (fun v1 _ => ?_)
  refine Wl.imp (L' := (pt q 57 [Value.bool true, v1]) :: (sl 5 1 v1 ((l ++ enc (zz n)).length) ((l ++ enc (zz n)).map u8v)) :: F) (fun _ h => h) ?_
  refine Wl.q (v := Value.int .i64 0) (q_assign rfl) ?_
  refine Wl.done ?_
  refine Wx.go ?_
  refine Wc.ret ?_
  refine Wx.fin1 rfl (.inl rfl) (fun w hs => ?_)
  exact ⟨v1, trivial, rfl, hs⟩

theorem wlist_c (W0 : World) (q : Nat) (l : List UInt8) (n : Int) (hl : l.length < 50000000000000) :
    Con Try.prog W0 42 #[Value.pointer (some ⟨q, 0, none⟩), Value.int .i64 n] [isW q l] (X := Unit) (fun _ => True) (fun _ => .int .i64 (listW n).1) (fun _ => [isW q (l ++ (listW n).2)]) := Con.wr fun sv => by
  by_cases h0 : n < 0
  · have e : listW n = (1, []) := if_pos h0
    rw [e]; exact (wlist_neg W0 q l n sv h0).mono fun _ _ => ⟨(), trivial, rfl, fun _ _ h => isW_mk (by rw [List.append_nil]; exact h)⟩
  by_cases h1 : n > 65536
  · have e : listW n = (3, []) := by rw [listW, if_neg h0, if_pos h1]
    rw [e]; exact (wlist_big W0 q l n sv (by omega) h1).mono fun _ _ => ⟨(), trivial, rfl, fun _ _ h => isW_mk (by rw [List.append_nil]; exact h)⟩
  have e : listW n = (0, enc (zz n)) := by rw [listW, if_neg h0, if_neg h1]
  rw [e]; exact (wlist_o W0 q l n sv (by omega) (by omega) (by omega)).mono fun _ _ => ⟨(), trivial, rfl, fun _ _ h => isW_mk h⟩
theorem wtextW_c (W0 : World) (q : Nat) (l : List UInt8) (s : ByteArray) (hl : l.length < 50000000000000) :
    Con Try.prog W0 28 #[Value.pointer (some ⟨q, 0, none⟩), Value.string s] [isW q l] (X := Unit) (fun _ => True) (fun _ => .int .i64 (textW s).1) (fun _ => [isW q (l ++ (textW s).2)]) := Con.wr fun sv => by
  by_cases h0 : 65536 < s.size
  · have e : textW s = (3, []) := if_pos h0
    rw [e]; exact (wtext_big W0 q l s sv h0).mono fun _ _ => ⟨(), trivial, rfl, fun _ _ h => isW_mk (by rw [List.append_nil]; exact h)⟩
  have e : textW s = (0, enc (zz (s.size : Int)) ++ s.data.toList) := if_neg h0
  rw [e]; exact (wtext_o W0 q l s sv (by omega) (by omega)).mono fun _ _ => ⟨(), trivial, rfl, fun _ _ h => isW_mk (by rw [← List.append_assoc]; exact h)⟩

theorem write_c (W0 : World) (q : Nat) (l : List UInt8) (x : ItemR) (hn : -9223372036854775808 ≤ x.n ∧ x.n ≤ 9223372036854775807) (hl : l.length < 50000000000000) :
    Con Try.prog W0 21 #[Value.pointer (some ⟨q, 0, none⟩), Value.agg #[Value.int .i64 x.kind, Value.int .i64 x.n, Value.string x.s]] [isW q l] (X := Unit) (fun _ => True) (fun _ => .int .i64 (itemW x).1) (fun _ => [isW q (l ++ (itemW x).2)]) := by
  refine Con.of (args := [Value.pointer (some ⟨q, 0, none⟩), Value.agg #[Value.int .i64 x.kind, Value.int .i64 x.n, Value.string x.s]]) Try.func21 rfl Try.ntmps21 rfl (fun F => ?_)
  show Wc _ W0 _ _ _ _ _ ((isW q l) :: F)
  refine Wc.seq ?_
  refine Wc.region ?_
  refine Wl.e (e_box (x := .tmp 1) (vs := [Value.int .i64 x.kind, Value.int .i64 x.n, Value.string x.s]) rfl) (fun b1 _ => ?_)
  refine Wl.imp (L' := (pt b1 44 [Value.int .i64 x.kind, Value.int .i64 x.n, Value.string x.s]) :: (isW q l) :: F) (fun _ h => h) ?_
  refine Wl.q (v := Value.int .i64 0) (q_assign rfl) ?_
  refine Wl.done ?_
  refine Wx.go ?_
  refine Wc.seq ?_
  refine Wc.seq ?_
  refine Wc.region ?_
  refine Wl.q (v := Value.pointer (some ⟨b1, 0, none⟩)) (q_field (m := 0) fo_44_0 rfl rfl) ?_
  refine Wl.q (v := Value.int .i64 x.kind) (q_load sc_3 rfl (.cel (i := 0) rfl rfl)) ?_
  refine Wl.done ?_
  refine Wx.go ?_
  refine Wc.block ?_
  refine Wc.seq ?_
  refine Wc.region ?_
  by_cases hk0 : x.kind = 0
  ·
    refine Wl.q (v := Value.bool true) (q_eql (r := true) rfl rfl (decide_eq_true hk0)) ?_
    refine Wl.q (v := Value.bool true) (q_assign rfl) ?_
    refine Wl.done ?_
    refine Wx.go ?_
    refine Wc.yes rfl ?_
    refine Wc.seq ?_
    refine Wc.region ?_
    refine Wl.q (v := Value.pointer (some ⟨q, 0, none⟩)) (q_move rfl) ?_
    refine Wl.q (v := Value.pointer (some ⟨b1, 1, none⟩)) (q_field (m := 1) fo_44_1 rfl rfl) ?_
    refine Wl.q (v := Value.int .i64 x.n) (q_load sc_2 rfl (.cel (i := 0) rfl rfl)) ?_
    refine Wl.imp (L' := (isW q l) :: (pt b1 44 [Value.int .i64 x.kind, Value.int .i64 x.n, Value.string x.s]) :: F) (fun _ h => st_pull [1] h) ?_
    refine Wl.e (e_call (F := (pt b1 44 [Value.int .i64 x.kind, Value.int .i64 x.n, Value.string x.s]) :: F) (args := [Value.pointer (some ⟨q, 0, none⟩), Value.int .i64 x.n]) Try.call40 rfl (wbyte_c W0 q l x.n hl)) (fun _ _ => ?_)
    refine Wl.imp (L' := (isW q (l ++ (byteW x.n).2)) :: (pt b1 44 [Value.int .i64 x.kind, Value.int .i64 x.n, Value.string x.s]) :: F) (fun _ h => h) ?_
    refine Wl.q (v := Value.int .i64 ((byteW x.n).1)) (q_assign rfl) ?_
    refine Wl.done ?_
    refine Wx.go ?_
    refine Wc.ret ?_
    refine Wx.blockRet ?_
    refine Wx.thenRet ?_
    refine Wx.fin1 rfl (.inl rfl) (fun w hs => ?_)
    unfold itemW
    rw [if_pos hk0]
    exact ⟨(), trivial, rfl, (st_drop (st_pull [1] hs))⟩
  ·
    refine Wl.q (v := Value.bool false) (q_eql (r := false) rfl rfl (decide_eq_false hk0)) ?_
    refine Wl.q (v := Value.bool false) (q_assign rfl) ?_
    refine Wl.done ?_
    refine Wx.go ?_
    refine Wc.no rfl ?_
    refine Wc.seq ?_
    refine Wc.region ?_
    by_cases hk1 : x.kind = 1
    ·
      refine Wl.q (v := Value.bool true) (q_eql (r := true) rfl rfl (decide_eq_true hk1)) ?_
      refine Wl.q (v := Value.bool true) (q_assign rfl) ?_
      refine Wl.done ?_
      refine Wx.go ?_
      refine Wc.yes rfl ?_
      refine Wc.seq ?_
      refine Wc.region ?_
      refine Wl.q (v := Value.pointer (some ⟨q, 0, none⟩)) (q_move rfl) ?_
      refine Wl.q (v := Value.pointer (some ⟨b1, 1, none⟩)) (q_field (m := 1) fo_44_1 rfl rfl) ?_
      refine Wl.q (v := Value.int .i64 x.n) (q_load sc_2 rfl (.cel (i := 0) rfl rfl)) ?_
      refine Wl.imp (L' := (isW q l) :: (pt b1 44 [Value.int .i64 x.kind, Value.int .i64 x.n, Value.string x.s]) :: F) (fun _ h => st_pull [1] h) ?_
      refine Wl.e (e_call (F := (pt b1 44 [Value.int .i64 x.kind, Value.int .i64 x.n, Value.string x.s]) :: F) (args := [Value.pointer (some ⟨q, 0, none⟩), Value.int .i64 x.n]) Try.call11 rfl (wnumber_c W0 q l x.n hn.1 hn.2 (by omega))) (fun _ _ => ?_)
      refine Wl.imp (L' := (isW q (l ++ enc (zz x.n))) :: (pt b1 44 [Value.int .i64 x.kind, Value.int .i64 x.n, Value.string x.s]) :: F) (fun _ h => h) ?_
      refine Wl.q (v := Value.int .i64 0) (q_assign rfl) ?_
      refine Wl.done ?_
      refine Wx.go ?_
      refine Wc.ret ?_
      refine Wx.blockRet ?_
      refine Wx.thenRet ?_
      refine Wx.fin1 rfl (.inl rfl) (fun w hs => ?_)
      unfold itemW
      rw [if_neg hk0, if_pos hk1]
      exact ⟨(), trivial, rfl, (st_drop (st_pull [1] hs))⟩
    ·
      refine Wl.q (v := Value.bool false) (q_eql (r := false) rfl rfl (decide_eq_false hk1)) ?_
      refine Wl.q (v := Value.bool false) (q_assign rfl) ?_
      refine Wl.done ?_
      refine Wx.go ?_
      refine Wc.no rfl ?_
      refine Wc.seq ?_
      refine Wc.region ?_
      by_cases hk2 : x.kind = 2
      ·
        refine Wl.q (v := Value.bool true) (q_eql (r := true) rfl rfl (decide_eq_true hk2)) ?_
        refine Wl.q (v := Value.bool true) (q_assign rfl) ?_
        refine Wl.done ?_
        refine Wx.go ?_
        refine Wc.yes rfl ?_
        refine Wc.seq ?_
        refine Wc.region ?_
        refine Wl.q (v := Value.pointer (some ⟨q, 0, none⟩)) (q_move rfl) ?_
        refine Wl.q (v := Value.pointer (some ⟨b1, 1, none⟩)) (q_field (m := 1) fo_44_1 rfl rfl) ?_
        refine Wl.q (v := Value.int .i64 x.n) (q_load sc_2 rfl (.cel (i := 0) rfl rfl)) ?_
        by_cases hpos : x.n > 0
        ·
          refine Wl.q (v := Value.bool true) (q_gtr (r := true) rfl rfl (decide_eq_true hpos)) ?_
          refine Wl.imp (L' := (isW q l) :: (pt b1 44 [Value.int .i64 x.kind, Value.int .i64 x.n, Value.string x.s]) :: F) (fun _ h => st_pull [1] h) ?_
          refine Wl.e (e_call (F := (pt b1 44 [Value.int .i64 x.kind, Value.int .i64 x.n, Value.string x.s]) :: F) (args := [Value.pointer (some ⟨q, 0, none⟩), Value.bool true]) Try.call41 rfl (wflag_t W0 q l hl)) (fun _ _ => ?_)
          refine Wl.imp (L' := (isW q (l ++ (byteW 1).2)) :: (pt b1 44 [Value.int .i64 x.kind, Value.int .i64 x.n, Value.string x.s]) :: F) (fun _ h => h) ?_
          refine Wl.q (v := Value.int .i64 ((byteW 1).1)) (q_assign rfl) ?_
          refine Wl.done ?_
          refine Wx.go ?_
          refine Wc.ret ?_
          refine Wx.blockRet ?_
          refine Wx.thenRet ?_
          refine Wx.fin1 rfl (.inl rfl) (fun w hs => ?_)
          unfold itemW
          rw [if_neg hk0, if_neg hk1, if_pos hk2, if_pos hpos]
          exact ⟨(), trivial, rfl, (st_drop (st_pull [1] hs))⟩
        ·
          refine Wl.q (v := Value.bool false) (q_gtr (r := false) rfl rfl (decide_eq_false hpos)) ?_
          refine Wl.imp (L' := (isW q l) :: (pt b1 44 [Value.int .i64 x.kind, Value.int .i64 x.n, Value.string x.s]) :: F) (fun _ h => st_pull [1] h) ?_
          refine Wl.e (e_call (F := (pt b1 44 [Value.int .i64 x.kind, Value.int .i64 x.n, Value.string x.s]) :: F) (args := [Value.pointer (some ⟨q, 0, none⟩), Value.bool false]) Try.call41 rfl (wflag_f W0 q l hl)) (fun _ _ => ?_)
          refine Wl.imp (L' := (isW q (l ++ (byteW 0).2)) :: (pt b1 44 [Value.int .i64 x.kind, Value.int .i64 x.n, Value.string x.s]) :: F) (fun _ h => h) ?_
          refine Wl.q (v := Value.int .i64 ((byteW 0).1)) (q_assign rfl) ?_
          refine Wl.done ?_
          refine Wx.go ?_
          refine Wc.ret ?_
          refine Wx.blockRet ?_
          refine Wx.thenRet ?_
          refine Wx.fin1 rfl (.inl rfl) (fun w hs => ?_)
          unfold itemW
          rw [if_neg hk0, if_neg hk1, if_pos hk2, if_neg hpos]
          exact ⟨(), trivial, rfl, (st_drop (st_pull [1] hs))⟩
      ·
        refine Wl.q (v := Value.bool false) (q_eql (r := false) rfl rfl (decide_eq_false hk2)) ?_
        refine Wl.q (v := Value.bool false) (q_assign rfl) ?_
        refine Wl.done ?_
        refine Wx.go ?_
        refine Wc.no rfl ?_
        refine Wc.seq ?_
        refine Wc.region ?_
        by_cases hk3 : x.kind = 3
        ·
          refine Wl.q (v := Value.bool true) (q_eql (r := true) rfl rfl (decide_eq_true hk3)) ?_
          refine Wl.q (v := Value.bool true) (q_assign rfl) ?_
          refine Wl.done ?_
          refine Wx.go ?_
          refine Wc.yes rfl ?_
          refine Wc.seq ?_
          refine Wc.region ?_
          refine Wl.q (v := Value.pointer (some ⟨q, 0, none⟩)) (q_move rfl) ?_
          refine Wl.q (v := Value.pointer (some ⟨b1, 2, none⟩)) (q_field (m := 2) fo_44_2 rfl rfl) ?_
          refine Wl.q (v := Value.string x.s) (q_load sc_9 rfl (.cel (i := 0) rfl rfl)) ?_
          refine Wl.imp (L' := (isW q l) :: (pt b1 44 [Value.int .i64 x.kind, Value.int .i64 x.n, Value.string x.s]) :: F) (fun _ h => st_pull [1] h) ?_
          refine Wl.e (e_call (F := (pt b1 44 [Value.int .i64 x.kind, Value.int .i64 x.n, Value.string x.s]) :: F) (args := [Value.pointer (some ⟨q, 0, none⟩), Value.string x.s]) Try.call28 rfl (wtextW_c W0 q l x.s hl)) (fun _ _ => ?_)
          refine Wl.imp (L' := (isW q (l ++ (textW x.s).2)) :: (pt b1 44 [Value.int .i64 x.kind, Value.int .i64 x.n, Value.string x.s]) :: F) (fun _ h => h) ?_
          refine Wl.q (v := Value.int .i64 ((textW x.s).1)) (q_assign rfl) ?_
          refine Wl.done ?_
          refine Wx.go ?_
          refine Wc.ret ?_
          refine Wx.blockRet ?_
          refine Wx.thenRet ?_
          refine Wx.fin1 rfl (.inl rfl) (fun w hs => ?_)
          unfold itemW
          rw [if_neg hk0, if_neg hk1, if_neg hk2, if_pos hk3]
          exact ⟨(), trivial, rfl, (st_drop (st_pull [1] hs))⟩
        ·
          refine Wl.q (v := Value.bool false) (q_eql (r := false) rfl rfl (decide_eq_false hk3)) ?_
          refine Wl.q (v := Value.bool false) (q_assign rfl) ?_
          refine Wl.done ?_
          refine Wx.go ?_
          refine Wc.no rfl ?_
          refine Wc.skip ?_
          refine Wx.blockEnd ?_
          refine Wx.go ?_
          refine Wc.seq ?_
          refine Wc.region ?_
          refine Wl.q (v := Value.pointer (some ⟨q, 0, none⟩)) (q_move rfl) ?_
          refine Wl.q (v := Value.pointer (some ⟨b1, 1, none⟩)) (q_field (m := 1) fo_44_1 rfl rfl) ?_
          refine Wl.q (v := Value.int .i64 x.n) (q_load sc_2 rfl (.cel (i := 0) rfl rfl)) ?_
          refine Wl.imp (L' := (isW q l) :: (pt b1 44 [Value.int .i64 x.kind, Value.int .i64 x.n, Value.string x.s]) :: F) (fun _ h => st_pull [1] h) ?_
          refine Wl.e (e_call (F := (pt b1 44 [Value.int .i64 x.kind, Value.int .i64 x.n, Value.string x.s]) :: F) (args := [Value.pointer (some ⟨q, 0, none⟩), Value.int .i64 x.n]) Try.call42 rfl (wlist_c W0 q l x.n hl)) (fun _ _ => ?_)
          refine Wl.imp (L' := (isW q (l ++ (listW x.n).2)) :: (pt b1 44 [Value.int .i64 x.kind, Value.int .i64 x.n, Value.string x.s]) :: F) (fun _ h => h) ?_
          refine Wl.q (v := Value.int .i64 ((listW x.n).1)) (q_assign rfl) ?_
          refine Wl.done ?_
          refine Wx.go ?_
          refine Wc.ret ?_
          refine Wx.fin1 rfl (.inl rfl) (fun w hs => ?_)
          unfold itemW
          rw [if_neg hk0, if_neg hk1, if_neg hk2, if_neg hk3]
          exact ⟨(), trivial, rfl, (st_drop (st_pull [1] hs))⟩

end Go.Proofs.Ytlbanhhdoiidnaa
