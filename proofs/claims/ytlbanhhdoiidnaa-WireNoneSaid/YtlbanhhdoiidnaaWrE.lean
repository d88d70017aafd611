/- The wire: contracts of its calls. -/
import Derived.Test.YtlbanhhdoiidnaaWrD
namespace Go.Proofs.Ytlbanhhdoiidnaa
open Go Go.SL Go.Wr Go.RowKit
open Go.Dk (beyondF beyondB beyond_step beyond_le beyond_one beyond_two)
set_option linter.unusedVariables false
theorem sz_2 : sizeIs Try.prog 2 = some 1 := by kernel_rfl
theorem zo_2 : zeroOf Try.prog 2 = some (Value.int .i64 0) := by kernel_rfl
theorem sc_2 : scalar Try.prog 2 = true := by kernel_rfl
theorem sz_9 : sizeIs Try.prog 9 = some 1 := by kernel_rfl
theorem zo_9 : zeroOf Try.prog 9 = some (Value.string (⟨#[]⟩)) := by kernel_rfl
theorem zo_59 : zeroOf Try.prog 59 = some (Value.agg #[Value.bool false, Value.string (⟨#[]⟩), Value.int .i64 0]) := by kernel_rfl
theorem number_ok (W0 : World) (r : Nat) (s : ByteArray) (a0 : Nat) (ha0 : a0 ≤ s.size) (hsz : s.size ≤ 9223372036854775807) (v : Int) (a : Nat) (h : takeNum s a0 = some (v, a)) :
    Con Try.prog W0 47 #[Value.pointer (some ⟨r, 0, none⟩)] [pt r 59 [Value.bool true, Value.string s, Value.int .i64 ((a0 : Nat) : Int)]] (X := Unit) (fun _ => True) (fun _ => .tuple #[.int .i64 v, .bool true]) (fun _ => [pt r 59 [Value.bool true, Value.string s, Value.int .i64 ((a : Nat) : Int)]]) :=
  (number_c W0 r s a0 ha0 hsz).mono (fun ⟨v', ok, a'⟩ hN => by
    have h1 := hN.1
    simp only [h] at h1
    obtain ⟨rfl, rfl, rfl⟩ := h1
    exact ⟨(), trivial, rfl, fun _ _ h => h⟩)
theorem number_bad (W0 : World) (r : Nat) (s : ByteArray) (a0 : Nat) (ha0 : a0 ≤ s.size) (hsz : s.size ≤ 9223372036854775807) (h : takeNum s a0 = none) :
    Con Try.prog W0 47 #[Value.pointer (some ⟨r, 0, none⟩)] [pt r 59 [Value.bool true, Value.string s, Value.int .i64 ((a0 : Nat) : Int)]] (X := Int × Nat) (fun _ => True) (fun y => .tuple #[.int .i64 y.1, .bool false]) (fun y => [pt r 59 [Value.bool true, Value.string s, Value.int .i64 ((y.2 : Nat) : Int)]]) :=
  (number_c W0 r s a0 ha0 hsz).mono (fun ⟨v', ok, a'⟩ hN => by
    have h1 := hN.1
    simp only [h] at h1
    subst h1
    exact ⟨(v', a'), trivial, rfl, fun _ _ h => h⟩)

theorem number1_ok (W0 : World) (r rb nb : Nat) (s : ByteArray) (a0 : Nat) (ha0 : a0 ≤ s.size) (hsz : s.size ≤ 9223372036854775807) (v : Int) (a : Nat) (htk : takeNum s a0 = some (v, a)) :
    Con Try.prog W0 46 #[Value.pointer (some ⟨rb, 0, none⟩), Value.pointer (some ⟨nb, 0, none⟩)] [pt rb 31 [Value.pointer (some ⟨r, 0, none⟩)], pt nb 2 [Value.int .i64 0], pt r 59 [Value.bool true, Value.string s, Value.int .i64 ((a0 : Nat) : Int)]] (X := Unit) (fun _ => True) (fun _ => .int .i64 0) (fun _ => [pt rb 31 [Value.pointer (some ⟨r, 0, none⟩)], pt nb 2 [Value.int .i64 v], pt r 59 [Value.bool true, Value.string s, Value.int .i64 ((a : Nat) : Int)]]) := by
  refine Con.of (args := [Value.pointer (some ⟨rb, 0, none⟩), Value.pointer (some ⟨nb, 0, none⟩)]) Try.func46 rfl Try.ntmps46 rfl (fun F => ?_)
  show Wc _ W0 _ _ _ _ _ ((pt rb 31 [Value.pointer (some ⟨r, 0, none⟩)]) :: (pt nb 2 [Value.int .i64 0]) :: (pt r 59 [Value.bool true, Value.string s, Value.int .i64 ((a0 : Nat) : Int)]) :: F)
  refine Wc.seq ?_
  refine Wc.region ?_
  refine Wl.q (v := Value.int .i64 0) (q_assign rfl) ?_
  refine Wl.done ?_
  refine Wx.go ?_
  refine Wc.seq ?_
  refine Wc.region ?_
  refine Wl.q (v := Value.pointer (some ⟨r, 0, none⟩)) (q_load sc_31 rfl (.cel (i := 0) rfl rfl)) ?_
  refine Wl.imp (L' := (pt r 59 [Value.bool true, Value.string s, Value.int .i64 ((a0 : Nat) : Int)]) :: (pt rb 31 [Value.pointer (some ⟨r, 0, none⟩)]) :: (pt nb 2 [Value.int .i64 0]) :: F) (fun _ h => st_pull [2] h) ?_
  refine Wl.e (e_call (F := (pt rb 31 [Value.pointer (some ⟨r, 0, none⟩)]) :: (pt nb 2 [Value.int .i64 0]) :: F) (args := [Value.pointer (some ⟨r, 0, none⟩)]) Try.call47 rfl (number_ok W0 r s a0 ha0 hsz v a htk)) (fun _ _ => ?_)
  refine Wl.imp (L' := (pt r 59 [Value.bool true, Value.string s, Value.int .i64 ((a : Nat) : Int)]) :: (pt rb 31 [Value.pointer (some ⟨r, 0, none⟩)]) :: (pt nb 2 [Value.int .i64 0]) :: F) (fun _ h => h) ?_
  refine Wl.q (v := Value.tuple #[Value.int .i64 v, Value.bool true]) (q_move rfl) ?_
  refine Wl.q (v := Value.int .i64 v) (q_extract (i := 0) rfl rfl) ?_
  refine Wl.q (v := Value.bool true) (q_extract (i := 1) rfl rfl) ?_
  refine Wl.q (v := Value.int .i64 v) (q_assign rfl) ?_
  refine Wl.q (v := Value.bool true) (q_assign rfl) ?_
  refine Wl.done ?_
  refine Wx.go ?_
  refine Wc.seq ?_
  refine Wc.seq ?_
  refine Wc.region ?_
  refine Wl.q (v := Value.bool true) (q_move rfl) ?_
  refine Wl.done ?_
  refine Wx.go ?_
  refine Wc.yes rfl ?_
  refine Wc.region ?_
  refine Wl.q (v := Value.int .i64 v) (q_move rfl) ?_
  refine Wl.e (e_store (i := 2) (v := Value.int .i64 v) sz_2 rfl rfl (fun _ _ => rfl) rfl (by simp)) (fun _ _ => ?_)
  refine Wl.imp (L' := (pt r 59 [Value.bool true, Value.string s, Value.int .i64 ((a : Nat) : Int)]) :: (pt rb 31 [Value.pointer (some ⟨r, 0, none⟩)]) :: (pt nb 2 [Value.int .i64 v]) :: F) (fun _ h => h) ?_
  refine Wl.done ?_
  refine Wx.go ?_
  refine Wc.seq ?_
  refine Wc.region ?_
  refine Wl.q (v := Value.bool true) (q_move rfl) ?_
  refine Wl.e (e_call (F := (pt r 59 [Value.bool true, Value.string s, Value.int .i64 ((a : Nat) : Int)]) :: (pt rb 31 [Value.pointer (some ⟨r, 0, none⟩)]) :: (pt nb 2 [Value.int .i64 v]) :: F) (args := [Value.bool true]) Try.call34 rfl (form_t W0)) (fun _ _ => ?_)
  refine Wl.imp (L' := (pt r 59 [Value.bool true, Value.string s, Value.int .i64 ((a : Nat) : Int)]) :: (pt rb 31 [Value.pointer (some ⟨r, 0, none⟩)]) :: (pt nb 2 [Value.int .i64 v]) :: F) (fun _ h => h) ?_
  refine Wl.q (v := Value.int .i64 0) (q_assign rfl) ?_
  refine Wl.done ?_
  refine Wx.go ?_
  refine Wc.ret ?_
  refine Wx.fin1 rfl (.inl rfl) (fun w hs => ?_)
  exact ⟨(), trivial, rfl, (st_pull [1, 1, 0] (hs))⟩

theorem number1_bad (W0 : World) (r rb nb : Nat) (s : ByteArray) (a0 : Nat) (ha0 : a0 ≤ s.size) (hsz : s.size ≤ 9223372036854775807) (htk : takeNum s a0 = none) :
    Con Try.prog W0 46 #[Value.pointer (some ⟨rb, 0, none⟩), Value.pointer (some ⟨nb, 0, none⟩)] [pt rb 31 [Value.pointer (some ⟨r, 0, none⟩)], pt nb 2 [Value.int .i64 0], pt r 59 [Value.bool true, Value.string s, Value.int .i64 ((a0 : Nat) : Int)]] (X := Nat) (fun _ => True) (fun _ => .int .i64 4) (fun a => [pt rb 31 [Value.pointer (some ⟨r, 0, none⟩)], pt nb 2 [Value.int .i64 0], pt r 59 [Value.bool true, Value.string s, Value.int .i64 ((a : Nat) : Int)]]) := by
  refine Con.of (args := [Value.pointer (some ⟨rb, 0, none⟩), Value.pointer (some ⟨nb, 0, none⟩)]) Try.func46 rfl Try.ntmps46 rfl (fun F => ?_)
  show Wc _ W0 _ _ _ _ _ ((pt rb 31 [Value.pointer (some ⟨r, 0, none⟩)]) :: (pt nb 2 [Value.int .i64 0]) :: (pt r 59 [Value.bool true, Value.string s, Value.int .i64 ((a0 : Nat) : Int)]) :: F)
  refine Wc.seq ?_
  refine Wc.region ?_
  refine Wl.q (v := Value.int .i64 0) (q_assign rfl) ?_
  refine Wl.done ?_
  refine Wx.go ?_
  refine Wc.seq ?_
  refine Wc.region ?_
  refine Wl.q (v := Value.pointer (some ⟨r, 0, none⟩)) (q_load sc_31 rfl (.cel (i := 0) rfl rfl)) ?_
  refine Wl.imp (L' := (pt r 59 [Value.bool true, Value.string s, Value.int .i64 ((a0 : Nat) : Int)]) :: (pt rb 31 [Value.pointer (some ⟨r, 0, none⟩)]) :: (pt nb 2 [Value.int .i64 0]) :: F) (fun _ h => st_pull [2] h) ?_
  refine Wl.e (e_call (F := (pt rb 31 [Value.pointer (some ⟨r, 0, none⟩)]) :: (pt nb 2 [Value.int .i64 0]) :: F) (args := [Value.pointer (some ⟨r, 0, none⟩)]) Try.call47 rfl (number_bad W0 r s a0 ha0 hsz htk)) (fun y _ => ?_)
  refine Wl.imp (L' := (pt r 59 [Value.bool true, Value.string s, Value.int .i64 ((y.2 : Nat) : Int)]) :: (pt rb 31 [Value.pointer (some ⟨r, 0, none⟩)]) :: (pt nb 2 [Value.int .i64 0]) :: F) (fun _ h => h) ?_
  refine Wl.q (v := Value.tuple #[Value.int .i64 y.1, Value.bool false]) (q_move rfl) ?_
  refine Wl.q (v := Value.int .i64 y.1) (q_extract (i := 0) rfl rfl) ?_
  refine Wl.q (v := Value.bool false) (q_extract (i := 1) rfl rfl) ?_
  refine Wl.q (v := Value.int .i64 y.1) (q_assign rfl) ?_
  refine Wl.q (v := Value.bool false) (q_assign rfl) ?_
  refine Wl.done ?_
  refine Wx.go ?_
  refine Wc.seq ?_
  refine Wc.seq ?_
  refine Wc.region ?_
  refine Wl.q (v := Value.bool false) (q_move rfl) ?_
  refine Wl.done ?_
  refine Wx.go ?_
  refine Wc.no rfl ?_
  refine Wc.skip ?_
  refine Wx.go ?_
  refine Wc.seq ?_
  refine Wc.region ?_
  refine Wl.q (v := Value.bool false) (q_move rfl) ?_
  refine Wl.e (e_call (F := (pt r 59 [Value.bool true, Value.string s, Value.int .i64 ((y.2 : Nat) : Int)]) :: (pt rb 31 [Value.pointer (some ⟨r, 0, none⟩)]) :: (pt nb 2 [Value.int .i64 0]) :: F) (args := [Value.bool false]) Try.call34 rfl (form_f W0)) (fun _ _ => ?_)
  refine Wl.imp (L' := (pt r 59 [Value.bool true, Value.string s, Value.int .i64 ((y.2 : Nat) : Int)]) :: (pt rb 31 [Value.pointer (some ⟨r, 0, none⟩)]) :: (pt nb 2 [Value.int .i64 0]) :: F) (fun _ h => h) ?_
  refine Wl.q (v := Value.int .i64 4) (q_assign rfl) ?_
  refine Wl.done ?_
  refine Wx.go ?_
  refine Wc.ret ?_
  refine Wx.fin1 rfl (.inl rfl) (fun w hs => ?_)
  exact ⟨y.2, trivial, rfl, (st_pull [1, 1, 0] (hs))⟩

theorem list1_ok (W0 : World) (r rb nb : Nat) (s : ByteArray) (a0 : Nat) (ha0 : a0 ≤ s.size) (hsz : s.size ≤ 9223372036854775807) (v : Int) (a : Nat) (htk : takeNum s a0 = some (v, a)) (hv0 : 0 ≤ v) (hv1 : v ≤ 65536) :
    Con Try.prog W0 50 #[Value.pointer (some ⟨rb, 0, none⟩), Value.pointer (some ⟨nb, 0, none⟩)] [pt rb 31 [Value.pointer (some ⟨r, 0, none⟩)], pt nb 3 [Value.int .i64 0], pt r 59 [Value.bool true, Value.string s, Value.int .i64 ((a0 : Nat) : Int)]] (X := Unit) (fun _ => True) (fun _ => .int .i64 0) (fun _ => [pt rb 31 [Value.pointer (some ⟨r, 0, none⟩)], pt nb 3 [Value.int .i64 v], pt r 59 [Value.bool true, Value.string s, Value.int .i64 ((a : Nat) : Int)]]) := by
  refine Con.of (args := [Value.pointer (some ⟨rb, 0, none⟩), Value.pointer (some ⟨nb, 0, none⟩)]) Try.func50 rfl Try.ntmps50 rfl (fun F => ?_)
  show Wc _ W0 _ _ _ _ _ ((pt rb 31 [Value.pointer (some ⟨r, 0, none⟩)]) :: (pt nb 3 [Value.int .i64 0]) :: (pt r 59 [Value.bool true, Value.string s, Value.int .i64 ((a0 : Nat) : Int)]) :: F)
  refine Wc.seq ?_
  refine Wc.region ?_
  refine Wl.q (v := Value.int .i64 0) (q_assign rfl) ?_
  refine Wl.done ?_
  refine Wx.go ?_
  refine Wc.seq ?_
  refine Wc.region ?_
  refine Wl.q (v := Value.pointer (some ⟨r, 0, none⟩)) (q_load sc_31 rfl (.cel (i := 0) rfl rfl)) ?_
  refine Wl.imp (L' := (pt r 59 [Value.bool true, Value.string s, Value.int .i64 ((a0 : Nat) : Int)]) :: (pt rb 31 [Value.pointer (some ⟨r, 0, none⟩)]) :: (pt nb 3 [Value.int .i64 0]) :: F) (fun _ h => st_pull [2] h) ?_
  refine Wl.e (e_call (F := (pt rb 31 [Value.pointer (some ⟨r, 0, none⟩)]) :: (pt nb 3 [Value.int .i64 0]) :: F) (args := [Value.pointer (some ⟨r, 0, none⟩)]) Try.call47 rfl (number_ok W0 r s a0 ha0 hsz v a htk)) (fun _ _ => ?_)
  refine Wl.imp (L' := (pt r 59 [Value.bool true, Value.string s, Value.int .i64 ((a : Nat) : Int)]) :: (pt rb 31 [Value.pointer (some ⟨r, 0, none⟩)]) :: (pt nb 3 [Value.int .i64 0]) :: F) (fun _ h => h) ?_
  refine Wl.q (v := Value.tuple #[Value.int .i64 v, Value.bool true]) (q_move rfl) ?_
  refine Wl.q (v := Value.int .i64 v) (q_extract (i := 0) rfl rfl) ?_
  refine Wl.q (v := Value.bool true) (q_extract (i := 1) rfl rfl) ?_
  refine Wl.q (v := Value.int .i64 v) (q_assign rfl) ?_
  refine Wl.q (v := Value.bool true) (q_assign rfl) ?_
  refine Wl.done ?_
  refine Wx.go ?_
  refine Wc.seq ?_
  refine Wc.seq ?_
  refine Wc.region ?_
  refine Wl.q (v := Value.bool true) (q_move rfl) ?_
  refine Wl.q (v := Value.bool false) (q_not rfl rfl) ?_
  refine Wl.q (v := Value.bool false) (q_move rfl) ?_
  refine Wl.q (v := Value.int .i64 v) (q_move rfl) ?_
  refine Wl.q (v := Value.bool false) (q_lss (r := false) rfl rfl (decide_eq_false (by omega))) ?_
  refine Wl.q (v := Value.bool false) (q_pick (t := false) rfl rfl) ?_
  refine Wl.q (v := Value.bool false) (q_move rfl) ?_
  refine Wl.q (v := Value.int .i64 v) (q_move rfl) ?_
  refine Wl.q (v := Value.bool false) (q_gtr (r := false) rfl rfl (decide_eq_false (by omega))) ?_
  refine Wl.q (v := Value.bool false) (q_pick (t := false) rfl rfl) ?_
  refine Wl.done ?_
  refine Wx.go ?_
  refine Wc.no rfl ?_
  refine Wc.skip ?_
  refine Wx.go ?_
  refine Wc.seq ?_
  refine Wc.region ?_
  refine Wl.q (v := Value.int .i64 v) (q_move rfl) ?_
  refine Wl.e (e_store (i := 2) (v := Value.int .i64 v) sz_3 rfl rfl (fun _ _ => rfl) rfl (by simp)) (fun _ _ => ?_)
  refine Wl.imp (L' := (pt r 59 [Value.bool true, Value.string s, Value.int .i64 ((a : Nat) : Int)]) :: (pt rb 31 [Value.pointer (some ⟨r, 0, none⟩)]) :: (pt nb 3 [Value.int .i64 v]) :: F) (fun _ h => h) ?_
  refine Wl.done ?_
  refine Wx.go ?_
  refine Wc.seq ?_
  refine Wc.region ?_
  refine Wl.q (v := Value.int .i64 0) (q_assign rfl) ?_
  refine Wl.done ?_
  refine Wx.go ?_
  refine Wc.ret ?_
  refine Wx.fin1 rfl (.inl rfl) (fun w hs => ?_)
  exact ⟨(), trivial, rfl, (st_pull [1, 1, 0] (hs))⟩

theorem list1_bad (W0 : World) (r rb nb : Nat) (s : ByteArray) (a0 : Nat) (ha0 : a0 ≤ s.size) (hsz : s.size ≤ 9223372036854775807) (htk : takeNum s a0 = none) :
    Con Try.prog W0 50 #[Value.pointer (some ⟨rb, 0, none⟩), Value.pointer (some ⟨nb, 0, none⟩)] [pt rb 31 [Value.pointer (some ⟨r, 0, none⟩)], pt nb 3 [Value.int .i64 0], pt r 59 [Value.bool true, Value.string s, Value.int .i64 ((a0 : Nat) : Int)]] (X := Nat) (fun _ => True) (fun _ => .int .i64 4) (fun a => [pt rb 31 [Value.pointer (some ⟨r, 0, none⟩)], pt nb 3 [Value.int .i64 0], pt r 59 [Value.bool true, Value.string s, Value.int .i64 ((a : Nat) : Int)]]) := by
  refine Con.of (args := [Value.pointer (some ⟨rb, 0, none⟩), Value.pointer (some ⟨nb, 0, none⟩)]) Try.func50 rfl Try.ntmps50 rfl (fun F => ?_)
  show Wc _ W0 _ _ _ _ _ ((pt rb 31 [Value.pointer (some ⟨r, 0, none⟩)]) :: (pt nb 3 [Value.int .i64 0]) :: (pt r 59 [Value.bool true, Value.string s, Value.int .i64 ((a0 : Nat) : Int)]) :: F)
  refine Wc.seq ?_
  refine Wc.region ?_
  refine Wl.q (v := Value.int .i64 0) (q_assign rfl) ?_
  refine Wl.done ?_
  refine Wx.go ?_
  refine Wc.seq ?_
  refine Wc.region ?_
  refine Wl.q (v := Value.pointer (some ⟨r, 0, none⟩)) (q_load sc_31 rfl (.cel (i := 0) rfl rfl)) ?_
  refine Wl.imp (L' := (pt r 59 [Value.bool true, Value.string s, Value.int .i64 ((a0 : Nat) : Int)]) :: (pt rb 31 [Value.pointer (some ⟨r, 0, none⟩)]) :: (pt nb 3 [Value.int .i64 0]) :: F) (fun _ h => st_pull [2] h) ?_
  refine Wl.e (e_call (F := (pt rb 31 [Value.pointer (some ⟨r, 0, none⟩)]) :: (pt nb 3 [Value.int .i64 0]) :: F) (args := [Value.pointer (some ⟨r, 0, none⟩)]) Try.call47 rfl (number_bad W0 r s a0 ha0 hsz htk)) (fun y _ => ?_)
  refine Wl.imp (L' := (pt r 59 [Value.bool true, Value.string s, Value.int .i64 ((y.2 : Nat) : Int)]) :: (pt rb 31 [Value.pointer (some ⟨r, 0, none⟩)]) :: (pt nb 3 [Value.int .i64 0]) :: F) (fun _ h => h) ?_
  refine Wl.q (v := Value.tuple #[Value.int .i64 y.1, Value.bool false]) (q_move rfl) ?_
  refine Wl.q (v := Value.int .i64 y.1) (q_extract (i := 0) rfl rfl) ?_
  refine Wl.q (v := Value.bool false) (q_extract (i := 1) rfl rfl) ?_
  refine Wl.q (v := Value.int .i64 y.1) (q_assign rfl) ?_
  refine Wl.q (v := Value.bool false) (q_assign rfl) ?_
  refine Wl.done ?_
  refine Wx.go ?_
  refine Wc.seq ?_
  refine Wc.seq ?_
  refine Wc.region ?_
  refine Wl.q (v := Value.bool false) (q_move rfl) ?_
  refine Wl.q (v := Value.bool true) (q_not rfl rfl) ?_
  refine Wl.q (v := Value.bool true) (q_move rfl) ?_
  refine Wl.no ?_
  refine Wl.no ?_
  refine Wl.q (v := Value.bool true) (q_pick (t := true) rfl rfl) ?_
  refine Wl.q (v := Value.bool true) (q_move rfl) ?_
  refine Wl.no ?_
  refine Wl.no ?_
  refine Wl.q (v := Value.bool true) (q_pick (t := true) rfl rfl) ?_
  refine Wl.done ?_
  refine Wx.go ?_
  refine Wc.yes rfl ?_
  refine Wc.seq ?_
  refine Wc.region ?_
  refine Wl.q (v := Value.int .i64 4) (q_assign rfl) ?_
  refine Wl.done ?_
  refine Wx.go ?_
  refine Wc.ret ?_
  refine Wx.thenRet ?_
  refine Wx.fin1 rfl (.inl rfl) (fun w hs => ?_)
  exact ⟨y.2, trivial, rfl, (st_pull [1, 1, 0] (hs))⟩

theorem list1_neg (W0 : World) (r rb nb : Nat) (s : ByteArray) (a0 : Nat) (ha0 : a0 ≤ s.size) (hsz : s.size ≤ 9223372036854775807) (v : Int) (a : Nat) (htk : takeNum s a0 = some (v, a)) (hv : v < 0) :
    Con Try.prog W0 50 #[Value.pointer (some ⟨rb, 0, none⟩), Value.pointer (some ⟨nb, 0, none⟩)] [pt rb 31 [Value.pointer (some ⟨r, 0, none⟩)], pt nb 3 [Value.int .i64 0], pt r 59 [Value.bool true, Value.string s, Value.int .i64 ((a0 : Nat) : Int)]] (X := Nat) (fun _ => True) (fun _ => .int .i64 4) (fun a => [pt rb 31 [Value.pointer (some ⟨r, 0, none⟩)], pt nb 3 [Value.int .i64 0], pt r 59 [Value.bool true, Value.string s, Value.int .i64 ((a : Nat) : Int)]]) := by
  refine Con.of (args := [Value.pointer (some ⟨rb, 0, none⟩), Value.pointer (some ⟨nb, 0, none⟩)]) Try.func50 rfl Try.ntmps50 rfl (fun F => ?_)
  show Wc _ W0 _ _ _ _ _ ((pt rb 31 [Value.pointer (some ⟨r, 0, none⟩)]) :: (pt nb 3 [Value.int .i64 0]) :: (pt r 59 [Value.bool true, Value.string s, Value.int .i64 ((a0 : Nat) : Int)]) :: F)
  refine Wc.seq ?_
  refine Wc.region ?_
  refine Wl.q (v := Value.int .i64 0) (q_assign rfl) ?_
  refine Wl.done ?_
  refine Wx.go ?_
  refine Wc.seq ?_
  refine Wc.region ?_
  refine Wl.q (v := Value.pointer (some ⟨r, 0, none⟩)) (q_load sc_31 rfl (.cel (i := 0) rfl rfl)) ?_
  refine Wl.imp (L' := (pt r 59 [Value.bool true, Value.string s, Value.int .i64 ((a0 : Nat) : Int)]) :: (pt rb 31 [Value.pointer (some ⟨r, 0, none⟩)]) :: (pt nb 3 [Value.int .i64 0]) :: F) (fun _ h => st_pull [2] h) ?_
  refine Wl.e (e_call (F := (pt rb 31 [Value.pointer (some ⟨r, 0, none⟩)]) :: (pt nb 3 [Value.int .i64 0]) :: F) (args := [Value.pointer (some ⟨r, 0, none⟩)]) Try.call47 rfl (number_ok W0 r s a0 ha0 hsz v a htk)) (fun _ _ => ?_)
  refine Wl.imp (L' := (pt r 59 [Value.bool true, Value.string s, Value.int .i64 ((a : Nat) : Int)]) :: (pt rb 31 [Value.pointer (some ⟨r, 0, none⟩)]) :: (pt nb 3 [Value.int .i64 0]) :: F) (fun _ h => h) ?_
  refine Wl.q (v := Value.tuple #[Value.int .i64 v, Value.bool true]) (q_move rfl) ?_
  refine Wl.q (v := Value.int .i64 v) (q_extract (i := 0) rfl rfl) ?_
  refine Wl.q (v := Value.bool true) (q_extract (i := 1) rfl rfl) ?_
  refine Wl.q (v := Value.int .i64 v) (q_assign rfl) ?_
  refine Wl.q (v := Value.bool true) (q_assign rfl) ?_
  refine Wl.done ?_
  refine Wx.go ?_
  refine Wc.seq ?_
  refine Wc.seq ?_
  refine Wc.region ?_
  refine Wl.q (v := Value.bool true) (q_move rfl) ?_
  refine Wl.q (v := Value.bool false) (q_not rfl rfl) ?_
  refine Wl.q (v := Value.bool false) (q_move rfl) ?_
  refine Wl.q (v := Value.int .i64 v) (q_move rfl) ?_
  refine Wl.q (v := Value.bool true) (q_lss (r := true) rfl rfl (decide_eq_true (hv))) ?_
  refine Wl.q (v := Value.bool true) (q_pick (t := false) rfl rfl) ?_
  refine Wl.q (v := Value.bool true) (q_move rfl) ?_
  refine Wl.no ?_
  refine Wl.no ?_
  refine Wl.q (v := Value.bool true) (q_pick (t := true) rfl rfl) ?_
  refine Wl.done ?_
  refine Wx.go ?_
  refine Wc.yes rfl ?_
  refine Wc.seq ?_
  refine Wc.region ?_
  refine Wl.q (v := Value.int .i64 4) (q_assign rfl) ?_
  refine Wl.done ?_
  refine Wx.go ?_
  refine Wc.ret ?_
  refine Wx.thenRet ?_
  refine Wx.fin1 rfl (.inl rfl) (fun w hs => ?_)
  exact ⟨a, trivial, rfl, (st_pull [1, 1, 0] (hs))⟩

theorem list1_big (W0 : World) (r rb nb : Nat) (s : ByteArray) (a0 : Nat) (ha0 : a0 ≤ s.size) (hsz : s.size ≤ 9223372036854775807) (v : Int) (a : Nat) (htk : takeNum s a0 = some (v, a)) (hv0 : 0 ≤ v) (hv : 65536 < v) :
    Con Try.prog W0 50 #[Value.pointer (some ⟨rb, 0, none⟩), Value.pointer (some ⟨nb, 0, none⟩)] [pt rb 31 [Value.pointer (some ⟨r, 0, none⟩)], pt nb 3 [Value.int .i64 0], pt r 59 [Value.bool true, Value.string s, Value.int .i64 ((a0 : Nat) : Int)]] (X := Nat) (fun _ => True) (fun _ => .int .i64 4) (fun a => [pt rb 31 [Value.pointer (some ⟨r, 0, none⟩)], pt nb 3 [Value.int .i64 0], pt r 59 [Value.bool true, Value.string s, Value.int .i64 ((a : Nat) : Int)]]) := by
  refine Con.of (args := [Value.pointer (some ⟨rb, 0, none⟩), Value.pointer (some ⟨nb, 0, none⟩)]) Try.func50 rfl Try.ntmps50 rfl (fun F => ?_)
  show Wc _ W0 _ _ _ _ _ ((pt rb 31 [Value.pointer (some ⟨r, 0, none⟩)]) :: (pt nb 3 [Value.int .i64 0]) :: (pt r 59 [Value.bool true, Value.string s, Value.int .i64 ((a0 : Nat) : Int)]) :: F)
  refine Wc.seq ?_
  refine Wc.region ?_
  refine Wl.q (v := Value.int .i64 0) (q_assign rfl) ?_
  refine Wl.done ?_
  refine Wx.go ?_
  refine Wc.seq ?_
  refine Wc.region ?_
  refine Wl.q (v := Value.pointer (some ⟨r, 0, none⟩)) (q_load sc_31 rfl (.cel (i := 0) rfl rfl)) ?_
  refine Wl.imp (L' := (pt r 59 [Value.bool true, Value.string s, Value.int .i64 ((a0 : Nat) : Int)]) :: (pt rb 31 [Value.pointer (some ⟨r, 0, none⟩)]) :: (pt nb 3 [Value.int .i64 0]) :: F) (fun _ h => st_pull [2] h) ?_
  refine Wl.e (e_call (F := (pt rb 31 [Value.pointer (some ⟨r, 0, none⟩)]) :: (pt nb 3 [Value.int .i64 0]) :: F) (args := [Value.pointer (some ⟨r, 0, none⟩)]) Try.call47 rfl (number_ok W0 r s a0 ha0 hsz v a htk)) (fun _ _ => ?_)
  refine Wl.imp (L' := (pt r 59 [Value.bool true, Value.string s, Value.int .i64 ((a : Nat) : Int)]) :: (pt rb 31 [Value.pointer (some ⟨r, 0, none⟩)]) :: (pt nb 3 [Value.int .i64 0]) :: F) (fun _ h => h) ?_
  refine Wl.q (v := Value.tuple #[Value.int .i64 v, Value.bool true]) (q_move rfl) ?_
  refine Wl.q (v := Value.int .i64 v) (q_extract (i := 0) rfl rfl) ?_
  refine Wl.q (v := Value.bool true) (q_extract (i := 1) rfl rfl) ?_
  refine Wl.q (v := Value.int .i64 v) (q_assign rfl) ?_
  refine Wl.q (v := Value.bool true) (q_assign rfl) ?_
  refine Wl.done ?_
  refine Wx.go ?_
  refine Wc.seq ?_
  refine Wc.seq ?_
  refine Wc.region ?_
  refine Wl.q (v := Value.bool true) (q_move rfl) ?_
  refine Wl.q (v := Value.bool false) (q_not rfl rfl) ?_
  refine Wl.q (v := Value.bool false) (q_move rfl) ?_
  refine Wl.q (v := Value.int .i64 v) (q_move rfl) ?_
  refine Wl.q (v := Value.bool false) (q_lss (r := false) rfl rfl (decide_eq_false (by omega))) ?_
  refine Wl.q (v := Value.bool false) (q_pick (t := false) rfl rfl) ?_
  refine Wl.q (v := Value.bool false) (q_move rfl) ?_
  refine Wl.q (v := Value.int .i64 v) (q_move rfl) ?_
  refine Wl.q (v := Value.bool true) (q_gtr (r := true) rfl rfl (decide_eq_true (by omega))) ?_
  refine Wl.q (v := Value.bool true) (q_pick (t := false) rfl rfl) ?_
  refine Wl.done ?_
  refine Wx.go ?_
  refine Wc.yes rfl ?_
  refine Wc.seq ?_
  refine Wc.region ?_
  refine Wl.q (v := Value.int .i64 4) (q_assign rfl) ?_
  refine Wl.done ?_
  refine Wx.go ?_
  refine Wc.ret ?_
  refine Wx.thenRet ?_
  refine Wx.fin1 rfl (.inl rfl) (fun w hs => ?_)
  exact ⟨a, trivial, rfl, (st_pull [1, 1, 0] (hs))⟩

theorem rnumber_ok (W0 : World) (r : Nat) (s : ByteArray) (a0 : Nat) (ha0 : a0 ≤ s.size) (hsz : s.size ≤ 9223372036854775807) (v : Int) (a : Nat) (htk : takeNum s a0 = some (v, a)) :
    Con Try.prog W0 23 #[Value.pointer (some ⟨r, 0, none⟩)] [pt r 59 [Value.bool true, Value.string s, Value.int .i64 ((a0 : Nat) : Int)]] (X := Unit) (fun _ => True) (fun _ => .tuple #[Value.int .i64 v, .int .i64 0]) (fun _ => [pt r 59 [Value.bool true, Value.string s, Value.int .i64 ((a : Nat) : Int)]]) := by
  refine Con.of (args := [Value.pointer (some ⟨r, 0, none⟩)]) Try.func23 rfl Try.ntmps23 rfl (fun F => ?_)
  show Wc _ W0 _ _ _ _ _ ((pt r 59 [Value.bool true, Value.string s, Value.int .i64 ((a0 : Nat) : Int)]) :: F)
  refine Wc.seq ?_
  refine Wc.region ?_
  refine Wl.e (e_box (x := .tmp 0) (vs := [Value.pointer (some ⟨r, 0, none⟩)]) rfl) (fun rb _ => ?_)
  refine Wl.imp (L' := (pt rb 31 [Value.pointer (some ⟨r, 0, none⟩)]) :: (pt r 59 [Value.bool true, Value.string s, Value.int .i64 ((a0 : Nat) : Int)]) :: F) (fun _ h => h) ?_
  refine Wl.e (e_alloc (vs := [Value.int .i64 0]) zo_2 rfl) (fun nb _ => ?_)
  refine Wl.imp (L' := (pt nb 2 [Value.int .i64 0]) :: (pt rb 31 [Value.pointer (some ⟨r, 0, none⟩)]) :: (pt r 59 [Value.bool true, Value.string s, Value.int .i64 ((a0 : Nat) : Int)]) :: F) (fun _ h => h) ?_
  refine Wl.q (v := Value.int .i64 0) (q_assign rfl) ?_
  refine Wl.done ?_
  refine Wx.go ?_
  refine Wc.seq ?_
  refine Wc.region ?_
  refine Wl.q (v := Value.pointer (some ⟨r, 0, none⟩)) (q_load sc_31 rfl (.cel (i := 1) rfl rfl)) ?_
  refine Wl.q (v := Value.func (.func 46) #[] #[Value.pointer (some ⟨rb, 0, none⟩), Value.pointer (some ⟨nb, 0, none⟩)]) (q_makeFunc (us := []) (vs := [Value.pointer (some ⟨rb, 0, none⟩), Value.pointer (some ⟨nb, 0, none⟩)]) rfl rfl) ?_
  refine Wl.imp (L' := (pt rb 31 [Value.pointer (some ⟨r, 0, none⟩)]) :: (pt nb 2 [Value.int .i64 0]) :: (pt r 59 [Value.bool true, Value.string s, Value.int .i64 ((a0 : Nat) : Int)]) :: F) (fun _ h => st_pull [1, 0, 0] h) ?_
  refine Wl.e (e_call (F := F) (args := [Value.pointer (some ⟨r, 0, none⟩), Value.func (.func 46) #[] #[Value.pointer (some ⟨rb, 0, none⟩), Value.pointer (some ⟨nb, 0, none⟩)]]) Try.call43 rfl (take_Number_ok W0 r rb nb s a0 a (Value.int .i64 0) (Value.int .i64 v) (number1_ok W0 r rb nb s a0 ha0 hsz v a htk))) (fun _ _ => ?_)
  refine Wl.imp (L' := (pt rb 31 [Value.pointer (some ⟨r, 0, none⟩)]) :: (pt nb 2 [Value.int .i64 v]) :: (pt r 59 [Value.bool true, Value.string s, Value.int .i64 ((a : Nat) : Int)]) :: F) (fun _ h => h) ?_
  refine Wl.q (v := Value.int .i64 0) (q_assign rfl) ?_
  refine Wl.done ?_
  refine Wx.go ?_
  refine Wc.seq ?_
  refine Wc.region ?_
  refine Wl.q (v := Value.int .i64 v) (q_load sc_2 rfl (.cel (i := 1) rfl rfl)) ?_
  refine Wl.q (v := Value.int .i64 0) (q_move rfl) ?_
  refine Wl.e (e_store (i := 1) (v := Value.int .i64 v) sz_2 rfl rfl (fun _ _ => rfl) rfl (by simp)) (fun _ _ => ?_)
  refine Wl.imp (L' := (pt rb 31 [Value.pointer (some ⟨r, 0, none⟩)]) :: (pt nb 2 [Value.int .i64 v]) :: (pt r 59 [Value.bool true, Value.string s, Value.int .i64 ((a : Nat) : Int)]) :: F) (fun _ h => h) ?_
  refine Wl.q (v := Value.int .i64 0) (q_assign rfl) ?_
  refine Wl.done ?_
  refine Wx.go ?_
  refine Wc.ret ?_
  refine Wx.finC2 rfl (.inl rfl) sc_2 rfl (.cel (i := 1) rfl rfl) (fun w hs => ?_)
  exact ⟨(), trivial, rfl, (st_drop (st_drop (st_pull [0, 0] hs)))⟩

theorem rnumber_bad (W0 : World) (r : Nat) (s : ByteArray) (a0 : Nat) (ha0 : a0 ≤ s.size) (hsz : s.size ≤ 9223372036854775807) (htk : takeNum s a0 = none) :
    Con Try.prog W0 23 #[Value.pointer (some ⟨r, 0, none⟩)] [pt r 59 [Value.bool true, Value.string s, Value.int .i64 ((a0 : Nat) : Int)]] (X := Unit) (fun _ => True) (fun _ => .tuple #[Value.int .i64 0, .int .i64 4]) (fun _ => [pt r 59 [Value.bool true, Value.string s, Value.int .i64 ((a0 : Nat) : Int)]]) := by
  refine Con.of (args := [Value.pointer (some ⟨r, 0, none⟩)]) Try.func23 rfl Try.ntmps23 rfl (fun F => ?_)
  show Wc _ W0 _ _ _ _ _ ((pt r 59 [Value.bool true, Value.string s, Value.int .i64 ((a0 : Nat) : Int)]) :: F)
  refine Wc.seq ?_
  refine Wc.region ?_
  refine Wl.e (e_box (x := .tmp 0) (vs := [Value.pointer (some ⟨r, 0, none⟩)]) rfl) (fun rb _ => ?_)
  refine Wl.imp (L' := (pt rb 31 [Value.pointer (some ⟨r, 0, none⟩)]) :: (pt r 59 [Value.bool true, Value.string s, Value.int .i64 ((a0 : Nat) : Int)]) :: F) (fun _ h => h) ?_
  refine Wl.e (e_alloc (vs := [Value.int .i64 0]) zo_2 rfl) (fun nb _ => ?_)
  refine Wl.imp (L' := (pt nb 2 [Value.int .i64 0]) :: (pt rb 31 [Value.pointer (some ⟨r, 0, none⟩)]) :: (pt r 59 [Value.bool true, Value.string s, Value.int .i64 ((a0 : Nat) : Int)]) :: F) (fun _ h => h) ?_
  refine Wl.q (v := Value.int .i64 0) (q_assign rfl) ?_
  refine Wl.done ?_
  refine Wx.go ?_
  refine Wc.seq ?_
  refine Wc.region ?_
  refine Wl.q (v := Value.pointer (some ⟨r, 0, none⟩)) (q_load sc_31 rfl (.cel (i := 1) rfl rfl)) ?_
  refine Wl.q (v := Value.func (.func 46) #[] #[Value.pointer (some ⟨rb, 0, none⟩), Value.pointer (some ⟨nb, 0, none⟩)]) (q_makeFunc (us := []) (vs := [Value.pointer (some ⟨rb, 0, none⟩), Value.pointer (some ⟨nb, 0, none⟩)]) rfl rfl) ?_
  refine Wl.imp (L' := (pt rb 31 [Value.pointer (some ⟨r, 0, none⟩)]) :: (pt nb 2 [Value.int .i64 0]) :: (pt r 59 [Value.bool true, Value.string s, Value.int .i64 ((a0 : Nat) : Int)]) :: F) (fun _ h => st_pull [1, 0, 0] h) ?_
  refine Wl.e (e_call (F := F) (args := [Value.pointer (some ⟨r, 0, none⟩), Value.func (.func 46) #[] #[Value.pointer (some ⟨rb, 0, none⟩), Value.pointer (some ⟨nb, 0, none⟩)]]) Try.call43 rfl (take_Number_bad W0 r rb nb s a0 (Value.int .i64 0) (number1_bad W0 r rb nb s a0 ha0 hsz htk))) (fun _ _ => ?_)
  refine Wl.imp (L' := (pt rb 31 [Value.pointer (some ⟨r, 0, none⟩)]) :: (pt nb 2 [Value.int .i64 0]) :: (pt r 59 [Value.bool true, Value.string s, Value.int .i64 ((a0 : Nat) : Int)]) :: F) (fun _ h => h) ?_
  refine Wl.q (v := Value.int .i64 4) (q_assign rfl) ?_
  refine Wl.done ?_
  refine Wx.go ?_
  refine Wc.seq ?_
  refine Wc.region ?_
  refine Wl.q (v := Value.int .i64 0) (q_load sc_2 rfl (.cel (i := 1) rfl rfl)) ?_
  refine Wl.q (v := Value.int .i64 4) (q_move rfl) ?_
  refine Wl.e (e_store (i := 1) (v := Value.int .i64 0) sz_2 rfl rfl (fun _ _ => rfl) rfl (by simp)) (fun _ _ => ?_)
  refine Wl.imp (L' := (pt rb 31 [Value.pointer (some ⟨r, 0, none⟩)]) :: (pt nb 2 [Value.int .i64 0]) :: (pt r 59 [Value.bool true, Value.string s, Value.int .i64 ((a0 : Nat) : Int)]) :: F) (fun _ h => h) ?_
  refine Wl.q (v := Value.int .i64 4) (q_assign rfl) ?_
  refine Wl.done ?_
  refine Wx.go ?_
  refine Wc.ret ?_
  refine Wx.finC2 rfl (.inl rfl) sc_2 rfl (.cel (i := 1) rfl rfl) (fun w hs => ?_)
  exact ⟨(), trivial, rfl, (st_drop (st_drop (st_pull [0, 0] hs)))⟩

theorem rlist_ok (W0 : World) (r : Nat) (s : ByteArray) (a0 : Nat) (ha0 : a0 ≤ s.size) (hsz : s.size ≤ 9223372036854775807) (v : Int) (a : Nat) (htk : takeNum s a0 = some (v, a)) (hv0 : 0 ≤ v) (hv1 : v ≤ 65536) :
    Con Try.prog W0 26 #[Value.pointer (some ⟨r, 0, none⟩)] [pt r 59 [Value.bool true, Value.string s, Value.int .i64 ((a0 : Nat) : Int)]] (X := Unit) (fun _ => True) (fun _ => .tuple #[Value.int .i64 v, .int .i64 0]) (fun _ => [pt r 59 [Value.bool true, Value.string s, Value.int .i64 ((a : Nat) : Int)]]) := by
  refine Con.of (args := [Value.pointer (some ⟨r, 0, none⟩)]) Try.func26 rfl Try.ntmps26 rfl (fun F => ?_)
  show Wc _ W0 _ _ _ _ _ ((pt r 59 [Value.bool true, Value.string s, Value.int .i64 ((a0 : Nat) : Int)]) :: F)
  refine Wc.seq ?_
  refine Wc.region ?_
  refine Wl.e (e_box (x := .tmp 0) (vs := [Value.pointer (some ⟨r, 0, none⟩)]) rfl) (fun rb _ => ?_)
  refine Wl.imp (L' := (pt rb 31 [Value.pointer (some ⟨r, 0, none⟩)]) :: (pt r 59 [Value.bool true, Value.string s, Value.int .i64 ((a0 : Nat) : Int)]) :: F) (fun _ h => h) ?_
  refine Wl.e (e_alloc (vs := [Value.int .i64 0]) zo_3 rfl) (fun nb _ => ?_)
  refine Wl.imp (L' := (pt nb 3 [Value.int .i64 0]) :: (pt rb 31 [Value.pointer (some ⟨r, 0, none⟩)]) :: (pt r 59 [Value.bool true, Value.string s, Value.int .i64 ((a0 : Nat) : Int)]) :: F) (fun _ h => h) ?_
  refine Wl.q (v := Value.int .i64 0) (q_assign rfl) ?_
  refine Wl.done ?_
  refine Wx.go ?_
  refine Wc.seq ?_
  refine Wc.region ?_
  refine Wl.q (v := Value.pointer (some ⟨r, 0, none⟩)) (q_load sc_31 rfl (.cel (i := 1) rfl rfl)) ?_
  refine Wl.q (v := Value.func (.func 50) #[] #[Value.pointer (some ⟨rb, 0, none⟩), Value.pointer (some ⟨nb, 0, none⟩)]) (q_makeFunc (us := []) (vs := [Value.pointer (some ⟨rb, 0, none⟩), Value.pointer (some ⟨nb, 0, none⟩)]) rfl rfl) ?_
  refine Wl.imp (L' := (pt rb 31 [Value.pointer (some ⟨r, 0, none⟩)]) :: (pt nb 3 [Value.int .i64 0]) :: (pt r 59 [Value.bool true, Value.string s, Value.int .i64 ((a0 : Nat) : Int)]) :: F) (fun _ h => st_pull [1, 0, 0] h) ?_
  refine Wl.e (e_call (F := F) (args := [Value.pointer (some ⟨r, 0, none⟩), Value.func (.func 50) #[] #[Value.pointer (some ⟨rb, 0, none⟩), Value.pointer (some ⟨nb, 0, none⟩)]]) Try.call43 rfl (take_List_ok W0 r rb nb s a0 a (Value.int .i64 0) (Value.int .i64 v) (list1_ok W0 r rb nb s a0 ha0 hsz v a htk hv0 hv1))) (fun _ _ => ?_)
  refine Wl.imp (L' := (pt rb 31 [Value.pointer (some ⟨r, 0, none⟩)]) :: (pt nb 3 [Value.int .i64 v]) :: (pt r 59 [Value.bool true, Value.string s, Value.int .i64 ((a : Nat) : Int)]) :: F) (fun _ h => h) ?_
  refine Wl.q (v := Value.int .i64 0) (q_assign rfl) ?_
  refine Wl.done ?_
  refine Wx.go ?_
  refine Wc.seq ?_
  refine Wc.region ?_
  refine Wl.q (v := Value.int .i64 v) (q_load sc_3 rfl (.cel (i := 1) rfl rfl)) ?_
  refine Wl.q (v := Value.int .i64 0) (q_move rfl) ?_
  refine Wl.e (e_store (i := 1) (v := Value.int .i64 v) sz_3 rfl rfl (fun _ _ => rfl) rfl (by simp)) (fun _ _ => ?_)
  refine Wl.imp (L' := (pt rb 31 [Value.pointer (some ⟨r, 0, none⟩)]) :: (pt nb 3 [Value.int .i64 v]) :: (pt r 59 [Value.bool true, Value.string s, Value.int .i64 ((a : Nat) : Int)]) :: F) (fun _ h => h) ?_
  refine Wl.q (v := Value.int .i64 0) (q_assign rfl) ?_
  refine Wl.done ?_
  refine Wx.go ?_
  refine Wc.ret ?_
  refine Wx.finC2 rfl (.inl rfl) sc_3 rfl (.cel (i := 1) rfl rfl) (fun w hs => ?_)
  exact ⟨(), trivial, rfl, (st_drop (st_drop (st_pull [0, 0] hs)))⟩

theorem rlist_none (W0 : World) (r : Nat) (s : ByteArray) (a0 : Nat) (ha0 : a0 ≤ s.size) (hsz : s.size ≤ 9223372036854775807) (htk : takeNum s a0 = none) :
    Con Try.prog W0 26 #[Value.pointer (some ⟨r, 0, none⟩)] [pt r 59 [Value.bool true, Value.string s, Value.int .i64 ((a0 : Nat) : Int)]] (X := Unit) (fun _ => True) (fun _ => .tuple #[Value.int .i64 0, .int .i64 4]) (fun _ => [pt r 59 [Value.bool true, Value.string s, Value.int .i64 ((a0 : Nat) : Int)]]) := by
  refine Con.of (args := [Value.pointer (some ⟨r, 0, none⟩)]) Try.func26 rfl Try.ntmps26 rfl (fun F => ?_)
  show Wc _ W0 _ _ _ _ _ ((pt r 59 [Value.bool true, Value.string s, Value.int .i64 ((a0 : Nat) : Int)]) :: F)
  refine Wc.seq ?_
  refine Wc.region ?_
  refine Wl.e (e_box (x := .tmp 0) (vs := [Value.pointer (some ⟨r, 0, none⟩)]) rfl) (fun rb _ => ?_)
  refine Wl.imp (L' := (pt rb 31 [Value.pointer (some ⟨r, 0, none⟩)]) :: (pt r 59 [Value.bool true, Value.string s, Value.int .i64 ((a0 : Nat) : Int)]) :: F) (fun _ h => h) ?_
  refine Wl.e (e_alloc (vs := [Value.int .i64 0]) zo_3 rfl) (fun nb _ => ?_)
  refine Wl.imp (L' := (pt nb 3 [Value.int .i64 0]) :: (pt rb 31 [Value.pointer (some ⟨r, 0, none⟩)]) :: (pt r 59 [Value.bool true, Value.string s, Value.int .i64 ((a0 : Nat) : Int)]) :: F) (fun _ h => h) ?_
  refine Wl.q (v := Value.int .i64 0) (q_assign rfl) ?_
  refine Wl.done ?_
  refine Wx.go ?_
  refine Wc.seq ?_
  refine Wc.region ?_
  refine Wl.q (v := Value.pointer (some ⟨r, 0, none⟩)) (q_load sc_31 rfl (.cel (i := 1) rfl rfl)) ?_
  refine Wl.q (v := Value.func (.func 50) #[] #[Value.pointer (some ⟨rb, 0, none⟩), Value.pointer (some ⟨nb, 0, none⟩)]) (q_makeFunc (us := []) (vs := [Value.pointer (some ⟨rb, 0, none⟩), Value.pointer (some ⟨nb, 0, none⟩)]) rfl rfl) ?_
  refine Wl.imp (L' := (pt rb 31 [Value.pointer (some ⟨r, 0, none⟩)]) :: (pt nb 3 [Value.int .i64 0]) :: (pt r 59 [Value.bool true, Value.string s, Value.int .i64 ((a0 : Nat) : Int)]) :: F) (fun _ h => st_pull [1, 0, 0] h) ?_
  refine Wl.e (e_call (F := F) (args := [Value.pointer (some ⟨r, 0, none⟩), Value.func (.func 50) #[] #[Value.pointer (some ⟨rb, 0, none⟩), Value.pointer (some ⟨nb, 0, none⟩)]]) Try.call43 rfl (take_List_bad W0 r rb nb s a0 (Value.int .i64 0) (list1_bad W0 r rb nb s a0 ha0 hsz htk))) (fun _ _ => ?_)
  refine Wl.imp (L' := (pt rb 31 [Value.pointer (some ⟨r, 0, none⟩)]) :: (pt nb 3 [Value.int .i64 0]) :: (pt r 59 [Value.bool true, Value.string s, Value.int .i64 ((a0 : Nat) : Int)]) :: F) (fun _ h => h) ?_
  refine Wl.q (v := Value.int .i64 4) (q_assign rfl) ?_
  refine Wl.done ?_
  refine Wx.go ?_
  refine Wc.seq ?_
  refine Wc.region ?_
  refine Wl.q (v := Value.int .i64 0) (q_load sc_3 rfl (.cel (i := 1) rfl rfl)) ?_
  refine Wl.q (v := Value.int .i64 4) (q_move rfl) ?_
  refine Wl.e (e_store (i := 1) (v := Value.int .i64 0) sz_3 rfl rfl (fun _ _ => rfl) rfl (by simp)) (fun _ _ => ?_)
  refine Wl.imp (L' := (pt rb 31 [Value.pointer (some ⟨r, 0, none⟩)]) :: (pt nb 3 [Value.int .i64 0]) :: (pt r 59 [Value.bool true, Value.string s, Value.int .i64 ((a0 : Nat) : Int)]) :: F) (fun _ h => h) ?_
  refine Wl.q (v := Value.int .i64 4) (q_assign rfl) ?_
  refine Wl.done ?_
  refine Wx.go ?_
  refine Wc.ret ?_
  refine Wx.finC2 rfl (.inl rfl) sc_3 rfl (.cel (i := 1) rfl rfl) (fun w hs => ?_)
  exact ⟨(), trivial, rfl, (st_drop (st_drop (st_pull [0, 0] hs)))⟩

theorem rlist_neg (W0 : World) (r : Nat) (s : ByteArray) (a0 : Nat) (ha0 : a0 ≤ s.size) (hsz : s.size ≤ 9223372036854775807) (v : Int) (a : Nat) (htk : takeNum s a0 = some (v, a)) (hv : v < 0) :
    Con Try.prog W0 26 #[Value.pointer (some ⟨r, 0, none⟩)] [pt r 59 [Value.bool true, Value.string s, Value.int .i64 ((a0 : Nat) : Int)]] (X := Unit) (fun _ => True) (fun _ => .tuple #[Value.int .i64 0, .int .i64 4]) (fun _ => [pt r 59 [Value.bool true, Value.string s, Value.int .i64 ((a0 : Nat) : Int)]]) := by
  refine Con.of (args := [Value.pointer (some ⟨r, 0, none⟩)]) Try.func26 rfl Try.ntmps26 rfl (fun F => ?_)
  show Wc _ W0 _ _ _ _ _ ((pt r 59 [Value.bool true, Value.string s, Value.int .i64 ((a0 : Nat) : Int)]) :: F)
  refine Wc.seq ?_
  refine Wc.region ?_
  refine Wl.e (e_box (x := .tmp 0) (vs := [Value.pointer (some ⟨r, 0, none⟩)]) rfl) (fun rb _ => ?_)
  refine Wl.imp (L' := (pt rb 31 [Value.pointer (some ⟨r, 0, none⟩)]) :: (pt r 59 [Value.bool true, Value.string s, Value.int .i64 ((a0 : Nat) : Int)]) :: F) (fun _ h => h) ?_
  refine Wl.e (e_alloc (vs := [Value.int .i64 0]) zo_3 rfl) (fun nb _ => ?_)
  refine Wl.imp (L' := (pt nb 3 [Value.int .i64 0]) :: (pt rb 31 [Value.pointer (some ⟨r, 0, none⟩)]) :: (pt r 59 [Value.bool true, Value.string s, Value.int .i64 ((a0 : Nat) : Int)]) :: F) (fun _ h => h) ?_
  refine Wl.q (v := Value.int .i64 0) (q_assign rfl) ?_
  refine Wl.done ?_
  refine Wx.go ?_
  refine Wc.seq ?_
  refine Wc.region ?_
  refine Wl.q (v := Value.pointer (some ⟨r, 0, none⟩)) (q_load sc_31 rfl (.cel (i := 1) rfl rfl)) ?_
  refine Wl.q (v := Value.func (.func 50) #[] #[Value.pointer (some ⟨rb, 0, none⟩), Value.pointer (some ⟨nb, 0, none⟩)]) (q_makeFunc (us := []) (vs := [Value.pointer (some ⟨rb, 0, none⟩), Value.pointer (some ⟨nb, 0, none⟩)]) rfl rfl) ?_
  refine Wl.imp (L' := (pt rb 31 [Value.pointer (some ⟨r, 0, none⟩)]) :: (pt nb 3 [Value.int .i64 0]) :: (pt r 59 [Value.bool true, Value.string s, Value.int .i64 ((a0 : Nat) : Int)]) :: F) (fun _ h => st_pull [1, 0, 0] h) ?_
  refine Wl.e (e_call (F := F) (args := [Value.pointer (some ⟨r, 0, none⟩), Value.func (.func 50) #[] #[Value.pointer (some ⟨rb, 0, none⟩), Value.pointer (some ⟨nb, 0, none⟩)]]) Try.call43 rfl (take_List_bad W0 r rb nb s a0 (Value.int .i64 0) (list1_neg W0 r rb nb s a0 ha0 hsz v a htk hv))) (fun _ _ => ?_)
  refine Wl.imp (L' := (pt rb 31 [Value.pointer (some ⟨r, 0, none⟩)]) :: (pt nb 3 [Value.int .i64 0]) :: (pt r 59 [Value.bool true, Value.string s, Value.int .i64 ((a0 : Nat) : Int)]) :: F) (fun _ h => h) ?_
  refine Wl.q (v := Value.int .i64 4) (q_assign rfl) ?_
  refine Wl.done ?_
  refine Wx.go ?_
  refine Wc.seq ?_
  refine Wc.region ?_
  refine Wl.q (v := Value.int .i64 0) (q_load sc_3 rfl (.cel (i := 1) rfl rfl)) ?_
  refine Wl.q (v := Value.int .i64 4) (q_move rfl) ?_
  refine Wl.e (e_store (i := 1) (v := Value.int .i64 0) sz_3 rfl rfl (fun _ _ => rfl) rfl (by simp)) (fun _ _ => ?_)
  refine Wl.imp (L' := (pt rb 31 [Value.pointer (some ⟨r, 0, none⟩)]) :: (pt nb 3 [Value.int .i64 0]) :: (pt r 59 [Value.bool true, Value.string s, Value.int .i64 ((a0 : Nat) : Int)]) :: F) (fun _ h => h) ?_
  refine Wl.q (v := Value.int .i64 4) (q_assign rfl) ?_
  refine Wl.done ?_
  refine Wx.go ?_
  refine Wc.ret ?_
  refine Wx.finC2 rfl (.inl rfl) sc_3 rfl (.cel (i := 1) rfl rfl) (fun w hs => ?_)
  exact ⟨(), trivial, rfl, (st_drop (st_drop (st_pull [0, 0] hs)))⟩

theorem rlist_big (W0 : World) (r : Nat) (s : ByteArray) (a0 : Nat) (ha0 : a0 ≤ s.size) (hsz : s.size ≤ 9223372036854775807) (v : Int) (a : Nat) (htk : takeNum s a0 = some (v, a)) (hv0 : 0 ≤ v) (hv : 65536 < v) :
    Con Try.prog W0 26 #[Value.pointer (some ⟨r, 0, none⟩)] [pt r 59 [Value.bool true, Value.string s, Value.int .i64 ((a0 : Nat) : Int)]] (X := Unit) (fun _ => True) (fun _ => .tuple #[Value.int .i64 0, .int .i64 4]) (fun _ => [pt r 59 [Value.bool true, Value.string s, Value.int .i64 ((a0 : Nat) : Int)]]) := by
  refine Con.of (args := [Value.pointer (some ⟨r, 0, none⟩)]) Try.func26 rfl Try.ntmps26 rfl (fun F => ?_)
  show Wc _ W0 _ _ _ _ _ ((pt r 59 [Value.bool true, Value.string s, Value.int .i64 ((a0 : Nat) : Int)]) :: F)
  refine Wc.seq ?_
  refine Wc.region ?_
  refine Wl.e (e_box (x := .tmp 0) (vs := [Value.pointer (some ⟨r, 0, none⟩)]) rfl) (fun rb _ => ?_)
  refine Wl.imp (L' := (pt rb 31 [Value.pointer (some ⟨r, 0, none⟩)]) :: (pt r 59 [Value.bool true, Value.string s, Value.int .i64 ((a0 : Nat) : Int)]) :: F) (fun _ h => h) ?_
  refine Wl.e (e_alloc (vs := [Value.int .i64 0]) zo_3 rfl) (fun nb _ => ?_)
  refine Wl.imp (L' := (pt nb 3 [Value.int .i64 0]) :: (pt rb 31 [Value.pointer (some ⟨r, 0, none⟩)]) :: (pt r 59 [Value.bool true, Value.string s, Value.int .i64 ((a0 : Nat) : Int)]) :: F) (fun _ h => h) ?_
  refine Wl.q (v := Value.int .i64 0) (q_assign rfl) ?_
  refine Wl.done ?_
  refine Wx.go ?_
  refine Wc.seq ?_
  refine Wc.region ?_
  refine Wl.q (v := Value.pointer (some ⟨r, 0, none⟩)) (q_load sc_31 rfl (.cel (i := 1) rfl rfl)) ?_
  refine Wl.q (v := Value.func (.func 50) #[] #[Value.pointer (some ⟨rb, 0, none⟩), Value.pointer (some ⟨nb, 0, none⟩)]) (q_makeFunc (us := []) (vs := [Value.pointer (some ⟨rb, 0, none⟩), Value.pointer (some ⟨nb, 0, none⟩)]) rfl rfl) ?_
  refine Wl.imp (L' := (pt rb 31 [Value.pointer (some ⟨r, 0, none⟩)]) :: (pt nb 3 [Value.int .i64 0]) :: (pt r 59 [Value.bool true, Value.string s, Value.int .i64 ((a0 : Nat) : Int)]) :: F) (fun _ h => st_pull [1, 0, 0] h) ?_
  refine Wl.e (e_call (F := F) (args := [Value.pointer (some ⟨r, 0, none⟩), Value.func (.func 50) #[] #[Value.pointer (some ⟨rb, 0, none⟩), Value.pointer (some ⟨nb, 0, none⟩)]]) Try.call43 rfl (take_List_bad W0 r rb nb s a0 (Value.int .i64 0) (list1_big W0 r rb nb s a0 ha0 hsz v a htk hv0 hv))) (fun _ _ => ?_)
  refine Wl.imp (L' := (pt rb 31 [Value.pointer (some ⟨r, 0, none⟩)]) :: (pt nb 3 [Value.int .i64 0]) :: (pt r 59 [Value.bool true, Value.string s, Value.int .i64 ((a0 : Nat) : Int)]) :: F) (fun _ h => h) ?_
  refine Wl.q (v := Value.int .i64 4) (q_assign rfl) ?_
  refine Wl.done ?_
  refine Wx.go ?_
  refine Wc.seq ?_
  refine Wc.region ?_
  refine Wl.q (v := Value.int .i64 0) (q_load sc_3 rfl (.cel (i := 1) rfl rfl)) ?_
  refine Wl.q (v := Value.int .i64 4) (q_move rfl) ?_
  refine Wl.e (e_store (i := 1) (v := Value.int .i64 0) sz_3 rfl rfl (fun _ _ => rfl) rfl (by simp)) (fun _ _ => ?_)
  refine Wl.imp (L' := (pt rb 31 [Value.pointer (some ⟨r, 0, none⟩)]) :: (pt nb 3 [Value.int .i64 0]) :: (pt r 59 [Value.bool true, Value.string s, Value.int .i64 ((a0 : Nat) : Int)]) :: F) (fun _ h => h) ?_
  refine Wl.q (v := Value.int .i64 4) (q_assign rfl) ?_
  refine Wl.done ?_
  refine Wx.go ?_
  refine Wc.ret ?_
  refine Wx.finC2 rfl (.inl rfl) sc_3 rfl (.cel (i := 1) rfl rfl) (fun w hs => ?_)
  exact ⟨(), trivial, rfl, (st_drop (st_drop (st_pull [0, 0] hs)))⟩

theorem text1_ok (W0 : World) (r rb nb : Nat) (s : ByteArray) (a0 : Nat) (ha0 : a0 ≤ s.size) (hsz : s.size ≤ 9223372036854775807) (n a : Nat) (htk : takeNum s a0 = some ((n : Int), a)) (hn : n ≤ 65536) (hna : a + n ≤ s.size) :
    Con Try.prog W0 49 #[Value.pointer (some ⟨rb, 0, none⟩), Value.pointer (some ⟨nb, 0, none⟩)] [pt rb 31 [Value.pointer (some ⟨r, 0, none⟩)], pt nb 9 ([Value.string (⟨#[]⟩)]), pt r 59 [Value.bool true, Value.string s, Value.int .i64 ((a0 : Nat) : Int)]] (X := Unit) (fun _ => True) (fun _ => .int .i64 0) (fun _ => [pt rb 31 [Value.pointer (some ⟨r, 0, none⟩)], pt nb 9 [Value.string (s.extract a (a + n))], pt r 59 [Value.bool true, Value.string s, Value.int .i64 (((a + n) : Nat) : Int)]]) := by
  refine Con.of (args := [Value.pointer (some ⟨rb, 0, none⟩), Value.pointer (some ⟨nb, 0, none⟩)]) Try.func49 rfl Try.ntmps49 rfl (fun F => ?_)
  show Wc _ W0 _ _ _ _ _ ((pt rb 31 [Value.pointer (some ⟨r, 0, none⟩)]) :: (pt nb 9 ([Value.string (⟨#[]⟩)])) :: (pt r 59 [Value.bool true, Value.string s, Value.int .i64 ((a0 : Nat) : Int)]) :: F)
  refine Wc.seq ?_
  refine Wc.region ?_
  refine Wl.q (v := Value.int .i64 0) (q_assign rfl) ?_
  refine Wl.done ?_
  refine Wx.go ?_
  refine Wc.seq ?_
  refine Wc.region ?_
  refine Wl.q (v := Value.pointer (some ⟨r, 0, none⟩)) (q_load sc_31 rfl (.cel (i := 0) rfl rfl)) ?_
  refine Wl.imp (L' := (pt r 59 [Value.bool true, Value.string s, Value.int .i64 ((a0 : Nat) : Int)]) :: (pt rb 31 [Value.pointer (some ⟨r, 0, none⟩)]) :: (pt nb 9 ([Value.string (⟨#[]⟩)])) :: F) (fun _ h => st_pull [2] h) ?_
  refine Wl.e (e_call (F := (pt rb 31 [Value.pointer (some ⟨r, 0, none⟩)]) :: (pt nb 9 ([Value.string (⟨#[]⟩)])) :: F) (args := [Value.pointer (some ⟨r, 0, none⟩)]) Try.call26 rfl (rlist_ok W0 r s a0 ha0 hsz (n : Int) a htk (by omega) (by omega))) (fun _ _ => ?_)
  refine Wl.imp (L' := (pt r 59 [Value.bool true, Value.string s, Value.int .i64 ((a : Nat) : Int)]) :: (pt rb 31 [Value.pointer (some ⟨r, 0, none⟩)]) :: (pt nb 9 ([Value.string (⟨#[]⟩)])) :: F) (fun _ h => h) ?_
  refine Wl.q (v := Value.tuple #[Value.int .i64 ((n : Nat) : Int), Value.int .i64 0]) (q_move rfl) ?_
  refine Wl.q (v := Value.int .i64 ((n : Nat) : Int)) (q_extract (i := 0) rfl rfl) ?_
  refine Wl.q (v := Value.int .i64 0) (q_extract (i := 1) rfl rfl) ?_
  refine Wl.q (v := Value.int .i64 ((n : Nat) : Int)) (q_assign rfl) ?_
  refine Wl.q (v := Value.int .i64 0) (q_assign rfl) ?_
  refine Wl.done ?_
  refine Wx.go ?_
  refine Wc.seq ?_
  refine Wc.seq ?_
  refine Wc.drawsS [] ((pt r 59 [Value.bool true, Value.string s, Value.int .i64 ((a : Nat) : Int)]) :: (pt rb 31 [Value.pointer (some ⟨r, 0, none⟩)]) :: (pt nb 9 ([Value.string (⟨#[]⟩)])) :: []) (by kernel_rfl) ?_
  refine Wr.pure (v := Value.int .i64 0) 0 rfl (by kernel_rfl) (.inr (fun _ h => st_take [0, 0, 0] h)) (.inl ⟨rfl, fun _ => q_move rfl⟩) ?_
  refine Wr.pure (v := Value.bool false) 1 rfl (by kernel_rfl) (.inr (fun _ h => st_take [0, 0, 0] h)) (.inl ⟨rfl, fun _ => q_neq (r := true) rfl rfl (decide_eq_true (by decide))⟩) ?_
  refine Wr.pure (v := Value.bool false) 2 rfl (by kernel_rfl) (.inr (fun _ h => st_take [0, 0, 0] h)) (.inl ⟨rfl, fun _ => q_move rfl⟩) ?_
  refine Wr.pure (v := Value.int .i64 ((n : Nat) : Int)) 3 rfl (by kernel_rfl) (.inr (fun _ h => st_take [0, 0, 0] h)) (.inl ⟨rfl, fun _ => q_move rfl⟩) ?_
  refine Wr.take (v := Value.pointer (some ⟨r, 0, none⟩)) 4 rfl (by kernel_rfl) (fun _ h => st_take [0, 0, 0] h) (.inl ⟨rfl, q_load sc_31 rfl (.cel (i := 1) rfl rfl)⟩) ?_
  refine Wr.pure (v := Value.pointer (some ⟨r, 0, none⟩)) 5 rfl (by kernel_rfl) (.inr (fun _ h => st_take [0, 0, 0] h)) (.inl ⟨rfl, fun _ => q_nil_ptr rfl⟩) ?_
  refine Wr.pure (v := Value.pointer (some ⟨r, 1, none⟩)) 6 rfl (by kernel_rfl) (.inr (fun _ h => st_take [0, 0, 0] h)) (.inl ⟨rfl, fun _ => q_field (m := 1) fo_59_1 rfl rfl⟩) ?_
  refine Wr.take (v := Value.string s) 7 rfl (by kernel_rfl) (fun _ h => st_take [0, 0, 0] h) (.inl ⟨rfl, q_load sc_9 rfl (.cel (i := 0) rfl rfl)⟩) ?_
  refine Wr.take (v := Value.int .i64 ((s.size : Nat) : Int)) 8 rfl (by kernel_rfl) (fun _ h => st_take [0, 0, 0] h) (.inl ⟨rfl, q_len_str Try.underlying9 rfl⟩) ?_
  refine Wr.take (v := Value.pointer (some ⟨r, 0, none⟩)) 9 rfl (by kernel_rfl) (fun _ h => st_take [0, 0, 0] h) (.inl ⟨rfl, q_load sc_31 rfl (.cel (i := 1) rfl rfl)⟩) ?_
  refine Wr.pure (v := Value.pointer (some ⟨r, 0, none⟩)) 10 rfl (by kernel_rfl) (.inr (fun _ h => st_take [0, 0, 0] h)) (.inl ⟨rfl, fun _ => q_nil_ptr rfl⟩) ?_
  refine Wr.pure (v := Value.pointer (some ⟨r, 2, none⟩)) 11 rfl (by kernel_rfl) (.inr (fun _ h => st_take [0, 0, 0] h)) (.inl ⟨rfl, fun _ => q_field (m := 2) fo_59_2 rfl rfl⟩) ?_
  refine Wr.take (v := Value.int .i64 ((a : Nat) : Int)) 12 rfl (by kernel_rfl) (fun _ h => st_take [0, 0, 0] h) (.inl ⟨rfl, q_load sc_3 rfl (.cel (i := 0) rfl rfl)⟩) ?_
  refine Wr.pure (v := Value.int .i64 (((s.size : Nat) : Int) - ((a : Nat) : Int))) 13 rfl (by kernel_rfl) (.inr (fun _ h => st_take [0, 0, 0] h)) (.inl ⟨rfl, fun _ => q_sub (c := (((s.size : Nat) : Int) - ((a : Nat) : Int))) rfl rfl (wrap_i64 (by omega) (by omega))⟩) ?_
  refine Wr.pure (v := Value.bool false) 14 rfl (by kernel_rfl) (.inr (fun _ h => st_take [0, 0, 0] h)) (.inl ⟨rfl, fun _ => q_gtr (r := false) rfl rfl (decide_eq_false (by omega))⟩) ?_
  refine Wr.pure (v := Value.bool false) 15 rfl (by kernel_rfl) (.inr (fun _ h => st_take [0, 0, 0] h)) (.inl ⟨rfl, fun _ => q_pick (t := false) rfl rfl⟩) ?_
  refine Wr.done (by kernel_rfl) ?_
  refine Wx.go ?_
  refine Wc.no rfl ?_
  refine Wc.skip ?_
  refine Wx.go ?_
  refine Wc.seq ?_
  refine Wc.drawsS [15] ((pt r 59 [Value.bool true, Value.string s, Value.int .i64 ((a : Nat) : Int)]) :: (pt rb 31 [Value.pointer (some ⟨r, 0, none⟩)]) :: (pt nb 9 ([Value.string (⟨#[]⟩)])) :: []) (by kernel_rfl) ?_
  refine Wr.take (v := Value.pointer (some ⟨r, 0, none⟩)) 0 rfl (by kernel_rfl) (fun _ h => st_take [0, 0, 0] h) (.inl ⟨rfl, q_load sc_31 rfl (.cel (i := 1) rfl rfl)⟩) ?_
  refine Wr.pure (v := Value.pointer (some ⟨r, 0, none⟩)) 1 rfl (by kernel_rfl) (.inr (fun _ h => st_take [0, 0, 0] h)) (.inl ⟨rfl, fun _ => q_nil_ptr rfl⟩) ?_
  refine Wr.pure (v := Value.pointer (some ⟨r, 1, none⟩)) 2 rfl (by kernel_rfl) (.inr (fun _ h => st_take [0, 0, 0] h)) (.inl ⟨rfl, fun _ => q_field (m := 1) fo_59_1 rfl rfl⟩) ?_
  refine Wr.take (v := Value.string s) 3 rfl (by kernel_rfl) (fun _ h => st_take [0, 0, 0] h) (.inl ⟨rfl, q_load sc_9 rfl (.cel (i := 0) rfl rfl)⟩) ?_
  refine Wr.take (v := Value.pointer (some ⟨r, 0, none⟩)) 4 rfl (by kernel_rfl) (fun _ h => st_take [0, 0, 0] h) (.inl ⟨rfl, q_load sc_31 rfl (.cel (i := 1) rfl rfl)⟩) ?_
  refine Wr.pure (v := Value.pointer (some ⟨r, 0, none⟩)) 5 rfl (by kernel_rfl) (.inr (fun _ h => st_take [0, 0, 0] h)) (.inl ⟨rfl, fun _ => q_nil_ptr rfl⟩) ?_
  refine Wr.pure (v := Value.pointer (some ⟨r, 2, none⟩)) 6 rfl (by kernel_rfl) (.inr (fun _ h => st_take [0, 0, 0] h)) (.inl ⟨rfl, fun _ => q_field (m := 2) fo_59_2 rfl rfl⟩) ?_
  refine Wr.take (v := Value.int .i64 ((a : Nat) : Int)) 7 rfl (by kernel_rfl) (fun _ h => st_take [0, 0, 0] h) (.inl ⟨rfl, q_load sc_3 rfl (.cel (i := 0) rfl rfl)⟩) ?_
  refine Wr.take (v := Value.pointer (some ⟨r, 0, none⟩)) 8 rfl (by kernel_rfl) (fun _ h => st_take [0, 0, 0] h) (.inl ⟨rfl, q_load sc_31 rfl (.cel (i := 1) rfl rfl)⟩) ?_
  refine Wr.pure (v := Value.pointer (some ⟨r, 0, none⟩)) 9 rfl (by kernel_rfl) (.inr (fun _ h => st_take [0, 0, 0] h)) (.inl ⟨rfl, fun _ => q_nil_ptr rfl⟩) ?_
  refine Wr.pure (v := Value.pointer (some ⟨r, 2, none⟩)) 10 rfl (by kernel_rfl) (.inr (fun _ h => st_take [0, 0, 0] h)) (.inl ⟨rfl, fun _ => q_field (m := 2) fo_59_2 rfl rfl⟩) ?_
  refine Wr.take (v := Value.int .i64 ((a : Nat) : Int)) 11 rfl (by kernel_rfl) (fun _ h => st_take [0, 0, 0] h) (.inl ⟨rfl, q_load sc_3 rfl (.cel (i := 0) rfl rfl)⟩) ?_
  refine Wr.pure (v := Value.int .i64 ((n : Nat) : Int)) 12 rfl (by kernel_rfl) (.inr (fun _ h => st_take [0, 0, 0] h)) (.inl ⟨rfl, fun _ => q_move rfl⟩) ?_
  refine Wr.pure (v := Value.int .i64 ((a + n : Nat) : Int)) 13 rfl (by kernel_rfl) (.inr (fun _ h => st_take [0, 0, 0] h)) (.inl ⟨rfl, fun _ => q_add (c := ((a + n : Nat) : Int)) rfl rfl (by rw [wrap_i64] <;> omega)⟩) ?_
  refine Wr.pure (v := Value.string (s.extract a (a + n))) 14 rfl (by kernel_rfl) (.inr (fun _ h => st_take [0, 0, 0] h)) (.inl ⟨rfl, fun _ => q_slice_str (l := a) (h := a + n) Try.underlying9 rfl ⟨_, rfl⟩ ⟨_, rfl⟩ (by omega) (by omega) rfl⟩) ?_
  refine Wr.e 15 (by kernel_rfl) rfl (e_store (i := 2) (v := Value.string (s.extract a (a + n))) sz_9 rfl rfl (fun _ _ => rfl) rfl (by simp)) (.inl (by kernel_rfl)) (fun _ _ => ?_)
  refine Wr.imp (L' := (pt r 59 [Value.bool true, Value.string s, Value.int .i64 ((a : Nat) : Int)]) :: (pt rb 31 [Value.pointer (some ⟨r, 0, none⟩)]) :: (pt nb 9 [Value.string (s.extract a (a + n))]) :: F) (fun _ h => h) ?_
  refine Wr.rebaseS [] ((pt r 59 [Value.bool true, Value.string s, Value.int .i64 ((a : Nat) : Int)]) :: (pt rb 31 [Value.pointer (some ⟨r, 0, none⟩)]) :: (pt nb 9 [Value.string (s.extract a (a + n))]) :: []) (by kernel_rfl) ?_
  refine Wr.done (by kernel_rfl) ?_
  refine Wx.go ?_
  refine Wc.seq ?_
  refine Wc.region ?_
  refine Wl.q (v := Value.pointer (some ⟨r, 0, none⟩)) (q_load sc_31 rfl (.cel (i := 1) rfl rfl)) ?_
  refine Wl.q (v := Value.pointer (some ⟨r, 0, none⟩)) (q_nil_ptr rfl) ?_
  refine Wl.q (v := Value.pointer (some ⟨r, 2, none⟩)) (q_field (m := 2) fo_59_2 rfl rfl) ?_
  refine Wl.q (v := Value.int .i64 ((a : Nat) : Int)) (q_load sc_3 rfl (.cel (i := 0) rfl rfl)) ?_
  refine Wl.q (v := Value.int .i64 ((n : Nat) : Int)) (q_move rfl) ?_
  refine Wl.q (v := Value.int .i64 ((a + n : Nat) : Int)) (q_add (c := ((a + n : Nat) : Int)) rfl rfl (by rw [wrap_i64] <;> omega)) ?_
  refine Wl.q (v := Value.pointer (some ⟨r, 0, none⟩)) (q_nil_ptr rfl) ?_
  refine Wl.q (v := Value.pointer (some ⟨r, 2, none⟩)) (q_field (m := 2) fo_59_2 rfl rfl) ?_
  refine Wl.e (e_store (i := 0) (v := Value.int .i64 ((a + n : Nat) : Int)) sz_3 rfl rfl (fun _ _ => rfl) rfl (by simp)) (fun _ _ => ?_)
  refine Wl.imp (L' := (pt r 59 [Value.bool true, Value.string s, Value.int .i64 ((a + n : Nat) : Int)]) :: (pt rb 31 [Value.pointer (some ⟨r, 0, none⟩)]) :: (pt nb 9 [Value.string (s.extract a (a + n))]) :: F) (fun _ h => h) ?_
  refine Wl.done ?_
  refine Wx.go ?_
  refine Wc.seq ?_
  refine Wc.region ?_
  refine Wl.q (v := Value.int .i64 0) (q_assign rfl) ?_
  refine Wl.done ?_
  refine Wx.go ?_
  refine Wc.ret ?_
  refine Wx.fin1 rfl (.inl rfl) (fun w hs => ?_)
  exact ⟨(), trivial, rfl, (st_pull [1, 1, 0] (hs))⟩

theorem rtext_ok (W0 : World) (r : Nat) (s : ByteArray) (a0 : Nat) (ha0 : a0 ≤ s.size) (hsz : s.size ≤ 9223372036854775807) (n a : Nat) (htk : takeNum s a0 = some ((n : Int), a)) (hn : n ≤ 65536) (hna : a + n ≤ s.size) :
    Con Try.prog W0 25 #[Value.pointer (some ⟨r, 0, none⟩)] [pt r 59 [Value.bool true, Value.string s, Value.int .i64 ((a0 : Nat) : Int)]] (X := Unit) (fun _ => True) (fun _ => .tuple #[Value.string (s.extract a (a + n)), .int .i64 0]) (fun _ => [pt r 59 [Value.bool true, Value.string s, Value.int .i64 (((a + n) : Nat) : Int)]]) := by
  refine Con.of (args := [Value.pointer (some ⟨r, 0, none⟩)]) Try.func25 rfl Try.ntmps25 rfl (fun F => ?_)
  show Wc _ W0 _ _ _ _ _ ((pt r 59 [Value.bool true, Value.string s, Value.int .i64 ((a0 : Nat) : Int)]) :: F)
  refine Wc.seq ?_
  refine Wc.region ?_
  refine Wl.e (e_box (x := .tmp 0) (vs := [Value.pointer (some ⟨r, 0, none⟩)]) rfl) (fun rb _ => ?_)
  refine Wl.imp (L' := (pt rb 31 [Value.pointer (some ⟨r, 0, none⟩)]) :: (pt r 59 [Value.bool true, Value.string s, Value.int .i64 ((a0 : Nat) : Int)]) :: F) (fun _ h => h) ?_
  refine Wl.e (e_alloc (vs := [Value.string (⟨#[]⟩)]) zo_9 rfl) (fun nb _ => ?_)
  refine Wl.imp (L' := (pt nb 9 ([Value.string (⟨#[]⟩)])) :: (pt rb 31 [Value.pointer (some ⟨r, 0, none⟩)]) :: (pt r 59 [Value.bool true, Value.string s, Value.int .i64 ((a0 : Nat) : Int)]) :: F) (fun _ h => h) ?_
  refine Wl.q (v := Value.int .i64 0) (q_assign rfl) ?_
  refine Wl.done ?_
  refine Wx.go ?_
  refine Wc.seq ?_
  refine Wc.region ?_
  refine Wl.q (v := Value.pointer (some ⟨r, 0, none⟩)) (q_load sc_31 rfl (.cel (i := 1) rfl rfl)) ?_
  refine Wl.q (v := Value.func (.func 49) #[] #[Value.pointer (some ⟨rb, 0, none⟩), Value.pointer (some ⟨nb, 0, none⟩)]) (q_makeFunc (us := []) (vs := [Value.pointer (some ⟨rb, 0, none⟩), Value.pointer (some ⟨nb, 0, none⟩)]) rfl rfl) ?_
  refine Wl.imp (L' := (pt rb 31 [Value.pointer (some ⟨r, 0, none⟩)]) :: (pt nb 9 ([Value.string (⟨#[]⟩)])) :: (pt r 59 [Value.bool true, Value.string s, Value.int .i64 ((a0 : Nat) : Int)]) :: F) (fun _ h => st_pull [1, 0, 0] h) ?_
  refine Wl.e (e_call (F := F) (args := [Value.pointer (some ⟨r, 0, none⟩), Value.func (.func 49) #[] #[Value.pointer (some ⟨rb, 0, none⟩), Value.pointer (some ⟨nb, 0, none⟩)]]) Try.call43 rfl (take_Text_ok W0 r rb nb s a0 (a + n) (Value.string (⟨#[]⟩)) (Value.string (s.extract a (a + n))) (text1_ok W0 r rb nb s a0 ha0 hsz n a htk hn hna))) (fun _ _ => ?_)
  refine Wl.imp (L' := (pt rb 31 [Value.pointer (some ⟨r, 0, none⟩)]) :: (pt nb 9 [Value.string (s.extract a (a + n))]) :: (pt r 59 [Value.bool true, Value.string s, Value.int .i64 (((a + n) : Nat) : Int)]) :: F) (fun _ h => h) ?_
  refine Wl.q (v := Value.int .i64 0) (q_assign rfl) ?_
  refine Wl.done ?_
  refine Wx.go ?_
  refine Wc.seq ?_
  refine Wc.region ?_
  refine Wl.q (v := Value.string (s.extract a (a + n))) (q_load sc_9 rfl (.cel (i := 1) rfl rfl)) ?_
  refine Wl.q (v := Value.int .i64 0) (q_move rfl) ?_
  refine Wl.e (e_store (i := 1) (v := Value.string (s.extract a (a + n))) sz_9 rfl rfl (fun _ _ => rfl) rfl (by simp)) (fun _ _ => ?_)
  refine Wl.imp (L' := (pt rb 31 [Value.pointer (some ⟨r, 0, none⟩)]) :: (pt nb 9 [Value.string (s.extract a (a + n))]) :: (pt r 59 [Value.bool true, Value.string s, Value.int .i64 (((a + n) : Nat) : Int)]) :: F) (fun _ h => h) ?_
  refine Wl.q (v := Value.int .i64 0) (q_assign rfl) ?_
  refine Wl.done ?_
  refine Wx.go ?_
  refine Wc.ret ?_
  refine Wx.finC2 rfl (.inl rfl) sc_9 rfl (.cel (i := 1) rfl rfl) (fun w hs => ?_)
  exact ⟨(), trivial, rfl, (st_drop (st_drop (st_pull [0, 0] hs)))⟩

theorem end_yes (W0 : World) (r : Nat) (s : ByteArray) (a : Nat) (h : a = s.size) :
    Con Try.prog W0 18 #[Value.pointer (some ⟨r, 0, none⟩)] [pt r 59 [Value.bool true, Value.string s, Value.int .i64 ((a : Nat) : Int)]] (X := Unit) (fun _ => True) (fun _ => .int .i64 0) (fun _ => [pt r 59 [Value.bool true, Value.string s, Value.int .i64 ((a : Nat) : Int)]]) := by
  refine Con.of (args := [Value.pointer (some ⟨r, 0, none⟩)]) Try.func18 rfl Try.ntmps18 rfl (fun F => ?_)
  show Wc _ W0 _ _ _ _ _ ((pt r 59 [Value.bool true, Value.string s, Value.int .i64 ((a : Nat) : Int)]) :: F)
  refine Wc.seq ?_
  refine Wc.region ?_
  refine Wl.q (v := Value.int .i64 0) (q_assign rfl) ?_
  refine Wl.done ?_
  refine Wx.go ?_
  refine Wc.seq ?_
  refine Wc.seq ?_
  refine Wc.region ?_
  refine Wl.q (v := Value.pointer (some ⟨r, 0, none⟩)) (q_move rfl) ?_
  refine Wl.q (v := Value.bool false) (q_eql_nil (r := false) rfl rfl Try.underlying31 rfl) ?_
  refine Wl.q (v := Value.bool false) (q_move rfl) ?_
  refine Wl.q (v := Value.pointer (some ⟨r, 0, none⟩)) (q_move rfl) ?_
  refine Wl.q (v := Value.pointer (some ⟨r, 0, none⟩)) (q_nil_ptr rfl) ?_
  refine Wl.q (v := Value.pointer (some ⟨r, 0, none⟩)) (q_field (m := 0) fo_59_0 rfl rfl) ?_
  refine Wl.q (v := Value.bool true) (q_load sc_4 rfl (.cel (i := 0) rfl rfl)) ?_
  refine Wl.q (v := Value.bool false) (q_not rfl rfl) ?_
  refine Wl.q (v := Value.bool false) (q_pick (t := false) rfl rfl) ?_
  refine Wl.done ?_
  refine Wx.go ?_
  refine Wc.no rfl ?_
  refine Wc.skip ?_
  refine Wx.go ?_
  refine Wc.seq ?_
  refine Wc.drawsS [10] ((pt r 59 [Value.bool true, Value.string s, Value.int .i64 ((a : Nat) : Int)]) :: []) (by kernel_rfl) ?_
  refine Wr.pure (v := Value.pointer (some ⟨r, 0, none⟩)) 0 rfl (by kernel_rfl) (.inr (fun _ h => st_take [0] h)) (.inl ⟨rfl, fun _ => q_move rfl⟩) ?_
  refine Wr.pure (v := Value.pointer (some ⟨r, 0, none⟩)) 1 rfl (by kernel_rfl) (.inr (fun _ h => st_take [0] h)) (.inl ⟨rfl, fun _ => q_nil_ptr rfl⟩) ?_
  refine Wr.pure (v := Value.pointer (some ⟨r, 2, none⟩)) 2 rfl (by kernel_rfl) (.inr (fun _ h => st_take [0] h)) (.inl ⟨rfl, fun _ => q_field (m := 2) fo_59_2 rfl rfl⟩) ?_
  refine Wr.take (v := Value.int .i64 ((a : Nat) : Int)) 3 rfl (by kernel_rfl) (fun _ h => st_take [0] h) (.inl ⟨rfl, q_load sc_3 rfl (.cel (i := 0) rfl rfl)⟩) ?_
  refine Wr.pure (v := Value.pointer (some ⟨r, 0, none⟩)) 4 rfl (by kernel_rfl) (.inr (fun _ h => st_take [0] h)) (.inl ⟨rfl, fun _ => q_move rfl⟩) ?_
  refine Wr.pure (v := Value.pointer (some ⟨r, 0, none⟩)) 5 rfl (by kernel_rfl) (.inr (fun _ h => st_take [0] h)) (.inl ⟨rfl, fun _ => q_nil_ptr rfl⟩) ?_
  refine Wr.pure (v := Value.pointer (some ⟨r, 1, none⟩)) 6 rfl (by kernel_rfl) (.inr (fun _ h => st_take [0] h)) (.inl ⟨rfl, fun _ => q_field (m := 1) fo_59_1 rfl rfl⟩) ?_
  refine Wr.take (v := Value.string s) 7 rfl (by kernel_rfl) (fun _ h => st_take [0] h) (.inl ⟨rfl, q_load sc_9 rfl (.cel (i := 0) rfl rfl)⟩) ?_
  refine Wr.take (v := Value.int .i64 ((s.size : Nat) : Int)) 8 rfl (by kernel_rfl) (fun _ h => st_take [0] h) (.inl ⟨rfl, q_len_str Try.underlying9 rfl⟩) ?_
  refine Wr.pure (v := Value.bool true) 9 rfl (by kernel_rfl) (.inr (fun _ h => st_take [0] h)) (.inl ⟨rfl, fun _ => q_eql (r := true) rfl rfl (decide_eq_true (by omega))⟩) ?_
  refine Wr.e 10 (by kernel_rfl) rfl (e_call (F := (pt r 59 [Value.bool true, Value.string s, Value.int .i64 ((a : Nat) : Int)]) :: F) (args := [Value.bool true]) Try.call34 rfl (form_t W0)) (.inl (by kernel_rfl)) (fun _ _ => ?_)
  refine Wr.imp (L' := (pt r 59 [Value.bool true, Value.string s, Value.int .i64 ((a : Nat) : Int)]) :: F) (fun _ h => h) ?_
  refine Wr.rebaseS [] ((pt r 59 [Value.bool true, Value.string s, Value.int .i64 ((a : Nat) : Int)]) :: []) (by kernel_rfl) ?_
  refine Wr.pure (v := Value.int .i64 0) 11 rfl (by kernel_rfl) (.inr (fun _ h => st_take [0] h)) (.inl ⟨rfl, fun _ => q_assign rfl⟩) ?_
  refine Wr.done (by kernel_rfl) ?_
  refine Wx.go ?_
  refine Wc.ret ?_
  refine Wx.fin1 rfl (.inl rfl) (fun w hs => ?_)
  exact ⟨(), trivial, rfl, hs⟩

theorem end_no (W0 : World) (r : Nat) (s : ByteArray) (a : Nat) (h : ¬ a = s.size) :
    Con Try.prog W0 18 #[Value.pointer (some ⟨r, 0, none⟩)] [pt r 59 [Value.bool true, Value.string s, Value.int .i64 ((a : Nat) : Int)]] (X := Unit) (fun _ => True) (fun _ => .int .i64 4) (fun _ => [pt r 59 [Value.bool true, Value.string s, Value.int .i64 ((a : Nat) : Int)]]) := by
  refine Con.of (args := [Value.pointer (some ⟨r, 0, none⟩)]) Try.func18 rfl Try.ntmps18 rfl (fun F => ?_)
  show Wc _ W0 _ _ _ _ _ ((pt r 59 [Value.bool true, Value.string s, Value.int .i64 ((a : Nat) : Int)]) :: F)
  refine Wc.seq ?_
  refine Wc.region ?_
  refine Wl.q (v := Value.int .i64 0) (q_assign rfl) ?_
  refine Wl.done ?_
  refine Wx.go ?_
  refine Wc.seq ?_
  refine Wc.seq ?_
  refine Wc.region ?_
  refine Wl.q (v := Value.pointer (some ⟨r, 0, none⟩)) (q_move rfl) ?_
  refine Wl.q (v := Value.bool false) (q_eql_nil (r := false) rfl rfl Try.underlying31 rfl) ?_
  refine Wl.q (v := Value.bool false) (q_move rfl) ?_
  refine Wl.q (v := Value.pointer (some ⟨r, 0, none⟩)) (q_move rfl) ?_
  refine Wl.q (v := Value.pointer (some ⟨r, 0, none⟩)) (q_nil_ptr rfl) ?_
  refine Wl.q (v := Value.pointer (some ⟨r, 0, none⟩)) (q_field (m := 0) fo_59_0 rfl rfl) ?_
  refine Wl.q (v := Value.bool true) (q_load sc_4 rfl (.cel (i := 0) rfl rfl)) ?_
  refine Wl.q (v := Value.bool false) (q_not rfl rfl) ?_
  refine Wl.q (v := Value.bool false) (q_pick (t := false) rfl rfl) ?_
  refine Wl.done ?_
  refine Wx.go ?_
  refine Wc.no rfl ?_
  refine Wc.skip ?_
  refine Wx.go ?_
  refine Wc.seq ?_
  refine Wc.drawsS [10] ((pt r 59 [Value.bool true, Value.string s, Value.int .i64 ((a : Nat) : Int)]) :: []) (by kernel_rfl) ?_
  refine Wr.pure (v := Value.pointer (some ⟨r, 0, none⟩)) 0 rfl (by kernel_rfl) (.inr (fun _ h => st_take [0] h)) (.inl ⟨rfl, fun _ => q_move rfl⟩) ?_
  refine Wr.pure (v := Value.pointer (some ⟨r, 0, none⟩)) 1 rfl (by kernel_rfl) (.inr (fun _ h => st_take [0] h)) (.inl ⟨rfl, fun _ => q_nil_ptr rfl⟩) ?_
  refine Wr.pure (v := Value.pointer (some ⟨r, 2, none⟩)) 2 rfl (by kernel_rfl) (.inr (fun _ h => st_take [0] h)) (.inl ⟨rfl, fun _ => q_field (m := 2) fo_59_2 rfl rfl⟩) ?_
  refine Wr.take (v := Value.int .i64 ((a : Nat) : Int)) 3 rfl (by kernel_rfl) (fun _ h => st_take [0] h) (.inl ⟨rfl, q_load sc_3 rfl (.cel (i := 0) rfl rfl)⟩) ?_
  refine Wr.pure (v := Value.pointer (some ⟨r, 0, none⟩)) 4 rfl (by kernel_rfl) (.inr (fun _ h => st_take [0] h)) (.inl ⟨rfl, fun _ => q_move rfl⟩) ?_
  refine Wr.pure (v := Value.pointer (some ⟨r, 0, none⟩)) 5 rfl (by kernel_rfl) (.inr (fun _ h => st_take [0] h)) (.inl ⟨rfl, fun _ => q_nil_ptr rfl⟩) ?_
  refine Wr.pure (v := Value.pointer (some ⟨r, 1, none⟩)) 6 rfl (by kernel_rfl) (.inr (fun _ h => st_take [0] h)) (.inl ⟨rfl, fun _ => q_field (m := 1) fo_59_1 rfl rfl⟩) ?_
  refine Wr.take (v := Value.string s) 7 rfl (by kernel_rfl) (fun _ h => st_take [0] h) (.inl ⟨rfl, q_load sc_9 rfl (.cel (i := 0) rfl rfl)⟩) ?_
  refine Wr.take (v := Value.int .i64 ((s.size : Nat) : Int)) 8 rfl (by kernel_rfl) (fun _ h => st_take [0] h) (.inl ⟨rfl, q_len_str Try.underlying9 rfl⟩) ?_
  refine Wr.pure (v := Value.bool false) 9 rfl (by kernel_rfl) (.inr (fun _ h => st_take [0] h)) (.inl ⟨rfl, fun _ => q_eql (r := false) rfl rfl (decide_eq_false (by omega))⟩) ?_
  refine Wr.e 10 (by kernel_rfl) rfl (e_call (F := (pt r 59 [Value.bool true, Value.string s, Value.int .i64 ((a : Nat) : Int)]) :: F) (args := [Value.bool false]) Try.call34 rfl (form_f W0)) (.inl (by kernel_rfl)) (fun _ _ => ?_)
  refine Wr.imp (L' := (pt r 59 [Value.bool true, Value.string s, Value.int .i64 ((a : Nat) : Int)]) :: F) (fun _ h => h) ?_
  refine Wr.rebaseS [] ((pt r 59 [Value.bool true, Value.string s, Value.int .i64 ((a : Nat) : Int)]) :: []) (by kernel_rfl) ?_
  refine Wr.pure (v := Value.int .i64 4) 11 rfl (by kernel_rfl) (.inr (fun _ h => st_take [0] h)) (.inl ⟨rfl, fun _ => q_assign rfl⟩) ?_
  refine Wr.done (by kernel_rfl) ?_
  refine Wx.go ?_
  refine Wc.ret ?_
  refine Wx.fin1 rfl (.inl rfl) (fun w hs => ?_)
  exact ⟨(), trivial, rfl, hs⟩

theorem rnew_c (W0 : World) (s : ByteArray) :
    Con Try.prog W0 15 #[Value.string s] [] (X := Nat) (fun _ => True) (fun r => .pointer (some ⟨r, 0, none⟩)) (fun r => [pt r 59 [Value.bool true, Value.string s, Value.int .i64 0]]) := by
  refine Con.of (args := [Value.string s]) Try.func15 rfl Try.ntmps15 rfl (fun F => ?_)
  show Wc _ W0 _ _ _ _ _ (F)
  refine Wc.seq ?_
  refine Wc.region ?_
  refine Wl.q (v := Value.pointer none) (q_assign rfl) ?_
  refine Wl.done ?_
  refine Wx.go ?_
  refine Wc.seq ?_
  refine Wc.region ?_
  refine Wl.q (v := Value.string s) (q_move rfl) ?_
  refine Wl.q (v := Value.agg #[Value.bool true, Value.string s, Value.int .i64 0]) (q_build (pl := [(0, 1), (1, 1), (2, 1)]) Try.underlying59 zo_59 (by kernel_rfl) (by kernel_rfl)) ?_
  refine Wl.e (e_box (x := .tmp 4) (vs := [Value.bool true, Value.string s, Value.int .i64 0]) rfl) (fun r _ => ?_)
  refine Wl.imp (L' := (pt r 59 [Value.bool true, Value.string s, Value.int .i64 0]) :: F) (fun _ h => h) ?_
  refine Wl.q (v := Value.pointer (some ⟨r, 0, none⟩)) (q_assign rfl) ?_
  refine Wl.done ?_
  refine Wx.go ?_
  refine Wc.ret ?_
  refine Wx.fin1 rfl (.inl rfl) (fun w hs => ?_)
  exact ⟨r, trivial, rfl, hs⟩

theorem al_num : [] ++ enc (zz (-65)) = [129, 1] := by
  rw [show zz (-65) = 129 from rfl, enc_ge (by decide), enc_lt (by decide)]; rfl
theorem al_text : [129, 1] ++ enc (zz ((⟨#[97, 98]⟩ : ByteArray).size : Int)) ++ (⟨#[97, 98]⟩ : ByteArray).data.toList = [129, 1, 4, 97, 98] := by
  rw [show zz ((⟨#[97, 98]⟩ : ByteArray).size : Int) = 4 from rfl, enc_lt (by decide)]; rfl

theorem alive_c (W0 : World)  :
    Con Try.prog W0 13 #[] [] (X := Unit) (fun _ => True) (fun _ => .bool true) (fun _ => []) := by
  refine Con.of (args := []) Try.func13 rfl Try.ntmps13 rfl (fun F => ?_)
  show Wc _ W0 _ _ _ _ _ (F)
  refine Wc.seq ?_
  refine Wc.region ?_
  refine Wl.q (v := Value.bool false) (q_assign rfl) ?_
  refine Wl.done ?_
  refine Wx.go ?_
  refine Wc.seq ?_
  refine Wc.region ?_
  refine Wl.e (e_call (F := F) (args := []) Try.call10 rfl (wnew_c W0)) (fun q _ => ?_)
  refine Wl.imp (L' := (isW q []) :: F) (fun _ h => h) ?_
  refine Wl.q (v := Value.pointer (some ⟨q, 0, none⟩)) (q_assign rfl) ?_
  refine Wl.done ?_
  refine Wx.go ?_
  refine Wc.seq ?_
  refine Wc.seq ?_
  refine Wc.region ?_
  refine Wl.q (v := Value.pointer (some ⟨q, 0, none⟩)) (q_move rfl) ?_
  refine Wl.q (v := Value.bool false) (q_eql_nil (r := false) rfl rfl Try.underlying22 rfl) ?_
  refine Wl.done ?_
  refine Wx.go ?_
  refine Wc.no rfl ?_
  refine Wc.skip ?_
  refine Wx.go ?_
  refine Wc.seq ?_
  refine Wc.region ?_
  refine Wl.q (v := Value.pointer (some ⟨q, 0, none⟩)) (q_move rfl) ?_
  refine Wl.e (e_call (F := F) (args := [Value.pointer (some ⟨q, 0, none⟩), Value.int .i64 (-65)]) Try.call11 rfl (Con.eqs (post' := fun _ => [isW q [129, 1]]) (wnumber_c W0 q [] (-65) (by decide) (by decide) (by decide)) (fun _ => rfl) (fun _ => congrArg (fun l => [isW q l]) al_num))) (fun _ _ => ?_)
  refine Wl.imp (L' := (isW q [129, 1]) :: F) (fun _ h => h) ?_
  refine Wl.q (v := Value.int .i64 0) (q_assign rfl) ?_
  refine Wl.done ?_
  refine Wx.go ?_
  refine Wc.seq ?_
  refine Wc.region ?_
  refine Wl.q (v := Value.pointer (some ⟨q, 0, none⟩)) (q_move rfl) ?_
  refine Wl.e (e_call (F := F) (args := [Value.pointer (some ⟨q, 0, none⟩), Value.string (⟨#[97, 98]⟩)]) Try.call28 rfl (Con.eqs (post' := fun _ => [isW q [129, 1, 4, 97, 98]]) (wtext_c W0 q [129, 1] (⟨#[97, 98]⟩ : ByteArray) (by decide) (by decide)) (fun _ => rfl) (fun _ => congrArg (fun l => [isW q l]) al_text))) (fun _ _ => ?_)
  refine Wl.imp (L' := (isW q [129, 1, 4, 97, 98]) :: F) (fun _ h => h) ?_
  refine Wl.q (v := Value.int .i64 0) (q_assign rfl) ?_
  refine Wl.done ?_
  refine Wx.go ?_
  refine Wc.seq ?_
  refine Wc.region ?_
  refine Wl.e (e_call (F := (isW q [129, 1, 4, 97, 98]) :: F) (args := [Value.string (⟨#[129, 1, 4, 97, 98]⟩)]) Try.call15 rfl (rnew_c W0 (⟨#[129, 1, 4, 97, 98]⟩ : ByteArray))) (fun r _ => ?_)
  refine Wl.imp (L' := (pt r 59 ([Value.bool true, Value.string (⟨#[129, 1, 4, 97, 98]⟩ : ByteArray), Value.int .i64 0])) :: (isW q [129, 1, 4, 97, 98]) :: F) (fun _ h => h) ?_
  refine Wl.q (v := Value.pointer (some ⟨r, 0, none⟩)) (q_assign rfl) ?_
  refine Wl.done ?_
  refine Wx.go ?_
  refine Wc.seq ?_
  refine Wc.seq ?_
  refine Wc.region ?_
  refine Wl.q (v := Value.pointer (some ⟨r, 0, none⟩)) (q_move rfl) ?_
  refine Wl.q (v := Value.bool false) (q_eql_nil (r := false) rfl rfl Try.underlying31 rfl) ?_
  refine Wl.done ?_
  refine Wx.go ?_
  refine Wc.no rfl ?_
  refine Wc.skip ?_
  refine Wx.go ?_
  refine Wc.seq ?_
  refine Wc.region ?_
  refine Wl.q (v := Value.pointer (some ⟨r, 0, none⟩)) (q_move rfl) ?_
  refine Wl.e (e_call (F := (isW q [129, 1, 4, 97, 98]) :: F) (args := [Value.pointer (some ⟨r, 0, none⟩)]) Try.call23 rfl (rnumber_ok W0 r (⟨#[129, 1, 4, 97, 98]⟩ : ByteArray) 0 (by decide) (by decide) (-65) 2 (by kernel_rfl))) (fun _ _ => ?_)
  refine Wl.imp (L' := (pt r 59 ([Value.bool true, Value.string (⟨#[129, 1, 4, 97, 98]⟩ : ByteArray), Value.int .i64 2])) :: (isW q [129, 1, 4, 97, 98]) :: F) (fun _ h => h) ?_
  refine Wl.q (v := Value.tuple #[Value.int .i64 (-65), Value.int .i64 0]) (q_move rfl) ?_
  refine Wl.q (v := Value.int .i64 (-65)) (q_extract (i := 0) rfl rfl) ?_
  refine Wl.q (v := Value.int .i64 0) (q_extract (i := 1) rfl rfl) ?_
  refine Wl.q (v := Value.int .i64 (-65)) (q_assign rfl) ?_
  refine Wl.q (v := Value.int .i64 0) (q_assign rfl) ?_
  refine Wl.done ?_
  refine Wx.go ?_
  refine Wc.seq ?_
  refine Wc.region ?_
  refine Wl.q (v := Value.pointer (some ⟨r, 0, none⟩)) (q_move rfl) ?_
  refine Wl.e (e_call (F := (isW q [129, 1, 4, 97, 98]) :: F) (args := [Value.pointer (some ⟨r, 0, none⟩)]) Try.call25 rfl (Con.eqs (val' := fun _ => .tuple #[.string (⟨#[97, 98]⟩ : ByteArray), .int .i64 0]) (post' := fun _ => [pt r 59 ([Value.bool true, Value.string (⟨#[129, 1, 4, 97, 98]⟩ : ByteArray), Value.int .i64 5])]) (rtext_ok W0 r (⟨#[129, 1, 4, 97, 98]⟩ : ByteArray) 2 (by decide) (by decide) 2 3 (by kernel_rfl) (by decide) (by decide)) (fun _ => by kernel_rfl) (fun _ => rfl))) (fun _ _ => ?_)
  refine Wl.imp (L' := (pt r 59 ([Value.bool true, Value.string (⟨#[129, 1, 4, 97, 98]⟩ : ByteArray), Value.int .i64 5])) :: (isW q [129, 1, 4, 97, 98]) :: F) (fun _ h => h) ?_
  refine Wl.q (v := Value.tuple #[Value.string (⟨#[97, 98]⟩ : ByteArray), Value.int .i64 0]) (q_move rfl) ?_
  refine Wl.q (v := Value.string (⟨#[97, 98]⟩ : ByteArray)) (q_extract (i := 0) rfl rfl) ?_
  refine Wl.q (v := Value.int .i64 0) (q_extract (i := 1) rfl rfl) ?_
  refine Wl.q (v := Value.string (⟨#[97, 98]⟩ : ByteArray)) (q_assign rfl) ?_
  refine Wl.q (v := Value.int .i64 0) (q_assign rfl) ?_
  refine Wl.done ?_
  refine Wx.go ?_
  refine Wc.seq ?_
  refine Wc.region ?_
  refine Wl.q (v := Value.int .i64 0) (q_move rfl) ?_
  refine Wl.q (v := Value.bool true) (q_eql (r := true) rfl rfl (decide_eq_true (by decide))) ?_
  refine Wl.q (v := Value.bool true) (q_move rfl) ?_
  refine Wl.q (v := Value.int .i64 0) (q_move rfl) ?_
  refine Wl.q (v := Value.bool true) (q_eql (r := true) rfl rfl (decide_eq_true (by decide))) ?_
  refine Wl.q (v := Value.bool true) (q_pick (t := true) rfl rfl) ?_
  refine Wl.q (v := Value.bool true) (q_move rfl) ?_
  refine Wl.q (v := Value.pointer (some ⟨q, 0, none⟩)) (q_move rfl) ?_
  refine Wl.imp (L' := (isW q [129, 1, 4, 97, 98]) :: (pt r 59 ([Value.bool true, Value.string (⟨#[129, 1, 4, 97, 98]⟩ : ByteArray), Value.int .i64 5])) :: F) (fun _ h => st_pull [1] h) ?_
  refine Wl.e (e_call (F := (pt r 59 ([Value.bool true, Value.string (⟨#[129, 1, 4, 97, 98]⟩ : ByteArray), Value.int .i64 5])) :: F) (args := [Value.pointer (some ⟨q, 0, none⟩)]) Try.call12 rfl (wbytes_c W0 q [129, 1, 4, 97, 98])) (fun _ _ => ?_)
  refine Wl.imp (L' := (isW q [129, 1, 4, 97, 98]) :: (pt r 59 ([Value.bool true, Value.string (⟨#[129, 1, 4, 97, 98]⟩ : ByteArray), Value.int .i64 5])) :: F) (fun _ h => h) ?_
  refine Wl.q (v := Value.bool true) (q_eql_str (r := true) rfl rfl (text_true (rfl))) ?_
  refine Wl.q (v := Value.bool true) (q_pick (t := true) rfl rfl) ?_
  refine Wl.q (v := Value.bool true) (q_move rfl) ?_
  refine Wl.q (v := Value.int .i64 (-65)) (q_move rfl) ?_
  refine Wl.q (v := Value.bool true) (q_eql (r := true) rfl rfl (decide_eq_true (by decide))) ?_
  refine Wl.q (v := Value.bool true) (q_pick (t := true) rfl rfl) ?_
  refine Wl.q (v := Value.bool true) (q_move rfl) ?_
  refine Wl.q (v := Value.int .i64 0) (q_move rfl) ?_
  refine Wl.q (v := Value.bool true) (q_eql (r := true) rfl rfl (decide_eq_true (by decide))) ?_
  refine Wl.q (v := Value.bool true) (q_pick (t := true) rfl rfl) ?_
  refine Wl.q (v := Value.bool true) (q_move rfl) ?_
  refine Wl.q (v := Value.string (⟨#[97, 98]⟩ : ByteArray)) (q_move rfl) ?_
  refine Wl.q (v := Value.bool true) (q_eql_str (r := true) rfl rfl (text_true (rfl))) ?_
  refine Wl.q (v := Value.bool true) (q_pick (t := true) rfl rfl) ?_
  refine Wl.q (v := Value.bool true) (q_move rfl) ?_
  refine Wl.q (v := Value.int .i64 0) (q_move rfl) ?_
  refine Wl.q (v := Value.bool true) (q_eql (r := true) rfl rfl (decide_eq_true (by decide))) ?_
  refine Wl.q (v := Value.bool true) (q_pick (t := true) rfl rfl) ?_
  refine Wl.q (v := Value.bool true) (q_move rfl) ?_
  refine Wl.q (v := Value.pointer (some ⟨r, 0, none⟩)) (q_move rfl) ?_
  refine Wl.imp (L' := (pt r 59 ([Value.bool true, Value.string (⟨#[129, 1, 4, 97, 98]⟩ : ByteArray), Value.int .i64 5])) :: (isW q [129, 1, 4, 97, 98]) :: F) (fun _ h => st_pull [1] h) ?_
  refine Wl.e (e_call (F := (isW q [129, 1, 4, 97, 98]) :: F) (args := [Value.pointer (some ⟨r, 0, none⟩)]) Try.call18 rfl (end_yes W0 r (⟨#[129, 1, 4, 97, 98]⟩ : ByteArray) 5 (by decide))) (fun _ _ => ?_)
  refine Wl.imp (L' := (pt r 59 ([Value.bool true, Value.string (⟨#[129, 1, 4, 97, 98]⟩ : ByteArray), Value.int .i64 5])) :: (isW q [129, 1, 4, 97, 98]) :: F) (fun _ h => h) ?_
  refine Wl.q (v := Value.bool true) (q_eql (r := true) rfl rfl (decide_eq_true (by decide))) ?_
  refine Wl.q (v := Value.bool true) (q_pick (t := true) rfl rfl) ?_
  refine Wl.q (v := Value.bool true) (q_move rfl) ?_
  refine Wl.e (e_call (F := (pt r 59 ([Value.bool true, Value.string (⟨#[129, 1, 4, 97, 98]⟩ : ByteArray), Value.int .i64 5])) :: (isW q [129, 1, 4, 97, 98]) :: F) (args := [Value.string (⟨#[120]⟩)]) Try.call15 rfl (rnew_c W0 (⟨#[120]⟩ : ByteArray))) (fun r2 _ => ?_)
  refine Wl.imp (L' := (pt r2 59 ([Value.bool true, Value.string (⟨#[120]⟩ : ByteArray), Value.int .i64 0])) :: (pt r 59 ([Value.bool true, Value.string (⟨#[129, 1, 4, 97, 98]⟩ : ByteArray), Value.int .i64 5])) :: (isW q [129, 1, 4, 97, 98]) :: F) (fun _ h => h) ?_
  refine Wl.e (e_call (F := (pt r 59 ([Value.bool true, Value.string (⟨#[129, 1, 4, 97, 98]⟩ : ByteArray), Value.int .i64 5])) :: (isW q [129, 1, 4, 97, 98]) :: F) (args := [Value.pointer (some ⟨r2, 0, none⟩)]) Try.call18 rfl (end_no W0 r2 (⟨#[120]⟩ : ByteArray) 0 (by decide))) (fun _ _ => ?_)
  refine Wl.imp (L' := (pt r2 59 ([Value.bool true, Value.string (⟨#[120]⟩ : ByteArray), Value.int .i64 0])) :: (pt r 59 ([Value.bool true, Value.string (⟨#[129, 1, 4, 97, 98]⟩ : ByteArray), Value.int .i64 5])) :: (isW q [129, 1, 4, 97, 98]) :: F) (fun _ h => h) ?_
  refine Wl.q (v := Value.bool true) (q_eql (r := true) rfl rfl (decide_eq_true (by decide))) ?_
  refine Wl.q (v := Value.bool true) (q_pick (t := true) rfl rfl) ?_
  refine Wl.q (v := Value.bool true) (q_assign rfl) ?_
  refine Wl.done ?_
  refine Wx.go ?_
  refine Wc.ret ?_
  refine Wx.fin1 rfl (.inl rfl) (fun w hs => ?_)
  exact ⟨(), trivial, rfl, (st_drop (st_drop (st_drop (st_pull [0, 0, 0] hs))))⟩

end Go.Proofs.Ytlbanhhdoiidnaa
